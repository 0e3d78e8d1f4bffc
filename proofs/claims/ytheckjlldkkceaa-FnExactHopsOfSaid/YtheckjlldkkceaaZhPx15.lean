import Derived.Test.YtheckjlldkkceaaZhPx0
import Derived.Test.YtheckjlldkkceaaZhPx3
import Derived.Test.YtheckjlldkkceaaZhPx6
import Derived.Test.YtheckjlldkkceaaZhPx9
namespace Go.Proofs.Ytheckjlldkkceaa.Px
open Go.RowKit Go.Proofs.YtheckjlldkkceaaW.PrintWords Go.Proofs.YtheckjlldkkceaaW.PrintLast Go.Proofs.YtheckjlldkkceaaW.PrintMore
attribute [local go_sem] max2_int min2_int max_two min_two max_three min_three max_four min_four   
set_option linter.unusedVariables false
set_option linter.unusedSimpArgs false
mutual
def impl_TakeBag.j0 : Nat → Int → Int → Bool → Int → List (List (S30)) → Option (Int × (List (List (S30))) × (List (S78)) × Bool)
 | 0, _, _, _, _, _ => none
 | k + 1, x1, x7, x21, x720000, x720001 => if x21 = true then ((impl_copyStore.f k x720000 x720001).bind fun bt723 => (some (bt723.1, bt723.2, ([] : List (S78)), false))) else ((impl_copyStore.f k x720000 x720001).bind fun bt727 => (impl_TakeBag.l0 k x1 x7 ([] : List (S78)) x720000 x720001 bt727.1 bt727.2))
def impl_TakeBag.l0 : Nat → Int → Int → List (S78) → Int → List (List (S30)) → Int → List (List (S30)) → Option (Int × (List (List (S30))) × (List (S78)) × Bool)
 | 0, _, _, _, _, _, _, _ => none
 | k + 1, x1, x7, x9, x720000, x720001, x732000, x732001 => if 0 ≤ x7 then (if x7 < (x732001.length : Int) then (if 0 ≤ (wrap64 (((rd_L2 x732001 x7).length : Int) - 1)) then (if (wrap64 (((rd_L2 x732001 x7).length : Int) - 1)) < ((rd_L2 x732001 x7).length : Int) then (if ((rd_T30 (rd_L2 x732001 x7) (wrap64 (((rd_L2 x732001 x7).length : Int) - 1))).f0) = x1 then (if (wrap64 (((rd_L2 x732001 x7).length : Int) - 1)) ≤ ((rd_L2 x732001 x7).length : Int) then (some (x732000, (x732001.set (x7 : Int).toNat ((rd_L2 x732001 x7).take ((wrap64 (((rd_L2 x732001 x7).length : Int) - 1)) : Int).toNat)), x9, true)) else (none)) else ((impl_laneFor.f k x732000 x732001 ((rd_T30 (rd_L2 x732001 x7) (wrap64 (((rd_L2 x732001 x7).length : Int) - 1))).f1) x7).bind fun t743 => (if t743 < 0 then ((impl_copyStore.f k x720000 x720001).bind fun bt744 => (some (bt744.1, bt744.2, ([] : List (S78)), false))) else (if (wrap64 (((rd_L2 x732001 x7).length : Int) - 1)) ≤ ((rd_L2 x732001 x7).length : Int) then ((some (x732001.set (x7 : Int).toNat ((rd_L2 x732001 x7).take ((wrap64 (((rd_L2 x732001 x7).length : Int) - 1)) : Int).toNat) : List (List (S30)))).bind fun y754 => (if 0 ≤ t743 then (if t743 < (x732001.length : Int) then (if t743 = x7 then (none) else (if (rd_L2 y754 t743).length < 8796093022208 then (if x9.length < 5864062014805 then (impl_TakeBag.l0 k x1 x7 (x9 ++ [(⟨(rd_T30 (rd_L2 x732001 x7) (wrap64 (((rd_L2 x732001 x7).length : Int) - 1))).f0, x7, t743⟩ : S78)]) x720000 x720001 x732000 (y754.set (t743 : Int).toNat ((rd_L2 y754 t743) ++ [(⟨(rd_T30 (rd_L2 x732001 x7) (wrap64 (((rd_L2 x732001 x7).length : Int) - 1))).f0, (rd_T30 (rd_L2 x732001 x7) (wrap64 (((rd_L2 x732001 x7).length : Int) - 1))).f1⟩ : S30)]))) else (none)) else (none))) else (none)) else (none))) else (none))))) else (none)) else (none)) else (none)) else (none)
end
def impl_TakeBag.f (k : Nat) (a0_0 : Int) (l0_1 : List (List (S30))) (a1 : Int) : Option (Int × (List (List (S30))) × (List (S78)) × Bool) := (impl_laneOf.f a0_0 l0_1 a1).bind fun t721 => ((impl_StoreOk.f k a0_0 l0_1).bind fun t722 => (if t722 = true then (impl_TakeBag.j0 k a1 t721 (decide (t721 < 0)) a0_0 l0_1) else (impl_TakeBag.j0 k a1 t721 true a0_0 l0_1)))
def impl_TakeBag.T6 : Bool × List (List Nat × List Nat) := (true, [([], []), ([0], [0]), ([], []), ([1, 2], [1, 2]), ([3], [3]), ([], []), ([5], [5]), ([], []), ([6, 7], [6, 7]), ([8], [8]), ([9], [9]), ([10], [10]), ([4, 11], [4, 11]), ([12], [12]), ([], []), ([14, 13, 0, 1, 2, 3, 4, 5, 6, 7, 8, 9, 10, 11, 12, 13, 14], [13, 14])])
def impl_TakeBag.B6 : List Nat := [0, 1, 0, 7, 15, 0, 32, 0, 224, 480, 992, 2016, 4095, 8191, 0, 32767]
theorem impl_TakeBag.tab6 : rtab .any (opsOf Try.f37 6) = impl_TakeBag.T6 := by kernel_rfl
theorem impl_TakeBag.bits6 : waitsOk impl_TakeBag.T6.2 impl_TakeBag.B6 = true := by kernel_rfl
def impl_TakeBag.T14 : Bool × List (List Nat × List Nat) := (true, [([], []), ([0], [0]), ([], []), ([], []), ([3], [3]), ([], []), ([4, 5], [4, 5]), ([6], [6]), ([], []), ([8], [8]), ([7, 9], [7, 9]), ([1, 2, 0, 1, 2, 3, 4, 5, 6, 7, 8, 9, 10], [1, 2]), ([11, 10, 10, 0, 1, 2, 3, 4, 5, 6, 7, 8, 9, 10], [10, 11])])
def impl_TakeBag.B14 : List Nat := [0, 1, 0, 0, 8, 0, 56, 120, 0, 256, 1016, 2047, 4095]
theorem impl_TakeBag.tab14 : rtab .any (opsOf Try.f37 14) = impl_TakeBag.T14 := by kernel_rfl
theorem impl_TakeBag.bits14 : waitsOk impl_TakeBag.T14.2 impl_TakeBag.B14 = true := by kernel_rfl
set_option maxHeartbeats 8000000 in
set_option maxRecDepth 100000 in
theorem impl_TakeBag.calls (k : Nat) (a0_0 : Int) (aH : Option Addr) (aI : Nat) (ar : List (List (S30))) (a1 : Int) (r1 : Int) (r2 : List (List (S30))) (r3 : List (S78)) (r4 : Bool) (w : World) (ez : Kd.C (Kd.slice 30 k30) w aH ar.length ar) (hc0_1 : ar.length ≤ aI) (h : impl_TakeBag.f k a0_0 ar a1 = some (r1, r2, r3, r4)) :
  Calls Try.prog 37 #[.agg #[.int .i64 a0_0, .slice aH ar.length aI], .int .i64 a1] w fun e w' => ∃ v1_ v2_ : Value, e = .returned (.tuple #[.agg #[.int .i64 r1, v1_], v2_, .bool r4]) ∧ Kd.S (Kd.slice 30 k30) 28 w' w.heap.size (fun _ => True) v1_ r2 ∧ Kd.R k78 78 w' w.heap.size (fun _ => True) v2_ r3 ∧ Below w.heap.size w w' := by
 have hu24 := Try.underlying24; have hu30 := Try.underlying30; have hu78 := Try.underlying78; have bY := zK ez; have bZ := zK hc0_1; clear ez hc0_1
 have HB := zK (Below.refl w.heap.size w)
 have H : ((impl_laneOf.f a0_0 ar a1).bind fun ac => ((impl_StoreOk.f k a0_0 ar).bind fun dl => (if dl = true then (impl_TakeBag.j0 k a1 ac (decide (ac < 0)) a0_0 ar) else (impl_TakeBag.j0 k a1 ac true a0_0 ar)))) = some (r1, r2, r3, r4) := h
 clear h; replace H := Option.bind_eq_some_iff.mp H
 obtain ⟨ac, A30, H⟩ := H
 replace H : ((impl_StoreOk.f k a0_0 ar).bind fun dl => (if dl = true then (impl_TakeBag.j0 k a1 ac (decide (ac < 0)) a0_0 ar) else (impl_TakeBag.j0 k a1 ac true a0_0 ar))) = some (r1, r2, r3, r4) := H
 have A3 := zK A30; clear A30; have HC4 := zK H; clear H
 go_enter Try.func37, Try.ntmps37
 go_upto_region 2 with (first | ((with_reducible refine gate_dst (N := 2) rfl ?_); refine box_event ?hg (N := 2) ?hd (cs := #[.int .i64 a0_0, .slice aH ar.length aI]) (t := 24) ?hr ?_; (case hd => rfl); (case hg => rfl); (case hr => first | (go_simp; done) | (go_simp; rfl)); intro ao hg w5 hbox hb; have aV := zK (below_step (by repeat (first | (with_reducible first | exact HB.out | apply zB | apply zC | apply zE) | exact HB.out)) hb); have aW := zK (hbox); have aX := zK ((by rw [hg]; exact (below_size (by repeat (first | (with_reducible first | exact HB.out | apply zB | apply zC | apply zE) | exact HB.out))) : w.heap.size ≤ ao)); have a0 := zK ((by rw [hg]; exact (below_size (by repeat (first | (with_reducible first | exact HB.out | apply zB | apply zC | apply zE) | exact HB.out))) : w.heap.size ≤ ao)); clear HB; have HB := aV; have ag := aW; have GW719 := aX; have aw := a0; clear aV aW aX a0; clear hb hbox hg) | ((with_reducible refine gate_dst (N := 4) rfl ?_); refine box_event ?hg (N := 4) ?hd (cs := #[.int .i64 0, .slice none 0 0]) (t := 24) ?hr ?_; (case hd => rfl); (case hg => rfl); (case hr => first | (go_simp; done) | (go_simp; rfl)); intro an hg w6 hbox hb; have aV := zK (blk_below (g := ao) (o := .cells #[.int .i64 a0_0, .slice aH ar.length aI] 24 (0, 0)) (by (with_reducible repeat (first | refine zN ?_ _ | refine zD ?_ | refine zA ?_ _)); exact ag.out) hb); have aW := zK (below_step (by repeat (first | (with_reducible first | exact HB.out | apply zB | apply zC | apply zE | refine zS ?_ aw.out) | exact HB.out)) hb); have aX := zK (hbox); have a0 := zK ((by rw [hg]; exact (below_size (by repeat (first | (with_reducible first | exact HB.out | apply zB | apply zC | apply zE | refine zS ?_ aw.out) | exact HB.out))) : w.heap.size ≤ an)); have a6 := zK ((by rw [hg]; exact (below_size (by repeat (first | (with_reducible first | exact HB.out | apply zB | apply zC | apply zE | refine zS ?_ aw.out) | exact HB.out))) : w.heap.size ≤ an)); have a7 := zK ((by rw [hg]; exact Nat.ne_of_lt (blk_lt (g := ao) (o := .cells #[.int .i64 a0_0, .slice aH ar.length aI] 24 (0, 0)) (by (with_reducible repeat (first | refine zN ?_ _ | refine zD ?_ | refine zA ?_ _)); exact ag.out)) : ao ≠ an)); have bg := zK ((by rw [hg]; exact Nat.ne_of_gt (blk_lt (g := ao) (o := .cells #[.int .i64 a0_0, .slice aH ar.length aI] 24 (0, 0)) (by (with_reducible repeat (first | refine zN ?_ _ | refine zD ?_ | refine zA ?_ _)); exact ag.out)) : an ≠ ao)); clear ag; clear HB; have ag := aV; have HB := aW; have ai := aX; have GW720 := a0; have az := a6; have a8 := a7; have a9 := bg; clear aV aW aX a0 a6 a7 bg; clear hb hbox hg; have hnb7 := a8.out; have hnc7 := a9.out; have dn : w6.cell? ⟨ao, 0, none⟩ = some (.int .i64 a0_0) := (blk_cell ag.out 0).trans rfl; have dp : w6.cell? ⟨ao, 1, none⟩ = some (.slice aH ar.length aI) := (blk_cell ag.out 1).trans rfl; have dq := blk_frozen ag.out 0; have dr := blk_frozen ag.out 1) | ((with_reducible refine gate_callee (f := 74) rfl ?_); refine goesL_ (some 14) rfl rfl Try.func74 (by kernel_rfl) rfl #[.agg #[.int .i64 a0_0, .slice aH ar.length aI], .int .i64 a1] rfl (by (try simp only [List.map_toArray, List.map_cons, List.map_nil]); first | done | rfl | (simp only [List.length_drop, List.length_take]; rfl)) ?_; (with_reducible refine (impl_laneOf.calls a0_0 _ _ ar a1 ac _ ?side1 ?side2 A3.out).mono ?_); (case side1 => repeat (first | exact (Kd.C_below bY.out HB.out) | (with_reducible refine Kd.C_alloc ?_ _) | (with_reducible refine Kd.C_drewN ?_ _) | (with_reducible refine Kd.C_drew ?_))); (case side2 => exact bZ.out); rintro e w9 ⟨rfl, hb⟩; refine ⟨_, rfl, ?_⟩; have aV := zK (blk_below (g := ao) (o := .cells #[.int .i64 a0_0, .slice aH ar.length aI] 24 (0, 0)) (by (with_reducible repeat (first | refine zN ?_ _ | refine zD ?_ | refine zA ?_ _)); exact ag.out) hb); have aW := zK (blk_below (g := an) (o := .cells #[.int .i64 0, .slice none 0 0] 24 (0, 0)) (by (with_reducible repeat (first | refine zN ?_ _ | refine zD ?_ | refine zA ?_ _)); exact ai.out) hb); have aX := zK (below_step (by repeat (first | (with_reducible first | exact HB.out | apply zB | apply zC | apply zE | refine zS ?_ aw.out | refine zS ?_ az.out) | exact HB.out)) hb); clear ag; clear ai; clear HB; have ag := aV; have ai := aW; have HB := aX; clear aV aW aX; (try clear hb)))
 (try simp only [Act.put, zp, zq, zr])
 go_cut [21] (fun v21 wc => ∃ (kq : Nat) (cF : Bool), v21 = .bool cF ∧ Aside0 (impl_TakeBag.j0 kq a1 ac cF a0_0 ar = some (r1, r2, r3, r4)) ∧ Aside0 (kq ≤ k) ∧ Aside0 (wc.heap[ao]? = some (.cells #[.int .i64 a0_0, (.slice aH ar.length aI)] 24 (0, 0))) ∧ Aside0 (wc.heap[an]? = some (.cells #[.int .i64 0, (.slice none 0 0)] 24 (0, 0))) ∧ Aside0 (Below w.heap.size w wc))
 case first =>
  have H := HC4.out; clear HC4; replace H := Option.bind_eq_some_iff.mp H
  obtain ⟨dl, fs, H⟩ := H
  replace H : (if dl = true then (impl_TakeBag.j0 k a1 ac (decide (ac < 0)) a0_0 ar) else (impl_TakeBag.j0 k a1 ac true a0_0 ar)) = some (r1, r2, r3, r4) := H
  have A10 := zK fs; clear fs
  by_cases fn : dl = true
  ·subst fn
   have H1 : (impl_TakeBag.j0 k a1 ac (decide (ac < 0)) a0_0 ar) = some (r1, r2, r3, r4) := by rw [if_pos rfl] at H; exact H
   clear H; have H := H1; clear H1; have H' := zK H; clear H; have hnb12 := a8.out; have hnc12 := a9.out
   have cG : w9.cell? ⟨ao, 0, none⟩ = some (.int .i64 a0_0) := (blk_cell ag.out 0).trans rfl
   have cH : w9.cell? ⟨ao, 1, none⟩ = some (.slice aH ar.length aI) := (blk_cell ag.out 1).trans rfl
   have cI := blk_frozen ag.out 0; have cJ := blk_frozen ag.out 1
   go_wp2_with (first | ((with_reducible refine gate_callee (f := 22) rfl ?_); refine goesL_ (some 16) rfl rfl Try.func22 (by kernel_rfl) rfl #[.agg #[.int .i64 a0_0, .slice aH ar.length aI]] rfl (by (try simp only [List.map_toArray, List.map_cons, List.map_nil]); first | done | rfl | (simp only [List.length_drop, List.length_take]; rfl)) ?_; (with_reducible refine (impl_StoreOk.calls k a0_0 _ _ ar true _ ?side1 ?side2 A10.out).mono ?_); (case side1 => repeat (first | exact (Kd.C_below bY.out HB.out) | (with_reducible refine Kd.C_alloc ?_ _) | (with_reducible refine Kd.C_drewN ?_ _) | (with_reducible refine Kd.C_drew ?_))); (case side2 => exact bZ.out); rintro e w14 ⟨rfl, hb⟩; refine ⟨_, rfl, ?_⟩; have aV := zK (blk_below (g := ao) (o := .cells #[.int .i64 a0_0, .slice aH ar.length aI] 24 (0, 0)) (by (with_reducible repeat (first | refine zN ?_ _ | refine zD ?_ | refine zA ?_ _)); exact ag.out) hb); have aW := zK (blk_below (g := an) (o := .cells #[.int .i64 0, .slice none 0 0] 24 (0, 0)) (by (with_reducible repeat (first | refine zN ?_ _ | refine zD ?_ | refine zA ?_ _)); exact ai.out) hb); have aX := zK (below_step (by repeat (first | (with_reducible first | exact HB.out | apply zB | apply zC | apply zE | refine zS ?_ aw.out | refine zS ?_ az.out) | exact HB.out)) hb); clear ag; clear ai; clear HB; have ag := aV; have ai := aW; have HB := aX; clear aV aW aX; (try clear hb)))
   go_meet
   case rel => exact ⟨_, (decide (ac < 0)), (by first | rfl | (simp; done) | (simp [*]; done)), H', ⟨by first | omega | exact Nat.le_refl _⟩, ⟨by (with_reducible repeat (first | refine zN ?_ _ | refine zD ?_ | refine zA ?_ _)); exact ag.out⟩, ⟨by (with_reducible repeat (first | refine zN ?_ _ | refine zD ?_ | refine zA ?_ _)); exact ai.out⟩, ⟨by repeat (first | (with_reducible first | exact HB.out | apply zB | apply zC | apply zE | refine zS ?_ aw.out | refine zS ?_ az.out) | exact HB.out)⟩⟩
  ·replace fn := Bool.eq_false_iff.mpr fn
   subst fn
   have H1 : (impl_TakeBag.j0 k a1 ac true a0_0 ar) = some (r1, r2, r3, r4) := by rw [if_neg (show ¬ (false = true) by decide)] at H; exact H
   clear H; have H := H1; clear H1; have H' := zK H; clear H; have hnb15 := a8.out; have hnc15 := a9.out
   have cK : w9.cell? ⟨ao, 0, none⟩ = some (.int .i64 a0_0) := (blk_cell ag.out 0).trans rfl
   have cL : w9.cell? ⟨ao, 1, none⟩ = some (.slice aH ar.length aI) := (blk_cell ag.out 1).trans rfl
   have cM := blk_frozen ag.out 0; have cN := blk_frozen ag.out 1
   go_wp2_with (first | ((with_reducible refine gate_callee (f := 22) rfl ?_); refine goesL_ (some 16) rfl rfl Try.func22 (by kernel_rfl) rfl #[.agg #[.int .i64 a0_0, .slice aH ar.length aI]] rfl (by (try simp only [List.map_toArray, List.map_cons, List.map_nil]); first | done | rfl | (simp only [List.length_drop, List.length_take]; rfl)) ?_; (with_reducible refine (impl_StoreOk.calls k a0_0 _ _ ar false _ ?side1 ?side2 A10.out).mono ?_); (case side1 => repeat (first | exact (Kd.C_below bY.out HB.out) | (with_reducible refine Kd.C_alloc ?_ _) | (with_reducible refine Kd.C_drewN ?_ _) | (with_reducible refine Kd.C_drew ?_))); (case side2 => exact bZ.out); rintro e w17 ⟨rfl, hb⟩; refine ⟨_, rfl, ?_⟩; have aV := zK (blk_below (g := ao) (o := .cells #[.int .i64 a0_0, .slice aH ar.length aI] 24 (0, 0)) (by (with_reducible repeat (first | refine zN ?_ _ | refine zD ?_ | refine zA ?_ _)); exact ag.out) hb); have aW := zK (blk_below (g := an) (o := .cells #[.int .i64 0, .slice none 0 0] 24 (0, 0)) (by (with_reducible repeat (first | refine zN ?_ _ | refine zD ?_ | refine zA ?_ _)); exact ai.out) hb); have aX := zK (below_step (by repeat (first | (with_reducible first | exact HB.out | apply zB | apply zC | apply zE | refine zS ?_ aw.out | refine zS ?_ az.out) | exact HB.out)) hb); clear ag; clear ai; clear HB; have ag := aV; have ai := aW; have HB := aX; clear aV aW aX; (try clear hb)))
   go_meet
   case rel => exact ⟨_, (true), (by first | rfl | (simp; done) | (simp [*]; done)), H', ⟨by first | omega | exact Nat.le_refl _⟩, ⟨by (with_reducible repeat (first | refine zN ?_ _ | refine zD ?_ | refine zA ?_ _)); exact ag.out⟩, ⟨by (with_reducible repeat (first | refine zN ?_ _ | refine zD ?_ | refine zA ?_ _)); exact ai.out⟩, ⟨by repeat (first | (with_reducible first | exact HB.out | apply zB | apply zC | apply zE | refine zS ?_ aw.out | refine zS ?_ az.out) | exact HB.out)⟩⟩
 case rest =>
  clear HC4
  try clear c1
  try clear c2
  try clear p2
  try clear c3
  try clear c7
  try clear fn
  try clear c12
  try clear c15
  try clear cG
  try clear cH
  try clear cK
  try clear cL
  try clear dn
  try clear dp
  try clear cI
  try clear cJ
  try clear cM
  try clear cN
  try clear dq
  try clear dr
  obtain ⟨kq, cF, rfl, HA, HJ3, ag, ai, HB⟩ := hcut
  cases kq with
  | zero => exact absurd HA.out (by simp [impl_TakeBag.j0])
  | succ kj3 =>
   have H := HA.out; clear HA
   simp only [impl_TakeBag.j0] at H
   by_cases ft : cF = true
   ·subst ft
    have H1 : ((impl_copyStore.f kj3 a0_0 ar).bind fun bt723 => (some (bt723.1, bt723.2, ([] : List (S78)), false))) = some (r1, r2, r3, r4) := by rw [if_pos rfl] at H; exact H
    clear H; have H := H1; clear H1; replace H := Option.bind_eq_some_iff.mp H
    obtain ⟨⟨dt, d0⟩, fu, H⟩ := H
    replace H : (some (dt, d0, ([] : List (S78)), false)) = some (r1, r2, r3, r4) := H
    have A19 := zK fu; clear fu
    simp only [Option.some.injEq, Prod.mk.injEq] at H
    obtain ⟨rfl, rfl, rfl, rfl⟩ := H
    have hnb20 := a8.out; have hnc20 := a9.out
    have d1 : wc.cell? ⟨ao, 0, none⟩ = some (.int .i64 a0_0) := (blk_cell ag.out 0).trans rfl
    have d2 : wc.cell? ⟨ao, 1, none⟩ = some (.slice aH ar.length aI) := (blk_cell ag.out 1).trans rfl
    have d3 := blk_frozen ag.out 0; have d4 := blk_frozen ag.out 1
    go_wp2_with (first | ((with_reducible refine gate_callee (f := 67) rfl ?_); refine goesL_ (some 23) rfl rfl Try.func67 (by kernel_rfl) rfl #[.agg #[.int .i64 a0_0, .slice aH ar.length aI]] rfl (by (try simp only [List.map_toArray, List.map_cons, List.map_nil]); first | done | rfl | (simp only [List.length_drop, List.length_take]; rfl)) ?_; (with_reducible refine (impl_copyStore.calls kj3 a0_0 _ _ ar dt d0 _ ?side1 ?side2 A19.out).mono ?_); (case side1 => repeat (first | exact (Kd.C_below bY.out HB.out) | (with_reducible refine Kd.C_alloc ?_ _) | (with_reducible refine Kd.C_drewN ?_ _) | (with_reducible refine Kd.C_drew ?_))); (case side2 => exact bZ.out); rintro e w22 ⟨v725, rfl, ho0, hb⟩; refine ⟨_, rfl, ?_⟩; have aV := zK (Kd.S_lower ho0 (below_size (by repeat (first | (with_reducible first | exact HB.out | apply zB | apply zC | apply zE | refine zS ?_ aw.out | refine zS ?_ az.out) | exact HB.out)))); have aW := zK (blk_below (g := ao) (o := .cells #[.int .i64 a0_0, .slice aH ar.length aI] 24 (0, 0)) (by (with_reducible repeat (first | refine zN ?_ _ | refine zD ?_ | refine zA ?_ _)); exact ag.out) hb); have aX := zK (blk_below (g := an) (o := .cells #[.int .i64 0, .slice none 0 0] 24 (0, 0)) (by (with_reducible repeat (first | refine zN ?_ _ | refine zD ?_ | refine zA ?_ _)); exact ai.out) hb); have a0 := zK (below_step (by repeat (first | (with_reducible first | exact HB.out | apply zB | apply zC | apply zE | refine zS ?_ aw.out | refine zS ?_ az.out) | exact HB.out)) hb); clear ag; clear ai; clear HB; have eA := aV; have ag := aW; have ai := aX; have HB := a0; clear aV aW aX a0; (try clear hb); (try clear ho0); have d5 : w22.cell? ⟨an, 0, none⟩ = some (.int .i64 0) := (blk_cell ai.out 0).trans rfl; have d6 : w22.cell? ⟨an, 1, none⟩ = some (.slice none 0 0) := (blk_cell ai.out 1).trans rfl; have d7 := blk_frozen ai.out 0; have d8 := blk_frozen ai.out 1; obtain ⟨fv, fw, eo24⟩ := Kd.S_slice eA.out; subst eo24))
    refine bodyPost_ret (results_ctt rfl _ _ an 24 #[.int .i64 dt, .slice fv d0.length fw] (0, 0) _ rfl (by (with_reducible repeat (first | refine zN ?_ _ | refine zD ?_ | refine zA ?_ _)); refine blk_put (cs := #[.int .i64 dt, .slice none 0 0]) ?_ 1 _ rfl; (with_reducible repeat (first | refine zN ?_ _ | refine zD ?_ | refine zA ?_ _)); refine blk_put (cs := #[.int .i64 0, .slice none 0 0]) ?_ 0 _ rfl; (with_reducible repeat (first | refine zN ?_ _ | refine zD ?_ | refine zA ?_ _)); exact ai.out) Try.underlying24 rfl (by kernel_rfl)) rfl ?_
    exact ⟨_, _, by first | rfl | (simp [errW_none, errW_some] <;> rfl) | (simp [*, errW_none, errW_some] <;> rfl), by (with_reducible repeat (first | apply Kd.S_alloc | apply Kd.S_drewN | apply Kd.S_drew)); exact Kd.S_mono (Kd.S_far (p := ⟨an, 1, none⟩) (Kd.S_far (p := ⟨an, 0, none⟩) (Kd.S_types eA.out ai.out (by decide)) (fun _ hk => hk.2) (.int .i64 dt)) (fun _ hk => hk.2) (.slice fv d0.length fw)) (fun _ hk => trivial), by first | exact Kd.R_nil _ _ _ _ _ | exact Kd.N_nil _ _ _ _ _ | exact Kd.V_nil _ _ _ _ _ | exact Kd.Q_nil _ _ _ _ _ | exact Kd.S_nil _ _ _ _ _, by repeat (first | (with_reducible first | exact HB.out | apply zB | apply zC | apply zE | refine zS ?_ aw.out | refine zS ?_ az.out) | exact HB.out)⟩
   ·replace ft := Bool.eq_false_iff.mpr ft
    subst ft
    have H1 : ((impl_copyStore.f kj3 a0_0 ar).bind fun bt727 => (impl_TakeBag.l0 kj3 a1 ac ([] : List (S78)) a0_0 ar bt727.1 bt727.2)) = some (r1, r2, r3, r4) := by rw [if_neg (show ¬ (false = true) by decide)] at H; exact H
    clear H; have H := H1; clear H1; replace H := Option.bind_eq_some_iff.mp H
    obtain ⟨⟨aD, du⟩, fx, H⟩ := H
    replace H : (impl_TakeBag.l0 kj3 a1 ac ([] : List (S78)) a0_0 ar aD du) = some (r1, r2, r3, r4) := H
    have A25 := zK fx; clear fx; have H' := zK H; clear H; have hnb26 := a8.out; have hnc26 := a9.out
    have d9 : wc.cell? ⟨ao, 0, none⟩ = some (.int .i64 a0_0) := (blk_cell ag.out 0).trans rfl
    have ea : wc.cell? ⟨ao, 1, none⟩ = some (.slice aH ar.length aI) := (blk_cell ag.out 1).trans rfl
    have eb := blk_frozen ag.out 0; have ec := blk_frozen ag.out 1
    go_wp2_with (first | ((with_reducible refine gate_callee (f := 67) rfl ?_); refine goesL_ (some 25) rfl rfl Try.func67 (by kernel_rfl) rfl #[.agg #[.int .i64 a0_0, .slice aH ar.length aI]] rfl (by (try simp only [List.map_toArray, List.map_cons, List.map_nil]); first | done | rfl | (simp only [List.length_drop, List.length_take]; rfl)) ?_; (with_reducible refine (impl_copyStore.calls kj3 a0_0 _ _ ar aD du _ ?side1 ?side2 A25.out).mono ?_); (case side1 => repeat (first | exact (Kd.C_below bY.out HB.out) | (with_reducible refine Kd.C_alloc ?_ _) | (with_reducible refine Kd.C_drewN ?_ _) | (with_reducible refine Kd.C_drew ?_))); (case side2 => exact bZ.out); rintro e w28 ⟨v729, rfl, ho0, hb⟩; refine ⟨_, rfl, ?_⟩; have aV := zK (Kd.S_lower ho0 (below_size (by repeat (first | (with_reducible first | exact HB.out | apply zB | apply zC | apply zE | refine zS ?_ aw.out | refine zS ?_ az.out) | exact HB.out)))); have aW := zK (blk_below (g := ao) (o := .cells #[.int .i64 a0_0, .slice aH ar.length aI] 24 (0, 0)) (by (with_reducible repeat (first | refine zN ?_ _ | refine zD ?_ | refine zA ?_ _)); exact ag.out) hb); have aX := zK (blk_below (g := an) (o := .cells #[.int .i64 0, .slice none 0 0] 24 (0, 0)) (by (with_reducible repeat (first | refine zN ?_ _ | refine zD ?_ | refine zA ?_ _)); exact ai.out) hb); have a0 := zK (below_step (by repeat (first | (with_reducible first | exact HB.out | apply zB | apply zC | apply zE | refine zS ?_ aw.out | refine zS ?_ az.out) | exact HB.out)) hb); clear ag; clear ai; clear HB; have cd := aV; have ag := aW; have ai := aX; have HB := a0; clear aV aW aX a0; (try clear hb); (try clear ho0)) | ((with_reducible refine gate_dst (N := 8) rfl ?_); refine box_event ?hg (N := 8) ?hd (cs := #[.int .i64 0, .slice none 0 0]) (t := 24) ?hr ?_; (case hd => rfl); (case hg => rfl); (case hr => first | (go_simp; done) | (go_simp; rfl)); intro ap hg w29 hbox hb; have aV := zK (Kd.S_below (by (with_reducible repeat (first | apply Kd.S_alloc | apply Kd.S_drewN | apply Kd.S_drew)); exact cd.out) hb); have aW := zK (blk_below (g := ao) (o := .cells #[.int .i64 a0_0, .slice aH ar.length aI] 24 (0, 0)) (by (with_reducible repeat (first | refine zN ?_ _ | refine zD ?_ | refine zA ?_ _)); exact ag.out) hb); have aX := zK (blk_below (g := an) (o := .cells #[.int .i64 0, .slice none 0 0] 24 (0, 0)) (by (with_reducible repeat (first | refine zN ?_ _ | refine zD ?_ | refine zA ?_ _)); exact ai.out) hb); have a0 := zK (below_step (by repeat (first | (with_reducible first | exact HB.out | apply zB | apply zC | apply zE | refine zS ?_ aw.out | refine zS ?_ az.out) | exact HB.out)) hb); have a6 := zK (hbox); have a7 := zK ((by rw [hg]; exact (below_size (by repeat (first | (with_reducible first | exact HB.out | apply zB | apply zC | apply zE | refine zS ?_ aw.out | refine zS ?_ az.out) | exact HB.out))) : w.heap.size ≤ ap)); have bg := zK ((by rw [hg]; exact (below_size (by repeat (first | (with_reducible first | exact HB.out | apply zB | apply zC | apply zE | refine zS ?_ aw.out | refine zS ?_ az.out) | exact HB.out))) : w.heap.size ≤ ap)); have br := zK ((by rw [hg]; exact Nat.ne_of_lt (blk_lt (g := ao) (o := .cells #[.int .i64 a0_0, .slice aH ar.length aI] 24 (0, 0)) (by (with_reducible repeat (first | refine zN ?_ _ | refine zD ?_ | refine zA ?_ _)); exact ag.out)) : ao ≠ ap)); have bw := zK ((by rw [hg]; exact Nat.ne_of_gt (blk_lt (g := ao) (o := .cells #[.int .i64 a0_0, .slice aH ar.length aI] 24 (0, 0)) (by (with_reducible repeat (first | refine zN ?_ _ | refine zD ?_ | refine zA ?_ _)); exact ag.out)) : ap ≠ ao)); have bB := zK ((by rw [hg]; exact Nat.ne_of_lt (blk_lt (g := an) (o := .cells #[.int .i64 0, .slice none 0 0] 24 (0, 0)) (by (with_reducible repeat (first | refine zN ?_ _ | refine zD ?_ | refine zA ?_ _)); exact ai.out)) : an ≠ ap)); have bp := zK ((by rw [hg]; exact Nat.ne_of_gt (blk_lt (g := an) (o := .cells #[.int .i64 0, .slice none 0 0] 24 (0, 0)) (by (with_reducible repeat (first | refine zN ?_ _ | refine zD ?_ | refine zA ?_ _)); exact ai.out)) : ap ≠ an)); clear cd; clear ag; clear ai; clear HB; have cd := aV; have ag := aW; have ai := aX; have HB := a0; have ah := a6; have GW731 := a7; have aR := bg; have bd := br; have bu := bw; have be := bB; have bv := bp; clear aV aW aX a0 a6 a7 bg br bw bB bp; clear hb hbox hg; have hnb30 := bu.out; have hnc30 := bd.out; have hnb31 := bv.out; have hnc31 := be.out; have ed : w29.cell? ⟨ap, 0, none⟩ = some (.int .i64 0) := (blk_cell ah.out 0).trans rfl; have ee : w29.cell? ⟨ap, 1, none⟩ = some (.slice none 0 0) := (blk_cell ah.out 1).trans rfl; have ef := blk_frozen ah.out 0; have eg := blk_frozen ah.out 1; obtain ⟨fy, fz, eo33⟩ := Kd.S_slice cd.out; subst eo33))
    go_loopg [9] kj3 (fun kq v9 w' => ∃ (bf : List (S78)) (am : Int) (aa : List (List (S30))) (u732001 : Value), Aside0 (impl_TakeBag.l0 kq a1 ac bf a0_0 ar aD aa = some (r1, r2, r3, r4)) ∧ Aside0 (kq ≤ kj3) ∧ Aside0 (Kd.R k78 78 w' w.heap.size (fun _ => True) v9 bf) ∧ Aside0 (Kd.S (Kd.slice 30 k30) 28 w' w.heap.size (fun _ => True) u732001 aa) ∧ Aside0 (w'.heap[ao]? = some (.cells #[.int .i64 a0_0, (.slice aH ar.length aI)] 24 (0, 0))) ∧ Aside0 (w'.heap[an]? = some (.cells #[.int .i64 am, (.slice none 0 0)] 24 (0, 0))) ∧ Aside0 (w'.heap[ap]? = some (.cells #[.int .i64 aD, u732001] 24 (0, 0))) ∧ Aside0 (Below w.heap.size w w'))
    case atStart => exact ⟨(([] : List (S78))), (0), (du), (.slice fy du.length fz), H', ⟨Nat.le_refl _⟩, ⟨by first | exact Kd.R_nil _ _ _ _ _ | exact Kd.N_nil _ _ _ _ _ | exact Kd.V_nil _ _ _ _ _ | exact Kd.Q_nil _ _ _ _ _ | exact Kd.S_nil _ _ _ _ _⟩, ⟨by (with_reducible repeat (first | apply Kd.S_alloc | apply Kd.S_drewN | apply Kd.S_drew)); exact Kd.S_mono (Kd.S_far (p := ⟨ap, 1, none⟩) (Kd.S_far (p := ⟨ap, 0, none⟩) (Kd.S_types cd.out ah.out (by decide)) (fun _ hk => hk.2) (.int .i64 aD)) (fun _ hk => hk.2) (.slice fy du.length fz)) (fun _ hk => trivial)⟩, ⟨by (with_reducible repeat (first | refine zN ?_ _ | refine zD ?_ | refine zA ?_ _)); refine blk_far ?_ bd.out _; (with_reducible repeat (first | refine zN ?_ _ | refine zD ?_ | refine zA ?_ _)); refine blk_far ?_ bd.out _; (with_reducible repeat (first | refine zN ?_ _ | refine zD ?_ | refine zA ?_ _)); exact ag.out⟩, ⟨by (with_reducible repeat (first | refine zN ?_ _ | refine zD ?_ | refine zA ?_ _)); refine blk_far ?_ be.out _; (with_reducible repeat (first | refine zN ?_ _ | refine zD ?_ | refine zA ?_ _)); refine blk_far ?_ be.out _; (with_reducible repeat (first | refine zN ?_ _ | refine zD ?_ | refine zA ?_ _)); exact ai.out⟩, ⟨by (with_reducible repeat (first | refine zN ?_ _ | refine zD ?_ | refine zA ?_ _)); refine blk_put (cs := #[.int .i64 aD, .slice none 0 0]) ?_ 1 _ rfl; (with_reducible repeat (first | refine zN ?_ _ | refine zD ?_ | refine zA ?_ _)); refine blk_put (cs := #[.int .i64 0, .slice none 0 0]) ?_ 0 _ rfl; (with_reducible repeat (first | refine zN ?_ _ | refine zD ?_ | refine zA ?_ _)); exact ah.out⟩, ⟨by repeat (first | (with_reducible first | exact HB.out | apply zB | apply zC | apply zE | refine zS ?_ aw.out | refine zS ?_ az.out | refine zS ?_ aR.out) | exact HB.out)⟩⟩
    case round =>
     clear H'
     try clear c1
     try clear c2
     try clear p2
     try clear c3
     try clear c6
     try clear c7
     try clear fn
     try clear c12
     try clear c15
     try clear ft
     try clear c20
     try clear c22
     try clear c26
     try clear c30
     try clear c31
     try clear cG
     try clear cH
     try clear cK
     try clear cL
     try clear d1
     try clear d2
     try clear d5
     try clear d6
     try clear d9
     try clear ea
     try clear ed
     try clear ee
     try clear dn
     try clear dp
     try clear cI
     try clear cJ
     try clear cM
     try clear cN
     try clear d3
     try clear d4
     try clear d7
     try clear d8
     try clear eb
     try clear ec
     try clear ef
     try clear eg
     try clear dq
     try clear dr
     try clear p2
     obtain ⟨bf, am, aa, u732001, HA, HK2, aC, ab, ag, ai, ah, HB⟩ := hrel
     cases gk with
     | zero => exact absurd HA.out (by simp [impl_TakeBag.l0])
     | succ k2 =>
      have H := HA.out; clear HA
      simp only [impl_TakeBag.l0] at H
      by_cases c34 : 0 ≤ ac
      ·rw [if_pos c34] at H
       have c34b0 : decide (0 ≤ ac) = true := decide_eq_true c34
       clear c34
       by_cases c35 : ac < (aa.length : Int)
       ·rw [if_pos c35] at H
        have c35b0 : decide (ac < (aa.length : Int)) = true := decide_eq_true c35
        clear c35
        obtain ⟨af, bP⟩ : ∃ j_ : Int, (wrap64 (((rd_L2 aa ac).length : Int) - 1)) = j_ := ⟨_, rfl⟩
        replace H : (if 0 ≤ (af) then (if (af) < ((rd_L2 aa ac).length : Int) then (if ((rd_T30 (rd_L2 aa ac) (af)).f0) = a1 then (if (af) ≤ ((rd_L2 aa ac).length : Int) then (some (aD, (aa.set (ac : Int).toNat ((rd_L2 aa ac).take ((af) : Int).toNat)), bf, true)) else (none)) else ((impl_laneFor.f k2 aD aa ((rd_T30 (rd_L2 aa ac) (af)).f1) ac).bind fun aq => (if aq < 0 then ((impl_copyStore.f k2 a0_0 ar).bind fun bt744 => (some (bt744.1, bt744.2, ([] : List (S78)), false))) else (if (af) ≤ ((rd_L2 aa ac).length : Int) then ((some (aa.set (ac : Int).toNat ((rd_L2 aa ac).take ((af) : Int).toNat) : List (List (S30)))).bind fun a5 => (if 0 ≤ aq then (if aq < (aa.length : Int) then (if aq = ac then (none) else (if (rd_L2 a5 aq).length < 8796093022208 then (if bf.length < 5864062014805 then (impl_TakeBag.l0 k2 a1 ac (bf ++ [(⟨(rd_T30 (rd_L2 aa ac) (af)).f0, ac, aq⟩ : S78)]) a0_0 ar aD (a5.set (aq : Int).toNat ((rd_L2 a5 aq) ++ [(⟨(rd_T30 (rd_L2 aa ac) (af)).f0, (rd_T30 (rd_L2 aa ac) (af)).f1⟩ : S30)]))) else (none)) else (none))) else (none)) else (none))) else (none))))) else (none)) else (none)) = some (r1, r2, r3, r4) := by first | (rw [bP] at H; exact H) | (simp only [bP] at H ⊢; exact H)
        have hji36w : (IntKind.i64.wrap (((rd_L2 aa ac).length : Int) - 1)) = af := (i64_w _).trans bP
        by_cases c37 : 0 ≤ (af)
        ·rw [if_pos c37] at H
         have c37b0 : decide (0 ≤ (af)) = true := decide_eq_true c37
         clear c37
         by_cases c38 : (af) < ((rd_L2 aa ac).length : Int)
         ·rw [if_pos c38] at H
          have c38b0 : decide ((af) < ((rd_L2 aa ac).length : Int)) = true := decide_eq_true c38
          clear c38
          by_cases eS : ((rd_T30 (rd_L2 aa ac) (af)).f0) = a1
          ·rw [if_pos eS] at H
           have fA : (((rd_T30 (rd_L2 aa ac) (af)).f0) == a1) = true := beq_iff_eq.mpr eS
           have fB : (((rd_T30 (rd_L2 aa ac) (af)).f0) != a1) = false := bne_eq_false_iff_eq.mpr eS
           clear eS
           by_cases fC : (af) ≤ ((rd_L2 aa ac).length : Int)
           ·rw [if_pos fC] at H
            have c40b0 := eq_true fC
            have c40b1 : decide ((af) ≤ ((rd_L2 aa ac).length : Int)) = true := decide_eq_true fC
            clear fC
            obtain ⟨b0, ce⟩ : ∃ y_ : List (S30), y_ = ((rd_L2 aa ac).take ((af) : Int).toNat) := ⟨_, rfl⟩
            replace H : (some (aD, (aa.set (ac : Int).toNat b0), bf, true)) = some (r1, r2, r3, r4) := by first | (rw [ce]; with_reducible exact H) | (have H2_ := (Option.bind_some _ _).symm.trans H; rw [ce]; with_reducible exact H2_) | (have H2_ := (Option.bind_some _ _).symm.trans H; with_reducible exact H2_) | with_reducible exact H | (rw [ce]; exact H) | exact H
            have Ny738 := zK ce; clear ce
            obtain ⟨fD, cf⟩ : ∃ y_ : List (List (S30)), y_ = (aa.set (ac : Int).toNat b0) := ⟨_, rfl⟩
            replace H : (some (aD, fD, bf, true)) = some (r1, r2, r3, r4) := by first | (rw [cf]; with_reducible exact H) | (have H2_ := (Option.bind_some _ _).symm.trans H; rw [cf]; with_reducible exact H2_) | (have H2_ := (Option.bind_some _ _).symm.trans H; with_reducible exact H2_) | with_reducible exact H | (rw [cf]; exact H) | exact H
            have Ny742 := zK cf; clear cf
            simp only [Option.some.injEq, Prod.mk.injEq] at H
            obtain ⟨rfl, rfl, rfl, rfl⟩ := H
            try go_wp2
            have aV := zK (Kd.R_drew aC.out)
            have aW := zK (Kd.S_drew ab.out)
            have aX := zK (zD ag.out)
            have a0 := zK (zD ai.out)
            have a6 := zK (zD ah.out)
            have a7 := zK (zE HB.out)
            clear aC ab ag ai ah HB; have aC := aV; have ab := aW; have ag := aX; have ai := a0; have ah := a6; have HB := a7; clear aV aW aX a0 a6 a7
            obtain ⟨Ao43, bc, fE⟩ := Kd.S_slice ab.out
            (first | subst fE | (injection fE with f1_ f2_ f3_; have f4_ := f1_.symm; have f5_ := f3_.symm; clear f1_ f2_ f3_; subst f4_; subst f5_))
            have bC : 0 ≤ (ac : Int) := of_decide_eq_true (by first | (with_reducible assumption) | assumption)
            have bD : ac < (aa.length : Int) := of_decide_eq_true (by first | (with_reducible assumption) | assumption)
            obtain ⟨aA, dv, bo, dw, aE, bh, bi⟩ := at_L2 (Kd.S_reads' ab.out).2.2 ac bC bD
            cases dw
            obtain ⟨eB, bQ, bR, bs⟩ := Kd.S_get ab.out [] ac bC (by first | exact bD | exact of_decide_eq_true (by first | (with_reducible assumption) | assumption) | (have e_ := (Kd.S_reads' ab.out).1; omega))
            obtain ⟨cO, rfl, a2⟩ := bR
            have aJ := bs 0 _ rfl
            rw [Nat.add_zero, show ((Kd.slice 30 k30)).sz = 1 from rfl, Nat.mul_one] at aJ
            replace aJ := Option.some.inj (aJ.symm.trans aE)
            rw [aJ] at a2
            have ae := zK (show Kd.R k30 30 _ _ _ _ (rd_L2 aa ac) from a2)
            clear aJ a2; have aT := zK aE; clear bs bQ; have au := zK bi; have cP := zK bh; clear bi bh; replace bC := eq_true bC; replace bD := eq_true bD
            have bE : 0 ≤ (ac : Int) := of_decide_eq_true (by first | (with_reducible assumption) | assumption)
            have bF : ac < (aa.length : Int) := of_decide_eq_true (by first | (with_reducible assumption) | assumption)
            obtain ⟨cg, dx, dy, dz, aG, bj, bk⟩ := at_L2 (Kd.S_reads' ab.out).2.2 ac bE bF
            obtain rfl : aA = cg := (by injection dz)
            obtain ⟨eC, bS, bT, bt⟩ := Kd.S_get ab.out [] ac bE (by first | exact bF | exact of_decide_eq_true (by first | (with_reducible assumption) | assumption) | (have e_ := (Kd.S_reads' ab.out).1; omega))
            obtain ⟨cQ, rfl, a3⟩ := bT
            have aK := bt 0 _ rfl
            rw [Nat.add_zero, show ((Kd.slice 30 k30)).sz = 1 from rfl, Nat.mul_one] at aK
            replace aK := Option.some.inj (aK.symm.trans aG)
            rw [aK] at a3
            have al := zK (show Kd.R k30 30 _ _ _ _ (rd_L2 aa ac) from a3)
            clear aK a3; have aU := zK aG; clear bt bS; have av := zK bk; have cR := zK bj; clear bk bj; replace bE := eq_true bE; replace bF := eq_true bF
            have ea_ := Option.some.inj (aE.symm.trans aG)
            injection ea_ with ea_ en_ ec_
            subst ea_; subst ec_; clear en_
            have bU : 0 ≤ ((af) : Int) := of_decide_eq_true (by first | (with_reducible assumption) | assumption)
            have bV : (af) < ((rd_L2 aa ac).length : Int) := of_decide_eq_true (by first | (with_reducible assumption) | assumption)
            obtain ⟨a4, dA, bl, bm⟩ := at_T30 (by repeat (first | (with_reducible exact au.out) | (with_reducible refine Kd.C_alloc ?_ _) | (with_reducible refine Kd.C_drewN ?_ _) | (with_reducible refine Kd.C_drew ?_) | exact au.out)) (af) bU bV
            cases dA
            replace bU := eq_true bU; replace bV := eq_true bV
            refine start_ (n := 16) (S := fun w' => w'.cell? ⟨ap, 0, none⟩ = some (.int .i64 aD) ∧ w'.cell? ⟨ap, 1, none⟩ = some (.slice (some aA) aa.length bc) ∧ w'.cell? (aA.add (ac).toNat) = some (.slice (some a4) (rd_L2 aa ac).length bo) ∧ w'.cell? (aA.add (ac).toNat) = some (.slice (some a4) (rd_L2 aa ac).length bo) ∧ w'.cell? (a4.add (((af)).toNat * 2)) = some (.int .i64 ((rd_T30 (rd_L2 aa ac) (af)).f0)) ∧ w'.cell? ⟨(a4.add (((af)).toNat * 2)).block, (a4.add (((af)).toNat * 2)).off + 1, none⟩ = some (.int .i64 ((rd_T30 (rd_L2 aa ac) (af)).f1))) (ds := []) #[ff, ff, ff, ff, ff, ff, ff, ff, ff, ff, ff, ff, ff, ff, ff, ff] (by kernel_rfl) rfl rfl ⟨(blk_cell ah.out 0).trans rfl, (blk_cell ah.out 1).trans rfl, aE, aG, bl, bm⟩ (fun hHeld => ?_); refine with_tabW impl_TakeBag.tab6 impl_TakeBag.bits6 (fun HT_ HW_ => ?_)
            generalize wr.drew = w42 at aC ab ag ai ah HB ae al au av aT aU aE aG bl bm hHeld ⊢
            refine pure_ (i := 0) (N := some 26) (v := ?_) (a' := ?_) #[tt, ff, ff, ff, ff, ff, ff, ff, ff, ff, ff, ff, ff, ff, ff, ff] rfl rfl (any_of HT_.out (by kernel_rfl)) (fun _ _ _ h => h) (Or.inl ⟨by rfl, ?_⟩) ?_ ?_
            rotate_left
            ·intro w'
             go_simp
             with_reducible rfl
            rotate_left
            ·simp only [Act.put, zp, zq, zr, i64_w, i32_w]
             rfl
            refine pure_ (i := 2) (N := some 28) (v := ?_) (a' := ?_) #[tt, ff, tt, ff, ff, ff, ff, ff, ff, ff, ff, ff, ff, ff, ff, ff] rfl rfl (any_of HT_.out (by kernel_rfl)) (fun _ _ _ h => h) (Or.inl ⟨by rfl, ?_⟩) ?_ ?_
            rotate_left
            ·intro w'
             go_simp
             with_reducible rfl
            rotate_left
            ·simp only [Act.put, zp, zq, zr, i64_w, i32_w]
             rfl
            refine pure_ (i := 5) (N := some 31) (v := ?_) (a' := ?_) #[tt, ff, tt, ff, ff, tt, ff, ff, ff, ff, ff, ff, ff, ff, ff, ff] rfl rfl (any_of HT_.out (by kernel_rfl)) (fun _ _ _ h => h) (Or.inl ⟨by rfl, ?_⟩) ?_ ?_
            rotate_left
            ·intro w'
             go_simp
             with_reducible rfl
            rotate_left
            ·simp only [Act.put, zp, zq, zr, i64_w, i32_w]
             rfl
            refine pure_ (i := 7) (N := some 33) (v := ?_) (a' := ?_) #[tt, ff, tt, ff, ff, tt, ff, tt, ff, ff, ff, ff, ff, ff, ff, ff] rfl rfl (any_of HT_.out (by kernel_rfl)) (fun _ _ _ h => h) (Or.inl ⟨by rfl, ?_⟩) ?_ ?_
            rotate_left
            ·intro w'
             go_simp
             with_reducible rfl
            rotate_left
            ·simp only [Act.put, zp, zq, zr, i64_w, i32_w]
             rfl
            refine take_ (i := 1) (N := some 27) (v := ?_) (a' := ?_) #[tt, tt, tt, ff, ff, tt, ff, tt, ff, ff, ff, ff, ff, ff, ff, ff] rfl rfl (take_ofW HT_.out HW_.out (by kernel_rfl)) (fun _ _ _ h => h) (Or.inl ⟨by rfl, ?_⟩) hHeld ?_ ?_
            rotate_left
            ·rintro w' ⟨s0, s1, s2, s3, s4, s5⟩
             go_simp
             with_reducible rfl
            rotate_left
            ·simp only [Act.put, zp, zq, zr, i64_w, i32_w]
             rfl
            refine pure_ (i := 3) (N := some 29) (v := ?_) (a' := ?_) #[tt, tt, tt, tt, ff, tt, ff, tt, ff, ff, ff, ff, ff, ff, ff, ff] rfl rfl (any_of HT_.out (by kernel_rfl)) (fun _ _ _ h => h) (Or.inl ⟨by rfl, ?_⟩) ?_ ?_
            rotate_left
            ·intro w'
             go_simp
             with_reducible rfl
            rotate_left
            ·simp only [Act.put, zp, zq, zr, i64_w, i32_w]
             rfl
            refine take_ (i := 4) (N := some 30) (v := ?_) (a' := ?_) #[tt, tt, tt, tt, tt, tt, ff, tt, ff, ff, ff, ff, ff, ff, ff, ff] rfl rfl (take_ofW HT_.out HW_.out (by kernel_rfl)) (fun _ _ _ h => h) (Or.inl ⟨by rfl, ?_⟩) hHeld ?_ ?_
            rotate_left
            ·rintro w' ⟨s0, s1, s2, s3, s4, s5⟩
             go_simp
             with_reducible rfl
            rotate_left
            ·simp only [Act.put, zp, zq, zr, i64_w, i32_w]
             rfl
            refine take_ (i := 6) (N := some 32) (v := ?_) (a' := ?_) #[tt, tt, tt, tt, tt, tt, tt, tt, ff, ff, ff, ff, ff, ff, ff, ff] rfl rfl (take_ofW HT_.out HW_.out (by kernel_rfl)) (fun _ _ _ h => h) (Or.inl ⟨by rfl, ?_⟩) hHeld ?_ ?_
            rotate_left
            ·rintro w' ⟨s0, s1, s2, s3, s4, s5⟩
             go_simp
             with_reducible rfl
            rotate_left
            ·simp only [Act.put, zp, zq, zr, i64_w, i32_w]
             rfl
            refine pure_ (i := 8) (N := some 34) (v := ?_) (a' := ?_) #[tt, tt, tt, tt, tt, tt, tt, tt, tt, ff, ff, ff, ff, ff, ff, ff] rfl rfl (any_of HT_.out (by kernel_rfl)) (fun _ _ _ h => h) (Or.inl ⟨by rfl, ?_⟩) ?_ ?_
            rotate_left
            ·intro w'
             go_simp
             with_reducible rfl
            rotate_left
            ·simp only [Act.put, zp, zq, zr, i64_w, i32_w]
             rfl
            refine take_ (i := 9) (N := some 35) (v := ?_) (a' := ?_) #[tt, tt, tt, tt, tt, tt, tt, tt, tt, tt, ff, ff, ff, ff, ff, ff] rfl rfl (take_ofW HT_.out HW_.out (by kernel_rfl)) (fun _ _ _ h => h) (Or.inl ⟨by rfl, ?_⟩) hHeld ?_ ?_
            rotate_left
            ·rintro w' ⟨s0, s1, s2, s3, s4, s5⟩
             go_simp
             with_reducible rfl
            rotate_left
            ·simp only [Act.put, zp, zq, zr, i64_w, i32_w]
             rfl
            refine pure_ (i := 10) (N := some 36) (v := ?_) (a' := ?_) #[tt, tt, tt, tt, tt, tt, tt, tt, tt, tt, tt, ff, ff, ff, ff, ff] rfl rfl (any_of HT_.out (by kernel_rfl)) (fun _ _ _ h => h) (Or.inl ⟨by rfl, ?_⟩) ?_ ?_
            rotate_left
            ·intro w'
             go_simp
             with_reducible rfl
            rotate_left
            ·simp only [Act.put, zp, zq, zr, i64_w, i32_w]
             rfl
            refine pure_ (i := 11) (N := some 37) (v := ?_) (a' := ?_) #[tt, tt, tt, tt, tt, tt, tt, tt, tt, tt, tt, tt, ff, ff, ff, ff] rfl rfl (any_of HT_.out (by kernel_rfl)) (fun _ _ _ h => h) (Or.inl ⟨by rfl, ?_⟩) ?_ ?_
            rotate_left
            ·intro w'
             go_simp
             with_reducible rfl
            rotate_left
            ·simp only [Act.put, zp, zq, zr, i64_w, i32_w]
             rfl
            refine pure_ (i := 12) (N := some 38) (v := ?_) (a' := ?_) #[tt, tt, tt, tt, tt, tt, tt, tt, tt, tt, tt, tt, tt, ff, ff, ff] rfl rfl (any_of HT_.out (by kernel_rfl)) (fun _ _ _ h => h) (Or.inl ⟨by rfl, ?_⟩) ?_ ?_
            rotate_left
            ·intro w'
             go_simp
             with_reducible rfl
            rotate_left
            ·simp only [Act.put, zp, zq, zr, i64_w, i32_w]
             rfl
            refine take_ (i := 13) (N := some 39) (v := ?_) (a' := ?_) #[tt, tt, tt, tt, tt, tt, tt, tt, tt, tt, tt, tt, tt, tt, ff, ff] rfl rfl (take_ofW HT_.out HW_.out (by kernel_rfl)) (fun _ _ _ h => h) (Or.inl ⟨by rfl, ?_⟩) hHeld ?_ ?_
            rotate_left
            ·rintro w' ⟨s0, s1, s2, s3, s4, s5⟩
             go_simp
             with_reducible rfl
            rotate_left
            ·simp only [Act.put, zp, zq, zr, i64_w, i32_w]
             rfl
            refine one_ (i := 14) (N := some 10) #[tt, tt, tt, tt, tt, tt, tt, tt, tt, tt, tt, tt, tt, tt, tt, ff] rfl rfl (one_of HT_.out (by kernel_rfl)) (by decide) (fun K hK => ?_)
            refine box_step ?hg (N := 10) ?hd (cs := #[.int .i64 0, .int .i64 0]) (t := 30) ?hr ?_; (case hd => rfl); (case hg => rfl); (case hr => first | (go_simp; done) | (go_simp; rfl))
            intro ad hg dm hbox hb
            have dB := (hb.cell (World.block_lt_of_cell? _ _ (hHeld.2.2.1))).trans (hHeld.2.2.1)
            have dC := (hb.cell (World.block_lt_of_cell? _ _ (hHeld.2.2.2.1))).trans (hHeld.2.2.2.1)
            have ch := (hb.cell (World.block_lt_of_cell? _ _ (hHeld.2.2.2.2.1))).trans (hHeld.2.2.2.2.1)
            have dD := (hb.cell (World.block_lt_of_cell? _ _ (hHeld.2.2.2.2.2))).trans (hHeld.2.2.2.2.2)
            have aV := zK (Kd.R_below (by (with_reducible repeat (first | apply Kd.R_alloc | apply Kd.R_drewN | apply Kd.R_drew)); exact aC.out) hb)
            have aW := zK (Kd.S_below (Kd.S_elderB (by (with_reducible repeat (first | apply Kd.S_alloc | apply Kd.S_drewN | apply Kd.S_drew)); exact ab.out) ad (Nat.le_of_eq hg.symm)) hb)
            have aX := zK (Kd.R_below (Kd.R_elderB (by (with_reducible repeat (first | apply Kd.R_alloc | apply Kd.R_drewN | apply Kd.R_drew)); exact ae.out) ad (Nat.le_of_eq hg.symm)) hb)
            have a0 := zK (Kd.R_below (Kd.R_elderB (by (with_reducible repeat (first | apply Kd.R_alloc | apply Kd.R_drewN | apply Kd.R_drew)); exact al.out) ad (Nat.le_of_eq hg.symm)) hb)
            have a6 := zK (blk_below (g := ao) (o := .cells #[.int .i64 a0_0, .slice aH ar.length aI] 24 (0, 0)) (by (with_reducible repeat (first | refine zN ?_ _ | refine zD ?_ | refine zA ?_ _)); exact ag.out) hb)
            have a7 := zK (blk_below (g := an) (o := .cells #[.int .i64 am, .slice none 0 0] 24 (0, 0)) (by (with_reducible repeat (first | refine zN ?_ _ | refine zD ?_ | refine zA ?_ _)); exact ai.out) hb)
            have bg := zK (blk_below (g := ap) (o := .cells #[.int .i64 aD, .slice (some aA) aa.length bc] 24 (0, 0)) (by (with_reducible repeat (first | refine zN ?_ _ | refine zD ?_ | refine zA ?_ _)); exact ah.out) hb)
            have br := zK (Kd.C_below (by repeat (first | (with_reducible exact au.out) | (with_reducible refine Kd.C_alloc ?_ _) | (with_reducible refine Kd.C_drewN ?_ _) | (with_reducible refine Kd.C_drew ?_) | exact au.out)) hb)
            have bw := zK (pw_cell_below hb aT.out)
            have bB := zK (Kd.C_below (by repeat (first | (with_reducible exact av.out) | (with_reducible refine Kd.C_alloc ?_ _) | (with_reducible refine Kd.C_drewN ?_ _) | (with_reducible refine Kd.C_drew ?_) | exact av.out)) hb)
            have bp := zK (pw_cell_below hb aU.out)
            have bW := zK (below_step (by repeat (first | (with_reducible first | exact HB.out | apply zB | apply zC | apply zE | refine zS ?_ aw.out | refine zS ?_ az.out | refine zS ?_ aR.out) | exact HB.out)) hb)
            have ci := zK (hbox)
            have cj := zK ((by rw [hg]; exact (below_size (by repeat (first | (with_reducible first | exact HB.out | apply zB | apply zC | apply zE | refine zS ?_ aw.out | refine zS ?_ az.out | refine zS ?_ aR.out) | exact HB.out))) : w.heap.size ≤ ad))
            have ck := zK ((by rw [hg]; exact (below_size (by repeat (first | (with_reducible first | exact HB.out | apply zB | apply zC | apply zE | refine zS ?_ aw.out | refine zS ?_ az.out | refine zS ?_ aR.out) | exact HB.out))) : w.heap.size ≤ ad))
            have cl := zK ((by rw [hg]; exact Nat.ne_of_lt (blk_lt (g := ao) (o := .cells #[.int .i64 a0_0, .slice aH ar.length aI] 24 (0, 0)) (by (with_reducible repeat (first | refine zN ?_ _ | refine zD ?_ | refine zA ?_ _)); exact ag.out)) : ao ≠ ad))
            have cm := zK ((by rw [hg]; exact Nat.ne_of_gt (blk_lt (g := ao) (o := .cells #[.int .i64 a0_0, .slice aH ar.length aI] 24 (0, 0)) (by (with_reducible repeat (first | refine zN ?_ _ | refine zD ?_ | refine zA ?_ _)); exact ag.out)) : ad ≠ ao))
            have cn := zK ((by rw [hg]; exact Nat.ne_of_lt (blk_lt (g := an) (o := .cells #[.int .i64 am, .slice none 0 0] 24 (0, 0)) (by (with_reducible repeat (first | refine zN ?_ _ | refine zD ?_ | refine zA ?_ _)); exact ai.out)) : an ≠ ad))
            have co := zK ((by rw [hg]; exact Nat.ne_of_gt (blk_lt (g := an) (o := .cells #[.int .i64 am, .slice none 0 0] 24 (0, 0)) (by (with_reducible repeat (first | refine zN ?_ _ | refine zD ?_ | refine zA ?_ _)); exact ai.out)) : ad ≠ an))
            have cp := zK ((by rw [hg]; exact Nat.ne_of_lt (blk_lt (g := ap) (o := .cells #[.int .i64 aD, .slice (some aA) aa.length bc] 24 (0, 0)) (by (with_reducible repeat (first | refine zN ?_ _ | refine zD ?_ | refine zA ?_ _)); exact ah.out)) : ap ≠ ad))
            have cq := zK ((by rw [hg]; exact Nat.ne_of_gt (blk_lt (g := ap) (o := .cells #[.int .i64 aD, .slice (some aA) aa.length bc] 24 (0, 0)) (by (with_reducible repeat (first | refine zN ?_ _ | refine zD ?_ | refine zA ?_ _)); exact ah.out)) : ad ≠ ap))
            clear aC ab ae al ag ai ah au aT av aU HB; have aC := aV; have ab := aW; have ae := aX; have al := a0; have ag := a6; have ai := a7; have ah := bg; have au := br; have aT := bw; have av := bB; have aU := bp; have HB := bW; have aj := ci; have eD := cj; have ba := ck; have ax := cl; have aM := cm; have ay := cn; have aN := co; have ak := cp; have aQ := cq; clear aV aW aX a0 a6 a7 bg br bw bB bp bW ci cj ck cl cm cn co cp cq hb hbox hg
            refine hK.out _ _ ⟨(blk_cell ah.out 0).trans rfl, (blk_cell ah.out 1).trans rfl, dB, dC, ch, dD⟩ (fun hHeld => ?_)
            clear hK K
            refine norm_ (a' := ?_) ?_ ?_
            rotate_left
            ·show Act.put _ (some 10) _ = _
             simp only [Act.put, zp, zq, zr, i64_w, i32_w]
             rfl
            refine one_ (i := 15) (N := none) #[tt, tt, tt, tt, tt, tt, tt, tt, tt, tt, tt, tt, tt, tt, tt, tt] rfl rfl (one_of HT_.out (by kernel_rfl)) (by decide) (fun K hK => ?_)
            have hs45 : dm.cell? ⟨ad, 0, none⟩ = some (.int .i64 0) := (blk_cell aj.out 0).trans rfl
            have hfs45 := blk_frozen aj.out 0; have hns45_0 := ax.out; have hns45_1 := ay.out; have hns45_2 := ak.out; have hms45_0 := aM.out; have hms45_1 := aN.out; have hms45_2 := aQ.out
            have hs46 : dm.cell? ⟨ad, 1, none⟩ = some (.int .i64 0) := (blk_cell aj.out 1).trans rfl
            have hfs46 := blk_frozen aj.out 1; have hns46_0 := ax.out; have hns46_1 := ay.out; have hns46_2 := ak.out; have hms46_0 := aM.out; have hms46_1 := aN.out; have hms46_2 := aQ.out
            refine skip_ (w1 := ?_) (by rfl) rfl ?_ ?_
            rotate_left
            ·go_simp
             rfl
            refine hK.out _ _ ⟨((cell_far (p := ⟨ad, _, none⟩) ak.out _).trans (((cell_far (p := ⟨ad, _, none⟩) ak.out _).trans (hHeld.1)))), ((cell_far (p := ⟨ad, _, none⟩) ak.out _).trans (((cell_far (p := ⟨ad, _, none⟩) ak.out _).trans (hHeld.2.1)))), ((cell_far (p := ⟨ad, _, none⟩) (by first | exact Kd.own_blk (Kd.S_away ab.out (fun _ hk => hk.2)) | (rw [add_block]; exact Kd.own_blk (Kd.S_away ab.out (fun _ hk => hk.2))) | (show (Addr.add _ _).block ≠ _; rw [add_block]; exact Kd.own_blk (Kd.S_away ab.out (fun _ hk => hk.2))) | (dsimp only; exact Kd.own_blk (Kd.S_away ab.out (fun _ hk => hk.2)))) _).trans (((cell_far (p := ⟨ad, _, none⟩) (by first | exact Kd.own_blk (Kd.S_away ab.out (fun _ hk => hk.2)) | (rw [add_block]; exact Kd.own_blk (Kd.S_away ab.out (fun _ hk => hk.2))) | (show (Addr.add _ _).block ≠ _; rw [add_block]; exact Kd.own_blk (Kd.S_away ab.out (fun _ hk => hk.2))) | (dsimp only; exact Kd.own_blk (Kd.S_away ab.out (fun _ hk => hk.2)))) _).trans (hHeld.2.2.1)))), ((cell_far (p := ⟨ad, _, none⟩) (by first | exact Kd.own_blk (Kd.S_away ab.out (fun _ hk => hk.2)) | (rw [add_block]; exact Kd.own_blk (Kd.S_away ab.out (fun _ hk => hk.2))) | (show (Addr.add _ _).block ≠ _; rw [add_block]; exact Kd.own_blk (Kd.S_away ab.out (fun _ hk => hk.2))) | (dsimp only; exact Kd.own_blk (Kd.S_away ab.out (fun _ hk => hk.2)))) _).trans (((cell_far (p := ⟨ad, _, none⟩) (by first | exact Kd.own_blk (Kd.S_away ab.out (fun _ hk => hk.2)) | (rw [add_block]; exact Kd.own_blk (Kd.S_away ab.out (fun _ hk => hk.2))) | (show (Addr.add _ _).block ≠ _; rw [add_block]; exact Kd.own_blk (Kd.S_away ab.out (fun _ hk => hk.2))) | (dsimp only; exact Kd.own_blk (Kd.S_away ab.out (fun _ hk => hk.2)))) _).trans (hHeld.2.2.2.1)))), ((cell_far (p := ⟨ad, _, none⟩) (by first | exact Kd.own_blk (Kd.R_away ae.out (fun _ hk => hk.2)) | (rw [add_block]; exact Kd.own_blk (Kd.R_away ae.out (fun _ hk => hk.2))) | (show (Addr.add _ _).block ≠ _; rw [add_block]; exact Kd.own_blk (Kd.R_away ae.out (fun _ hk => hk.2))) | (dsimp only; exact Kd.own_blk (Kd.R_away ae.out (fun _ hk => hk.2)))) _).trans (((cell_far (p := ⟨ad, _, none⟩) (by first | exact Kd.own_blk (Kd.R_away ae.out (fun _ hk => hk.2)) | (rw [add_block]; exact Kd.own_blk (Kd.R_away ae.out (fun _ hk => hk.2))) | (show (Addr.add _ _).block ≠ _; rw [add_block]; exact Kd.own_blk (Kd.R_away ae.out (fun _ hk => hk.2))) | (dsimp only; exact Kd.own_blk (Kd.R_away ae.out (fun _ hk => hk.2)))) _).trans (hHeld.2.2.2.2.1)))), ((cell_far (p := ⟨ad, _, none⟩) (by first | exact Kd.own_blk (Kd.R_away ae.out (fun _ hk => hk.2)) | (rw [add_block]; exact Kd.own_blk (Kd.R_away ae.out (fun _ hk => hk.2))) | (show (Addr.add _ _).block ≠ _; rw [add_block]; exact Kd.own_blk (Kd.R_away ae.out (fun _ hk => hk.2))) | (dsimp only; exact Kd.own_blk (Kd.R_away ae.out (fun _ hk => hk.2)))) _).trans (((cell_far (p := ⟨ad, _, none⟩) (by first | exact Kd.own_blk (Kd.R_away ae.out (fun _ hk => hk.2)) | (rw [add_block]; exact Kd.own_blk (Kd.R_away ae.out (fun _ hk => hk.2))) | (show (Addr.add _ _).block ≠ _; rw [add_block]; exact Kd.own_blk (Kd.R_away ae.out (fun _ hk => hk.2))) | (dsimp only; exact Kd.own_blk (Kd.R_away ae.out (fun _ hk => hk.2)))) _).trans (hHeld.2.2.2.2.2))))⟩ (fun hHeld => ?_)
            clear hK K
            refine done_ (done_of HT_.out (by kernel_rfl)) ?_
            have aV : Aside0 (Kd.R k78 78 ((dm.setCell ⟨ad, 0, none⟩ (.int .i64 ((rd_T30 (rd_L2 aa ac) (af)).f0))).setCell ⟨ad, 1, none⟩ (.int .i64 ((rd_T30 (rd_L2 aa ac) (af)).f1))) w.heap.size (fun _ => True) u9 bf) := ⟨by (with_reducible repeat (first | apply Kd.R_alloc | apply Kd.R_drewN | apply Kd.R_drew)); exact Kd.R_mono (Kd.R_far (p := ⟨ad, 1, none⟩) (Kd.R_far (p := ⟨ad, 0, none⟩) (Kd.R_types aC.out aj.out (by decide)) (fun _ hk => hk.2) (.int .i64 ((rd_T30 (rd_L2 aa ac) (af)).f0))) (fun _ hk => hk.2) (.int .i64 ((rd_T30 (rd_L2 aa ac) (af)).f1))) (fun _ hk => trivial)⟩
            have aW : Aside0 (Kd.S (Kd.slice 30 k30) 28 ((dm.setCell ⟨ad, 0, none⟩ (.int .i64 ((rd_T30 (rd_L2 aa ac) (af)).f0))).setCell ⟨ad, 1, none⟩ (.int .i64 ((rd_T30 (rd_L2 aa ac) (af)).f1))) w.heap.size (fun k_ => k_ ≠ ad) (.slice (some aA) aa.length bc) aa) := ⟨by (with_reducible repeat (first | apply Kd.S_alloc | apply Kd.S_drewN | apply Kd.S_drew)); exact Kd.S_mono (Kd.S_far (p := ⟨ad, 1, none⟩) (Kd.S_far (p := ⟨ad, 0, none⟩) (Kd.S_mono ab.out (fun k_ hk => (⟨hk, hk.2⟩ : _ ∧ k_ ≠ ad))) (fun _ hk => hk.2) (.int .i64 ((rd_T30 (rd_L2 aa ac) (af)).f0))) (fun _ hk => hk.2) (.int .i64 ((rd_T30 (rd_L2 aa ac) (af)).f1))) (fun _ hk => hk.1.2)⟩
            have aX : Aside0 (Kd.R k30 30 ((dm.setCell ⟨ad, 0, none⟩ (.int .i64 ((rd_T30 (rd_L2 aa ac) (af)).f0))).setCell ⟨ad, 1, none⟩ (.int .i64 ((rd_T30 (rd_L2 aa ac) (af)).f1))) w.heap.size (fun k_ => some k_ ≠ (.slice (some aA) aa.length bc : Value).ownBlock ∧ k_ ≠ ad) (.slice (some a4) (rd_L2 aa ac).length bo) (rd_L2 aa ac)) := ⟨by (with_reducible repeat (first | apply Kd.R_alloc | apply Kd.R_drewN | apply Kd.R_drew)); exact Kd.R_mono (Kd.R_far (p := ⟨ad, 1, none⟩) (Kd.R_far (p := ⟨ad, 0, none⟩) (Kd.R_mono ae.out (fun k_ hk => (⟨hk, hk.2⟩ : _ ∧ k_ ≠ ad))) (fun _ hk => hk.2) (.int .i64 ((rd_T30 (rd_L2 aa ac) (af)).f0))) (fun _ hk => hk.2) (.int .i64 ((rd_T30 (rd_L2 aa ac) (af)).f1))) (fun _ hk => ⟨hk.1.1.2, hk.1.2⟩)⟩
            have a0 : Aside0 (Kd.R k30 30 ((dm.setCell ⟨ad, 0, none⟩ (.int .i64 ((rd_T30 (rd_L2 aa ac) (af)).f0))).setCell ⟨ad, 1, none⟩ (.int .i64 ((rd_T30 (rd_L2 aa ac) (af)).f1))) w.heap.size (fun k_ => some k_ ≠ (.slice (some aA) aa.length bc : Value).ownBlock ∧ k_ ≠ ad) (.slice (some a4) (rd_L2 aa ac).length bo) (rd_L2 aa ac)) := ⟨by (with_reducible repeat (first | apply Kd.R_alloc | apply Kd.R_drewN | apply Kd.R_drew)); exact Kd.R_mono (Kd.R_far (p := ⟨ad, 1, none⟩) (Kd.R_far (p := ⟨ad, 0, none⟩) (Kd.R_mono al.out (fun k_ hk => (⟨hk, hk.2⟩ : _ ∧ k_ ≠ ad))) (fun _ hk => hk.2) (.int .i64 ((rd_T30 (rd_L2 aa ac) (af)).f0))) (fun _ hk => hk.2) (.int .i64 ((rd_T30 (rd_L2 aa ac) (af)).f1))) (fun _ hk => ⟨hk.1.1.2, hk.1.2⟩)⟩
            have a6 : Aside0 (((dm.setCell ⟨ad, 0, none⟩ (.int .i64 ((rd_T30 (rd_L2 aa ac) (af)).f0))).setCell ⟨ad, 1, none⟩ (.int .i64 ((rd_T30 (rd_L2 aa ac) (af)).f1))).heap[ao]? = some (.cells #[.int .i64 a0_0, .slice aH ar.length aI] 24 (0, 0))) := ⟨by (with_reducible repeat (first | refine zN ?_ _ | refine zD ?_ | refine zA ?_ _)); refine blk_far ?_ ax.out _; (with_reducible repeat (first | refine zN ?_ _ | refine zD ?_ | refine zA ?_ _)); refine blk_far ?_ ax.out _; (with_reducible repeat (first | refine zN ?_ _ | refine zD ?_ | refine zA ?_ _)); exact ag.out⟩
            have a7 : Aside0 (((dm.setCell ⟨ad, 0, none⟩ (.int .i64 ((rd_T30 (rd_L2 aa ac) (af)).f0))).setCell ⟨ad, 1, none⟩ (.int .i64 ((rd_T30 (rd_L2 aa ac) (af)).f1))).heap[an]? = some (.cells #[.int .i64 am, .slice none 0 0] 24 (0, 0))) := ⟨by (with_reducible repeat (first | refine zN ?_ _ | refine zD ?_ | refine zA ?_ _)); refine blk_far ?_ ay.out _; (with_reducible repeat (first | refine zN ?_ _ | refine zD ?_ | refine zA ?_ _)); refine blk_far ?_ ay.out _; (with_reducible repeat (first | refine zN ?_ _ | refine zD ?_ | refine zA ?_ _)); exact ai.out⟩
            have bg : Aside0 (((dm.setCell ⟨ad, 0, none⟩ (.int .i64 ((rd_T30 (rd_L2 aa ac) (af)).f0))).setCell ⟨ad, 1, none⟩ (.int .i64 ((rd_T30 (rd_L2 aa ac) (af)).f1))).heap[ap]? = some (.cells #[.int .i64 aD, .slice (some aA) aa.length bc] 24 (0, 0))) := ⟨by (with_reducible repeat (first | refine zN ?_ _ | refine zD ?_ | refine zA ?_ _)); refine blk_far ?_ ak.out _; (with_reducible repeat (first | refine zN ?_ _ | refine zD ?_ | refine zA ?_ _)); refine blk_far ?_ ak.out _; (with_reducible repeat (first | refine zN ?_ _ | refine zD ?_ | refine zA ?_ _)); exact ah.out⟩
            have br : Aside0 (((dm.setCell ⟨ad, 0, none⟩ (.int .i64 ((rd_T30 (rd_L2 aa ac) (af)).f0))).setCell ⟨ad, 1, none⟩ (.int .i64 ((rd_T30 (rd_L2 aa ac) (af)).f1))).heap[ad]? = some (.cells #[.int .i64 ((rd_T30 (rd_L2 aa ac) (af)).f0), .int .i64 ((rd_T30 (rd_L2 aa ac) (af)).f1)] 30 (0, 0))) := ⟨by (with_reducible repeat (first | refine zN ?_ _ | refine zD ?_ | refine zA ?_ _)); refine blk_put (cs := #[.int .i64 ((rd_T30 (rd_L2 aa ac) (af)).f0), .int .i64 0]) ?_ 1 _ rfl; (with_reducible repeat (first | refine zN ?_ _ | refine zD ?_ | refine zA ?_ _)); refine blk_put (cs := #[.int .i64 0, .int .i64 0]) ?_ 0 _ rfl; (with_reducible repeat (first | refine zN ?_ _ | refine zD ?_ | refine zA ?_ _)); exact aj.out⟩
            have bw : Aside0 (Below w.heap.size w ((dm.setCell ⟨ad, 0, none⟩ (.int .i64 ((rd_T30 (rd_L2 aa ac) (af)).f0))).setCell ⟨ad, 1, none⟩ (.int .i64 ((rd_T30 (rd_L2 aa ac) (af)).f1)))) := ⟨by repeat (first | (with_reducible first | exact HB.out | apply zB | apply zC | apply zE | refine zS ?_ aw.out | refine zS ?_ az.out | refine zS ?_ aR.out | refine zS ?_ ba.out) | exact HB.out)⟩
            (try clear aC); (try clear ab); (try clear ae); (try clear al); (try clear ag); (try clear ai); (try clear ah); (try clear aj); (try clear HB)
            generalize ((dm.setCell ⟨ad, 0, none⟩ (.int .i64 ((rd_T30 (rd_L2 aa ac) (af)).f0))).setCell ⟨ad, 1, none⟩ (.int .i64 ((rd_T30 (rd_L2 aa ac) (af)).f1))) = eT at aV aW aX a0 a6 a7 bg br bw ⊢
            have aC := aV; have ab := aW; have ae := aX; have al := a0; have ag := a6; have ai := a7; have ah := bg; have aj := br; have HB := bw; clear aV aW aX a0 a6 a7 bg br bw; have hnb48 := aM.out; have hnc48 := ax.out; have hnb49 := aN.out; have hnc49 := ay.out; have hnb50 := aQ.out; have hnc50 := ak.out
            have hcz51_0 : eT.cell? ⟨ad, 0, none⟩ = some (.int .i64 ((rd_T30 (rd_L2 aa ac) (af)).f0)) := (blk_cell aj.out 0).trans rfl
            have hcz51_1 : eT.cell? ⟨ad, 1, none⟩ = some (.int .i64 ((rd_T30 (rd_L2 aa ac) (af)).f1)) := (blk_cell aj.out 1).trans rfl
            have hfz51_0 := blk_frozen aj.out 0; have hfz51_1 := blk_frozen aj.out 1; have hnb52 := bu.out; have hnc52 := bd.out; have hnb53 := bv.out; have hnc53 := be.out
            have hcz54_0 : eT.cell? ⟨ap, 0, none⟩ = some (.int .i64 aD) := (blk_cell ah.out 0).trans rfl
            have hcz54_1 : eT.cell? ⟨ap, 1, none⟩ = some (.slice (some aA) aa.length bc) := (blk_cell ah.out 1).trans rfl
            have hfz54_0 := blk_frozen ah.out 0; have hfz54_1 := blk_frozen ah.out 1
            have eh : 0 ≤ (ac : Int) := of_decide_eq_true (by first | (with_reducible assumption) | assumption)
            have ei : ac < (aa.length : Int) := of_decide_eq_true (by first | (with_reducible assumption) | assumption)
            obtain ⟨fF, A736_0, bK, e736, b1, cS, cT⟩ := at_L2 (Kd.S_reads' ab.out).2.2 ac eh ei
            obtain rfl : aA = fF := (by injection e736)
            obtain ⟨ce736, eU, eV, dE⟩ := Kd.S_get ab.out [] ac eh (by first | exact ei | exact of_decide_eq_true (by first | (with_reducible assumption) | assumption) | (have e_ := (Kd.S_reads' ab.out).1; omega))
            obtain ⟨ve736_0, rfl, b2⟩ := eV
            have bG := dE 0 _ rfl
            rw [Nat.add_zero, show ((Kd.slice 30 k30)).sz = 1 from rfl, Nat.mul_one] at bG
            replace bG := Option.some.inj (bG.symm.trans b1)
            rw [bG] at b2
            have b3 := zK (show Kd.R k30 30 _ _ _ _ (rd_L2 aa ac) from b2)
            clear bG b2; have ej := zK b1; clear dE eU; have bN := zK cT; have cU := zK cS; clear cT cS; replace eh := eq_true eh; replace ei := eq_true ei
            have eW : 0 ≤ ((af) : Int) := of_decide_eq_true (by first | (with_reducible assumption) | assumption)
            have eX : (af) < ((rd_L2 aa ac).length : Int) := of_decide_eq_true (by first | (with_reducible assumption) | assumption)
            obtain ⟨cV, e737, cW, cX⟩ := at_T30 (by repeat (first | (with_reducible exact bN.out) | (with_reducible refine Kd.C_alloc ?_ _) | (with_reducible refine Kd.C_drewN ?_ _) | (with_reducible refine Kd.C_drew ?_) | exact bN.out)) (af) eW eX
            cases e737
            replace eW := eq_true eW; replace eX := eq_true eX
            have q55 : ((af) : Int) ≤ (((rd_L2 aa ac).length : Int) : Int) := of_decide_eq_true (by first | (with_reducible assumption) | assumption)
            obtain ⟨i055, eE, _, fG, _⟩ := info_parts info30
            have cY : (rd_L2 aa ac).length ≤ bK := cU.out
            have fH : Kd.C k30 _ (some cV) (rd_L2 aa ac).length (rd_L2 aa ac) := (by repeat (first | (with_reducible exact bN.out) | (with_reducible refine Kd.C_alloc ?_ _) | (with_reducible refine Kd.C_drewN ?_ _) | (with_reducible refine Kd.C_drew ?_) | exact bN.out))
            have eY := cut_to (P := Try.prog) 28 30 .i64 Try.underlying28 eE (some cV) (rd_L2 aa ac).length bK (af) (of_decide_eq_true (by first | (with_reducible assumption) | assumption)) q55 cY
            have eZ := Kd.C_take (m := ((af) : Int).toNat) fH (by omega)
            have e0 : b0.length = ((af) : Int).toNat := (by rw [Ny738.out, List.length_take]; omega)
            rw [← Ny738.out] at eZ
            rw [← e0] at eY
            have HR741 := zK eZ
            have HC741 := zK (show b0.length ≤ bK from by omega)
            clear eZ fH cY eE fG; have fJ := zK e0; clear e0; replace q55 := eq_true q55
            have p41 : 0 ≤ (ac : Int) := of_decide_eq_true (by first | (with_reducible assumption) | assumption)
            have q41 : (ac : Int) < ((aa.length : Int) : Int) := of_decide_eq_true (by first | (with_reducible assumption) | assumption)
            obtain ⟨bx, co41, fK, fL, gl41, cl41, fM⟩ := Kd.S_form ab.out (by omega)
            (first | cases fK | (injection fK with ea_ en_ ec_; (first | subst ea_ | (injection ea_ with ea_; subst ea_)); subst ec_; clear en_))
            have GB41 := zK fL; have GG41 := zK fM; clear fL gl41 fM
            (first | simp only [add_plain] at aE | skip)
            (first | simp only [add_plain] at aG | skip)
            (first | simp only [add_plain] at b1 | skip)
            obtain ⟨_, ce41, fN, fO, eF, eG, _, _⟩ := Kd.S_elem ab.out [] (ac : Int) p41 q41
            obtain ⟨ve41_0, rfl, ge41_0⟩ := fO
            have e1 := eF 0 _ rfl; have e2 := eG 0; (try simp only [show ((Kd.slice 30 k30)).sz = 1 from rfl, Nat.mul_one, Nat.add_zero] at e1); (try simp only [show ((Kd.slice 30 k30)).sz = 1 from rfl, Nat.mul_one, Nat.add_zero] at e2)
            clear fN eF eG; (try clear fO)
            replace p41 := eq_true p41; replace q41 := eq_true q41
            have HX56 := zK (show Kd.S (Kd.slice 30 k30) 28 eT w.heap.size (fun k_ => ((fun k_ => k_ ≠ ad)) k_ ∧ ¬ ((fun _ => False)) k_) (.slice (some ⟨bx, 0, none⟩) aa.length bc) aa from (by (with_reducible repeat (first | apply Kd.S_alloc | apply Kd.S_drewN | apply Kd.S_drew)); exact Kd.S_mono ab.out (fun k_ hk => ⟨hk, fun e_ => e_⟩)))
            obtain ⟨fP, ce56, fQ, fR, dF, eH, e3, fT⟩ := Kd.S_elem HX56.out [] (ac : Int) (of_decide_eq_true (by first | (with_reducible assumption) | assumption)) (by have h_ : (ac : Int) < ((aa.length : Int) : Int) := of_decide_eq_true (by first | (with_reducible assumption) | assumption); first | exact h_ | (have e_ := (Kd.S_reads' ab.out).1; omega) | simpa using h_)
            obtain ⟨ve56_0, rfl, e4⟩ := fR
            have dG := dF 0 _ rfl; have e5 := ej.out; (try simp only [add_plain] at e5); (try simp only [Nat.add_zero] at dG); (try rw [show ((Kd.slice 30 k30)).sz = 1 from rfl, Nat.mul_one] at dG)
            replace dG := Option.some.inj (dG.symm.trans e5)
            subst dG; clear e5
            have e6 := zK (show Kd.R k30 30 eT w.heap.size fP (.slice (some cV) b0.length bK) b0 from by rw [fJ.out, Ny738.out]; exact Kd.R_take e4 (by have h_ := of_eq_true q55; omega))
            have e7 := Kd.S_seg fT (of_decide_eq_true (by first | (with_reducible assumption) | assumption)) (by have h_ : (ac : Int) < ((aa.length : Int) : Int) := of_decide_eq_true (by first | (with_reducible assumption) | assumption); first | exact h_ | (have e_ := (Kd.S_reads' ab.out).1; omega) | simpa using h_) (seg := [.slice (some cV) b0.length bK]) (j := 0) (show 1 ≤ 1 from by decide) (x' := b0) (Kd.M_row (Kd.R_mono e6.out (fun _ h_ => Or.inl h_))) (fun _ hk => hk) (fun k_ hk_ => hk_.elim)
            have cB := dF 0 _ rfl; (try simp only [show ((Kd.slice 30 k30)).sz = 1 from rfl, Nat.mul_one, Nat.add_zero] at cB); have cC := eH 0; (try simp only [show ((Kd.slice 30 k30)).sz = 1 from rfl, Nat.mul_one, Nat.add_zero] at cC)
            clear fQ dF eH e3 fT; (try clear fR)
            (try simp only [show ((Kd.slice 30 k30)).sz = 1 from rfl, Nat.mul_one, Nat.add_zero] at e7)
            try go_wp2_with (first | (go_at_call 75; refine (pop_calls (b := ap) (deep := aD) (g := bx) (n := aa.length) (cap := bc) (lane := ac) (H := (af)) (k := ((rd_L2 aa ac).length)) (c := bK) (m := b0.length) _ (by (with_reducible repeat (first | refine zN ?_ _ | refine zD ?_ | refine zA ?_ _)); exact ah.out) (of_decide_eq_true (by first | (with_reducible assumption) | assumption)) (of_decide_eq_true (by first | (with_reducible assumption) | assumption)) (by first | exact cB | simpa using cB) (by first | exact cC | simpa using cC) (by first | rfl | assumption | exact Eq.symm (by assumption)) (of_decide_eq_true (by first | (with_reducible assumption) | assumption)) (of_decide_eq_true (by first | (with_reducible assumption) | assumption)) cU.out (by first | exact cW | simpa using cW) (by first | exact cX | simpa using cX) fJ.out).mono ?_; rintro e fo ⟨rfl, hg0_, cD⟩; have hg : eT.grownBy fo (some bx) := hg0_; have hp_ : Kd.S (Kd.slice 30 k30) 28 fo w.heap.size (fun k_ => k_ ≠ ad) (.slice (some ⟨bx, 0, none⟩) aa.length bc) fD := (by rw [Ny742.out]; exact Opens.pop_S e7.1 cD); have hw := cD; clear cD hg0_; clear e7; have aV := zK (Kd.R_over' (v := (.slice (some ⟨bx, 0, none⟩) aa.length bc)) (by (with_reducible repeat (first | apply Kd.R_alloc | apply Kd.R_drewN | apply Kd.R_drew)); exact aC.out) (Kd.S_typed ab.out) (by decide) hg); have aW := zK (hp_); have aX := zK (blk_grown (g := ao) (o := .cells #[.int .i64 a0_0, .slice aH ar.length aI] 24 (0, 0)) (by (with_reducible repeat (first | refine zN ?_ _ | refine zD ?_ | refine zA ?_ _)); exact ag.out) hg (Kd.S_ne ab.out ag.out (by decide))); have a0 := zK (blk_grown (g := an) (o := .cells #[.int .i64 am, .slice none 0 0] 24 (0, 0)) (by (with_reducible repeat (first | refine zN ?_ _ | refine zD ?_ | refine zA ?_ _)); exact ai.out) hg (Kd.S_ne ab.out ai.out (by decide))); have a6 := zK (blk_grown (g := ap) (o := .cells #[.int .i64 aD, .slice (some ⟨bx, 0, none⟩) aa.length bc] 24 (0, 0)) (by (with_reducible repeat (first | refine zN ?_ _ | refine zD ?_ | refine zA ?_ _)); exact ah.out) hg (Kd.S_ne ab.out ah.out (by decide))); have a7 := zK (Kd.R_after (v := (.slice (some ⟨bx, 0, none⟩) aa.length bc)) (v1 := (.slice (some ⟨bx, 0, none⟩) aa.length bc)) (ok := (fun k_ => k_ ≠ ad)) (by (with_reducible repeat (first | apply Kd.R_alloc | apply Kd.R_drewN | apply Kd.R_drew)); exact Kd.R_mono ae.out (fun _ hk => ⟨hk.2, hk.1⟩)) hg (.inl rfl)); have bg := zK (Kd.R_after (v := (.slice (some ⟨bx, 0, none⟩) aa.length bc)) (v1 := (.slice (some ⟨bx, 0, none⟩) aa.length bc)) (ok := (fun k_ => k_ ≠ ad)) (by (with_reducible repeat (first | apply Kd.R_alloc | apply Kd.R_drewN | apply Kd.R_drew)); exact Kd.R_mono al.out (fun _ hk => ⟨hk.2, hk.1⟩)) hg (.inl rfl)); have br := zK (blk_grown (g := ad) (o := .cells #[.int .i64 ((rd_T30 (rd_L2 aa ac) (af)).f0), .int .i64 ((rd_T30 (rd_L2 aa ac) (af)).f1)] 30 (0, 0)) (by (with_reducible repeat (first | refine zN ?_ _ | refine zD ?_ | refine zA ?_ _)); exact aj.out) hg (Kd.S_ne ab.out aj.out (by decide))); have bw := zK (Kd.R_after (v := (.slice (some ⟨bx, 0, none⟩) aa.length bc)) (v1 := (.slice (some ⟨bx, 0, none⟩) aa.length bc)) (ok := (fun k_ => k_ ≠ ad)) (by (with_reducible repeat (first | apply Kd.R_alloc | apply Kd.R_drewN | apply Kd.R_drew)); exact b3.out) hg (.inl rfl)); have bB := zK ((Opens.below_of_grown (by repeat (first | (with_reducible first | exact HB.out | apply zB | apply zC | apply zE | refine zS ?_ aw.out | refine zS ?_ az.out | refine zS ?_ aR.out | refine zS ?_ ba.out) | exact HB.out)) hg GB41.out)); clear aC; clear ab; clear ag; clear ai; clear ah; clear ae; clear al; clear aj; clear b3; clear HB; have aC := aV; have ab := aW; have ag := aX; have ai := a0; have ah := a6; have ae := a7; have al := bg; have aj := br; have b3 := bw; have HB := bB; clear aV aW aX a0 a6 a7 bg br bw bB; clear hg hw hp_; have hcz58_0 : fo.cell? ⟨ap, 0, none⟩ = some (.int .i64 aD) := (blk_cell ah.out 0).trans rfl; have hcz58_1 : fo.cell? ⟨ap, 1, none⟩ = some (.slice (some ⟨bx, 0, none⟩) aa.length bc) := (blk_cell ah.out 1).trans rfl; have hfz58_0 := blk_frozen ah.out 0; have hfz58_1 := blk_frozen ah.out 1; have hnb59 := a9.out; have hnc59 := a8.out; have hcz60_0 : fo.cell? ⟨an, 0, none⟩ = some (.int .i64 am) := (blk_cell ai.out 0).trans rfl; have hcz60_1 : fo.cell? ⟨an, 1, none⟩ = some (.slice none 0 0) := (blk_cell ai.out 1).trans rfl; have hfz60_0 := blk_frozen ai.out 0; have hfz60_1 := blk_frozen ai.out 1))
            refine bodyPost_ret (results_ctt rfl _ _ an 24 #[.int .i64 aD, .slice (some ⟨bx, 0, none⟩) aa.length bc] (0, 0) _ rfl (by (with_reducible repeat (first | refine zN ?_ _ | refine zD ?_ | refine zA ?_ _)); refine blk_put (cs := #[.int .i64 aD, .slice none 0 0]) ?_ 1 _ rfl; (with_reducible repeat (first | refine zN ?_ _ | refine zD ?_ | refine zA ?_ _)); refine blk_put (cs := #[.int .i64 am, .slice none 0 0]) ?_ 0 _ rfl; (with_reducible repeat (first | refine zN ?_ _ | refine zD ?_ | refine zA ?_ _)); exact ai.out) Try.underlying24 rfl (by kernel_rfl)) rfl ?_
            exact ⟨_, _, by first | rfl | (simp [errW_none, errW_some] <;> rfl) | (simp only [← bP]; first | rfl | (simp [errW_none, errW_some] <;> rfl)) | (simp [*, errW_none, errW_some] <;> rfl), by (with_reducible repeat (first | apply Kd.S_alloc | apply Kd.S_drewN | apply Kd.S_drew)); exact Kd.S_mono (Kd.S_far (p := ⟨an, 1, none⟩) (Kd.S_far (p := ⟨an, 0, none⟩) (Kd.S_types ab.out ai.out (by decide)) (fun _ hk => hk.2) (.int .i64 aD)) (fun _ hk => hk.2) (.slice (some ⟨bx, 0, none⟩) aa.length bc)) (fun _ hk => trivial), by (with_reducible repeat (first | apply Kd.R_alloc | apply Kd.R_drewN | apply Kd.R_drew)); exact Kd.R_mono (Kd.R_far (p := ⟨an, 1, none⟩) (Kd.R_far (p := ⟨an, 0, none⟩) (Kd.R_types aC.out ai.out (by decide)) (fun _ hk => hk.2) (.int .i64 aD)) (fun _ hk => hk.2) (.slice (some ⟨bx, 0, none⟩) aa.length bc)) (fun _ hk => trivial), by repeat (first | (with_reducible first | exact HB.out | apply zB | apply zC | apply zE | refine zS ?_ aw.out | refine zS ?_ az.out | refine zS ?_ aR.out | refine zS ?_ ba.out) | exact HB.out)⟩
           ·rw [if_neg fC] at H
            exact absurd H (by simp)
          ·rw [if_neg eS] at H
           have fA : (((rd_T30 (rd_L2 aa ac) (af)).f0) == a1) = false := beq_eq_false_iff_ne.mpr eS
           have fB : (((rd_T30 (rd_L2 aa ac) (af)).f0) != a1) = true := bne_iff_ne.mpr eS
           replace H := Option.bind_eq_some_iff.mp H
           obtain ⟨aq, fU, H⟩ := H
           replace H : (if aq < 0 then ((impl_copyStore.f k2 a0_0 ar).bind fun bt744 => (some (bt744.1, bt744.2, ([] : List (S78)), false))) else (if (af) ≤ ((rd_L2 aa ac).length : Int) then ((some (aa.set (ac : Int).toNat ((rd_L2 aa ac).take ((af) : Int).toNat) : List (List (S30)))).bind fun a5 => (if 0 ≤ aq then (if aq < (aa.length : Int) then (if aq = ac then (none) else (if (rd_L2 a5 aq).length < 8796093022208 then (if bf.length < 5864062014805 then (impl_TakeBag.l0 k2 a1 ac (bf ++ [(⟨(rd_T30 (rd_L2 aa ac) (af)).f0, ac, aq⟩ : S78)]) a0_0 ar aD (a5.set (aq : Int).toNat ((rd_L2 a5 aq) ++ [(⟨(rd_T30 (rd_L2 aa ac) (af)).f0, (rd_T30 (rd_L2 aa ac) (af)).f1⟩ : S30)]))) else (none)) else (none))) else (none)) else (none))) else (none))) = some (r1, r2, r3, r4) := H
           have A61 := zK fU; clear fU
           by_cases fp : aq < 0
           ·rw [if_pos fp] at H
            have fV : decide (aq < 0) = true := decide_eq_true fp
            clear fp; replace H := Option.bind_eq_some_iff.mp H
            obtain ⟨⟨dH, ek⟩, fW, H⟩ := H
            replace H : (some (dH, ek, ([] : List (S78)), false)) = some (r1, r2, r3, r4) := H
            have A63 := zK fW; clear fW
            simp only [Option.some.injEq, Prod.mk.injEq] at H
            obtain ⟨rfl, rfl, rfl, rfl⟩ := H
            try go_wp2
            have aV := zK (Kd.R_drew aC.out)
            have aW := zK (Kd.S_drew ab.out)
            have aX := zK (zD ag.out)
            have a0 := zK (zD ai.out)
            have a6 := zK (zD ah.out)
            have a7 := zK (zE HB.out)
            clear aC ab ag ai ah HB; have aC := aV; have ab := aW; have ag := aX; have ai := a0; have ah := a6; have HB := a7; clear aV aW aX a0 a6 a7
            obtain ⟨Ao65, b4, fX⟩ := Kd.S_slice ab.out
            (first | subst fX | (injection fX with f1_ f2_ f3_; have f4_ := f1_.symm; have f5_ := f3_.symm; clear f1_ f2_ f3_; subst f4_; subst f5_))
            have bC : 0 ≤ (ac : Int) := of_decide_eq_true (by first | (with_reducible assumption) | assumption)
            have bD : ac < (aa.length : Int) := of_decide_eq_true (by first | (with_reducible assumption) | assumption)
            obtain ⟨aA, dv, bo, dw, aE, bh, bi⟩ := at_L2 (Kd.S_reads' ab.out).2.2 ac bC bD
            cases dw
            obtain ⟨eB, bQ, bR, bs⟩ := Kd.S_get ab.out [] ac bC (by first | exact bD | exact of_decide_eq_true (by first | (with_reducible assumption) | assumption) | (have e_ := (Kd.S_reads' ab.out).1; omega))
            obtain ⟨cO, rfl, a2⟩ := bR
            have aJ := bs 0 _ rfl
            rw [Nat.add_zero, show ((Kd.slice 30 k30)).sz = 1 from rfl, Nat.mul_one] at aJ
            replace aJ := Option.some.inj (aJ.symm.trans aE)
            rw [aJ] at a2
            have ae := zK (show Kd.R k30 30 _ _ _ _ (rd_L2 aa ac) from a2)
            clear aJ a2; have aT := zK aE; clear bs bQ; have au := zK bi; have cP := zK bh; clear bi bh; replace bC := eq_true bC; replace bD := eq_true bD
            have bE : 0 ≤ (ac : Int) := of_decide_eq_true (by first | (with_reducible assumption) | assumption)
            have bF : ac < (aa.length : Int) := of_decide_eq_true (by first | (with_reducible assumption) | assumption)
            obtain ⟨cg, dx, dy, dz, aG, bj, bk⟩ := at_L2 (Kd.S_reads' ab.out).2.2 ac bE bF
            obtain rfl : aA = cg := (by injection dz)
            obtain ⟨eC, bS, bT, bt⟩ := Kd.S_get ab.out [] ac bE (by first | exact bF | exact of_decide_eq_true (by first | (with_reducible assumption) | assumption) | (have e_ := (Kd.S_reads' ab.out).1; omega))
            obtain ⟨cQ, rfl, a3⟩ := bT
            have aK := bt 0 _ rfl
            rw [Nat.add_zero, show ((Kd.slice 30 k30)).sz = 1 from rfl, Nat.mul_one] at aK
            replace aK := Option.some.inj (aK.symm.trans aG)
            rw [aK] at a3
            have al := zK (show Kd.R k30 30 _ _ _ _ (rd_L2 aa ac) from a3)
            clear aK a3; have aU := zK aG; clear bt bS; have av := zK bk; have cR := zK bj; clear bk bj; replace bE := eq_true bE; replace bF := eq_true bF
            have ea_ := Option.some.inj (aE.symm.trans aG)
            injection ea_ with ea_ en_ ec_
            subst ea_; subst ec_; clear en_
            have bU : 0 ≤ ((af) : Int) := of_decide_eq_true (by first | (with_reducible assumption) | assumption)
            have bV : (af) < ((rd_L2 aa ac).length : Int) := of_decide_eq_true (by first | (with_reducible assumption) | assumption)
            obtain ⟨a4, dA, bl, bm⟩ := at_T30 (by repeat (first | (with_reducible exact au.out) | (with_reducible refine Kd.C_alloc ?_ _) | (with_reducible refine Kd.C_drewN ?_ _) | (with_reducible refine Kd.C_drew ?_) | exact au.out)) (af) bU bV
            cases dA
            replace bU := eq_true bU; replace bV := eq_true bV
            refine start_ (n := 16) (S := fun w' => w'.cell? ⟨ap, 0, none⟩ = some (.int .i64 aD) ∧ w'.cell? ⟨ap, 1, none⟩ = some (.slice (some aA) aa.length b4) ∧ w'.cell? (aA.add (ac).toNat) = some (.slice (some a4) (rd_L2 aa ac).length bo) ∧ w'.cell? (aA.add (ac).toNat) = some (.slice (some a4) (rd_L2 aa ac).length bo) ∧ w'.cell? (a4.add (((af)).toNat * 2)) = some (.int .i64 ((rd_T30 (rd_L2 aa ac) (af)).f0)) ∧ w'.cell? ⟨(a4.add (((af)).toNat * 2)).block, (a4.add (((af)).toNat * 2)).off + 1, none⟩ = some (.int .i64 ((rd_T30 (rd_L2 aa ac) (af)).f1))) (ds := []) #[ff, ff, ff, ff, ff, ff, ff, ff, ff, ff, ff, ff, ff, ff, ff, ff] (by kernel_rfl) rfl rfl ⟨(blk_cell ah.out 0).trans rfl, (blk_cell ah.out 1).trans rfl, aE, aG, bl, bm⟩ (fun hHeld => ?_); refine with_tabW impl_TakeBag.tab6 impl_TakeBag.bits6 (fun HT_ HW_ => ?_)
            generalize wr.drew = w64 at aC ab ag ai ah HB ae al au av aT aU aE aG bl bm hHeld ⊢
            refine pure_ (i := 0) (N := some 26) (v := ?_) (a' := ?_) #[tt, ff, ff, ff, ff, ff, ff, ff, ff, ff, ff, ff, ff, ff, ff, ff] rfl rfl (any_of HT_.out (by kernel_rfl)) (fun _ _ _ h => h) (Or.inl ⟨by rfl, ?_⟩) ?_ ?_
            rotate_left
            ·intro w'
             go_simp
             with_reducible rfl
            rotate_left
            ·simp only [Act.put, zp, zq, zr, i64_w, i32_w]
             rfl
            refine pure_ (i := 2) (N := some 28) (v := ?_) (a' := ?_) #[tt, ff, tt, ff, ff, ff, ff, ff, ff, ff, ff, ff, ff, ff, ff, ff] rfl rfl (any_of HT_.out (by kernel_rfl)) (fun _ _ _ h => h) (Or.inl ⟨by rfl, ?_⟩) ?_ ?_
            rotate_left
            ·intro w'
             go_simp
             with_reducible rfl
            rotate_left
            ·simp only [Act.put, zp, zq, zr, i64_w, i32_w]
             rfl
            refine pure_ (i := 5) (N := some 31) (v := ?_) (a' := ?_) #[tt, ff, tt, ff, ff, tt, ff, ff, ff, ff, ff, ff, ff, ff, ff, ff] rfl rfl (any_of HT_.out (by kernel_rfl)) (fun _ _ _ h => h) (Or.inl ⟨by rfl, ?_⟩) ?_ ?_
            rotate_left
            ·intro w'
             go_simp
             with_reducible rfl
            rotate_left
            ·simp only [Act.put, zp, zq, zr, i64_w, i32_w]
             rfl
            refine pure_ (i := 7) (N := some 33) (v := ?_) (a' := ?_) #[tt, ff, tt, ff, ff, tt, ff, tt, ff, ff, ff, ff, ff, ff, ff, ff] rfl rfl (any_of HT_.out (by kernel_rfl)) (fun _ _ _ h => h) (Or.inl ⟨by rfl, ?_⟩) ?_ ?_
            rotate_left
            ·intro w'
             go_simp
             with_reducible rfl
            rotate_left
            ·simp only [Act.put, zp, zq, zr, i64_w, i32_w]
             rfl
            refine take_ (i := 1) (N := some 27) (v := ?_) (a' := ?_) #[tt, tt, tt, ff, ff, tt, ff, tt, ff, ff, ff, ff, ff, ff, ff, ff] rfl rfl (take_ofW HT_.out HW_.out (by kernel_rfl)) (fun _ _ _ h => h) (Or.inl ⟨by rfl, ?_⟩) hHeld ?_ ?_
            rotate_left
            ·rintro w' ⟨s0, s1, s2, s3, s4, s5⟩
             go_simp
             with_reducible rfl
            rotate_left
            ·simp only [Act.put, zp, zq, zr, i64_w, i32_w]
             rfl
            refine pure_ (i := 3) (N := some 29) (v := ?_) (a' := ?_) #[tt, tt, tt, tt, ff, tt, ff, tt, ff, ff, ff, ff, ff, ff, ff, ff] rfl rfl (any_of HT_.out (by kernel_rfl)) (fun _ _ _ h => h) (Or.inl ⟨by rfl, ?_⟩) ?_ ?_
            rotate_left
            ·intro w'
             go_simp
             with_reducible rfl
            rotate_left
            ·simp only [Act.put, zp, zq, zr, i64_w, i32_w]
             rfl
            refine take_ (i := 4) (N := some 30) (v := ?_) (a' := ?_) #[tt, tt, tt, tt, tt, tt, ff, tt, ff, ff, ff, ff, ff, ff, ff, ff] rfl rfl (take_ofW HT_.out HW_.out (by kernel_rfl)) (fun _ _ _ h => h) (Or.inl ⟨by rfl, ?_⟩) hHeld ?_ ?_
            rotate_left
            ·rintro w' ⟨s0, s1, s2, s3, s4, s5⟩
             go_simp
             with_reducible rfl
            rotate_left
            ·simp only [Act.put, zp, zq, zr, i64_w, i32_w]
             rfl
            refine take_ (i := 6) (N := some 32) (v := ?_) (a' := ?_) #[tt, tt, tt, tt, tt, tt, tt, tt, ff, ff, ff, ff, ff, ff, ff, ff] rfl rfl (take_ofW HT_.out HW_.out (by kernel_rfl)) (fun _ _ _ h => h) (Or.inl ⟨by rfl, ?_⟩) hHeld ?_ ?_
            rotate_left
            ·rintro w' ⟨s0, s1, s2, s3, s4, s5⟩
             go_simp
             with_reducible rfl
            rotate_left
            ·simp only [Act.put, zp, zq, zr, i64_w, i32_w]
             rfl
            refine pure_ (i := 8) (N := some 34) (v := ?_) (a' := ?_) #[tt, tt, tt, tt, tt, tt, tt, tt, tt, ff, ff, ff, ff, ff, ff, ff] rfl rfl (any_of HT_.out (by kernel_rfl)) (fun _ _ _ h => h) (Or.inl ⟨by rfl, ?_⟩) ?_ ?_
            rotate_left
            ·intro w'
             go_simp
             with_reducible rfl
            rotate_left
            ·simp only [Act.put, zp, zq, zr, i64_w, i32_w]
             rfl
            refine take_ (i := 9) (N := some 35) (v := ?_) (a' := ?_) #[tt, tt, tt, tt, tt, tt, tt, tt, tt, tt, ff, ff, ff, ff, ff, ff] rfl rfl (take_ofW HT_.out HW_.out (by kernel_rfl)) (fun _ _ _ h => h) (Or.inl ⟨by rfl, ?_⟩) hHeld ?_ ?_
            rotate_left
            ·rintro w' ⟨s0, s1, s2, s3, s4, s5⟩
             go_simp
             with_reducible rfl
            rotate_left
            ·simp only [Act.put, zp, zq, zr, i64_w, i32_w]
             rfl
            refine pure_ (i := 10) (N := some 36) (v := ?_) (a' := ?_) #[tt, tt, tt, tt, tt, tt, tt, tt, tt, tt, tt, ff, ff, ff, ff, ff] rfl rfl (any_of HT_.out (by kernel_rfl)) (fun _ _ _ h => h) (Or.inl ⟨by rfl, ?_⟩) ?_ ?_
            rotate_left
            ·intro w'
             go_simp
             with_reducible rfl
            rotate_left
            ·simp only [Act.put, zp, zq, zr, i64_w, i32_w]
             rfl
            refine pure_ (i := 11) (N := some 37) (v := ?_) (a' := ?_) #[tt, tt, tt, tt, tt, tt, tt, tt, tt, tt, tt, tt, ff, ff, ff, ff] rfl rfl (any_of HT_.out (by kernel_rfl)) (fun _ _ _ h => h) (Or.inl ⟨by rfl, ?_⟩) ?_ ?_
            rotate_left
            ·intro w'
             go_simp
             with_reducible rfl
            rotate_left
            ·simp only [Act.put, zp, zq, zr, i64_w, i32_w]
             rfl
            refine pure_ (i := 12) (N := some 38) (v := ?_) (a' := ?_) #[tt, tt, tt, tt, tt, tt, tt, tt, tt, tt, tt, tt, tt, ff, ff, ff] rfl rfl (any_of HT_.out (by kernel_rfl)) (fun _ _ _ h => h) (Or.inl ⟨by rfl, ?_⟩) ?_ ?_
            rotate_left
            ·intro w'
             go_simp
             with_reducible rfl
            rotate_left
            ·simp only [Act.put, zp, zq, zr, i64_w, i32_w]
             rfl
            refine take_ (i := 13) (N := some 39) (v := ?_) (a' := ?_) #[tt, tt, tt, tt, tt, tt, tt, tt, tt, tt, tt, tt, tt, tt, ff, ff] rfl rfl (take_ofW HT_.out HW_.out (by kernel_rfl)) (fun _ _ _ h => h) (Or.inl ⟨by rfl, ?_⟩) hHeld ?_ ?_
            rotate_left
            ·rintro w' ⟨s0, s1, s2, s3, s4, s5⟩
             go_simp
             with_reducible rfl
            rotate_left
            ·simp only [Act.put, zp, zq, zr, i64_w, i32_w]
             rfl
            refine one_ (i := 14) (N := some 10) #[tt, tt, tt, tt, tt, tt, tt, tt, tt, tt, tt, tt, tt, tt, tt, ff] rfl rfl (one_of HT_.out (by kernel_rfl)) (by decide) (fun K hK => ?_)
            refine box_step ?hg (N := 10) ?hd (cs := #[.int .i64 0, .int .i64 0]) (t := 30) ?hr ?_; (case hd => rfl); (case hg => rfl); (case hr => first | (go_simp; done) | (go_simp; rfl))
            intro ad hg fq hbox hb
            have dB := (hb.cell (World.block_lt_of_cell? _ _ (hHeld.2.2.1))).trans (hHeld.2.2.1)
            have dC := (hb.cell (World.block_lt_of_cell? _ _ (hHeld.2.2.2.1))).trans (hHeld.2.2.2.1)
            have ch := (hb.cell (World.block_lt_of_cell? _ _ (hHeld.2.2.2.2.1))).trans (hHeld.2.2.2.2.1)
            have dD := (hb.cell (World.block_lt_of_cell? _ _ (hHeld.2.2.2.2.2))).trans (hHeld.2.2.2.2.2)
            have aV := zK (Kd.R_below (by (with_reducible repeat (first | apply Kd.R_alloc | apply Kd.R_drewN | apply Kd.R_drew)); exact aC.out) hb)
            have aW := zK (Kd.S_below (Kd.S_elderB (by (with_reducible repeat (first | apply Kd.S_alloc | apply Kd.S_drewN | apply Kd.S_drew)); exact ab.out) ad (Nat.le_of_eq hg.symm)) hb)
            have aX := zK (Kd.R_below (Kd.R_elderB (by (with_reducible repeat (first | apply Kd.R_alloc | apply Kd.R_drewN | apply Kd.R_drew)); exact ae.out) ad (Nat.le_of_eq hg.symm)) hb)
            have a0 := zK (Kd.R_below (Kd.R_elderB (by (with_reducible repeat (first | apply Kd.R_alloc | apply Kd.R_drewN | apply Kd.R_drew)); exact al.out) ad (Nat.le_of_eq hg.symm)) hb)
            have a6 := zK (blk_below (g := ao) (o := .cells #[.int .i64 a0_0, .slice aH ar.length aI] 24 (0, 0)) (by (with_reducible repeat (first | refine zN ?_ _ | refine zD ?_ | refine zA ?_ _)); exact ag.out) hb)
            have a7 := zK (blk_below (g := an) (o := .cells #[.int .i64 am, .slice none 0 0] 24 (0, 0)) (by (with_reducible repeat (first | refine zN ?_ _ | refine zD ?_ | refine zA ?_ _)); exact ai.out) hb)
            have bg := zK (blk_below (g := ap) (o := .cells #[.int .i64 aD, .slice (some aA) aa.length b4] 24 (0, 0)) (by (with_reducible repeat (first | refine zN ?_ _ | refine zD ?_ | refine zA ?_ _)); exact ah.out) hb)
            have br := zK (Kd.C_below (by repeat (first | (with_reducible exact au.out) | (with_reducible refine Kd.C_alloc ?_ _) | (with_reducible refine Kd.C_drewN ?_ _) | (with_reducible refine Kd.C_drew ?_) | exact au.out)) hb)
            have bw := zK (pw_cell_below hb aT.out)
            have bB := zK (Kd.C_below (by repeat (first | (with_reducible exact av.out) | (with_reducible refine Kd.C_alloc ?_ _) | (with_reducible refine Kd.C_drewN ?_ _) | (with_reducible refine Kd.C_drew ?_) | exact av.out)) hb)
            have bp := zK (pw_cell_below hb aU.out)
            have bW := zK (below_step (by repeat (first | (with_reducible first | exact HB.out | apply zB | apply zC | apply zE | refine zS ?_ aw.out | refine zS ?_ az.out | refine zS ?_ aR.out) | exact HB.out)) hb)
            have ci := zK (hbox)
            have cj := zK ((by rw [hg]; exact (below_size (by repeat (first | (with_reducible first | exact HB.out | apply zB | apply zC | apply zE | refine zS ?_ aw.out | refine zS ?_ az.out | refine zS ?_ aR.out) | exact HB.out))) : w.heap.size ≤ ad))
            have ck := zK ((by rw [hg]; exact (below_size (by repeat (first | (with_reducible first | exact HB.out | apply zB | apply zC | apply zE | refine zS ?_ aw.out | refine zS ?_ az.out | refine zS ?_ aR.out) | exact HB.out))) : w.heap.size ≤ ad))
            have cl := zK ((by rw [hg]; exact Nat.ne_of_lt (blk_lt (g := ao) (o := .cells #[.int .i64 a0_0, .slice aH ar.length aI] 24 (0, 0)) (by (with_reducible repeat (first | refine zN ?_ _ | refine zD ?_ | refine zA ?_ _)); exact ag.out)) : ao ≠ ad))
            have cm := zK ((by rw [hg]; exact Nat.ne_of_gt (blk_lt (g := ao) (o := .cells #[.int .i64 a0_0, .slice aH ar.length aI] 24 (0, 0)) (by (with_reducible repeat (first | refine zN ?_ _ | refine zD ?_ | refine zA ?_ _)); exact ag.out)) : ad ≠ ao))
            have cn := zK ((by rw [hg]; exact Nat.ne_of_lt (blk_lt (g := an) (o := .cells #[.int .i64 am, .slice none 0 0] 24 (0, 0)) (by (with_reducible repeat (first | refine zN ?_ _ | refine zD ?_ | refine zA ?_ _)); exact ai.out)) : an ≠ ad))
            have co := zK ((by rw [hg]; exact Nat.ne_of_gt (blk_lt (g := an) (o := .cells #[.int .i64 am, .slice none 0 0] 24 (0, 0)) (by (with_reducible repeat (first | refine zN ?_ _ | refine zD ?_ | refine zA ?_ _)); exact ai.out)) : ad ≠ an))
            have cp := zK ((by rw [hg]; exact Nat.ne_of_lt (blk_lt (g := ap) (o := .cells #[.int .i64 aD, .slice (some aA) aa.length b4] 24 (0, 0)) (by (with_reducible repeat (first | refine zN ?_ _ | refine zD ?_ | refine zA ?_ _)); exact ah.out)) : ap ≠ ad))
            have cq := zK ((by rw [hg]; exact Nat.ne_of_gt (blk_lt (g := ap) (o := .cells #[.int .i64 aD, .slice (some aA) aa.length b4] 24 (0, 0)) (by (with_reducible repeat (first | refine zN ?_ _ | refine zD ?_ | refine zA ?_ _)); exact ah.out)) : ad ≠ ap))
            clear aC ab ae al ag ai ah au aT av aU HB; have aC := aV; have ab := aW; have ae := aX; have al := a0; have ag := a6; have ai := a7; have ah := bg; have au := br; have aT := bw; have av := bB; have aU := bp; have HB := bW; have aj := ci; have eD := cj; have ba := ck; have ax := cl; have aM := cm; have ay := cn; have aN := co; have ak := cp; have aQ := cq; clear aV aW aX a0 a6 a7 bg br bw bB bp bW ci cj ck cl cm cn co cp cq hb hbox hg
            refine hK.out _ _ ⟨(blk_cell ah.out 0).trans rfl, (blk_cell ah.out 1).trans rfl, dB, dC, ch, dD⟩ (fun hHeld => ?_)
            clear hK K
            refine norm_ (a' := ?_) ?_ ?_
            rotate_left
            ·show Act.put _ (some 10) _ = _
             simp only [Act.put, zp, zq, zr, i64_w, i32_w]
             rfl
            refine one_ (i := 15) (N := none) #[tt, tt, tt, tt, tt, tt, tt, tt, tt, tt, tt, tt, tt, tt, tt, tt] rfl rfl (one_of HT_.out (by kernel_rfl)) (by decide) (fun K hK => ?_)
            have hs67 : fq.cell? ⟨ad, 0, none⟩ = some (.int .i64 0) := (blk_cell aj.out 0).trans rfl
            have hfs67 := blk_frozen aj.out 0; have hns67_0 := ax.out; have hns67_1 := ay.out; have hns67_2 := ak.out; have hms67_0 := aM.out; have hms67_1 := aN.out; have hms67_2 := aQ.out
            have hs68 : fq.cell? ⟨ad, 1, none⟩ = some (.int .i64 0) := (blk_cell aj.out 1).trans rfl
            have hfs68 := blk_frozen aj.out 1; have hns68_0 := ax.out; have hns68_1 := ay.out; have hns68_2 := ak.out; have hms68_0 := aM.out; have hms68_1 := aN.out; have hms68_2 := aQ.out
            refine skip_ (w1 := ?_) (by rfl) rfl ?_ ?_
            rotate_left
            ·go_simp
             rfl
            refine hK.out _ _ ⟨((cell_far (p := ⟨ad, _, none⟩) ak.out _).trans (((cell_far (p := ⟨ad, _, none⟩) ak.out _).trans (hHeld.1)))), ((cell_far (p := ⟨ad, _, none⟩) ak.out _).trans (((cell_far (p := ⟨ad, _, none⟩) ak.out _).trans (hHeld.2.1)))), ((cell_far (p := ⟨ad, _, none⟩) (by first | exact Kd.own_blk (Kd.S_away ab.out (fun _ hk => hk.2)) | (rw [add_block]; exact Kd.own_blk (Kd.S_away ab.out (fun _ hk => hk.2))) | (show (Addr.add _ _).block ≠ _; rw [add_block]; exact Kd.own_blk (Kd.S_away ab.out (fun _ hk => hk.2))) | (dsimp only; exact Kd.own_blk (Kd.S_away ab.out (fun _ hk => hk.2)))) _).trans (((cell_far (p := ⟨ad, _, none⟩) (by first | exact Kd.own_blk (Kd.S_away ab.out (fun _ hk => hk.2)) | (rw [add_block]; exact Kd.own_blk (Kd.S_away ab.out (fun _ hk => hk.2))) | (show (Addr.add _ _).block ≠ _; rw [add_block]; exact Kd.own_blk (Kd.S_away ab.out (fun _ hk => hk.2))) | (dsimp only; exact Kd.own_blk (Kd.S_away ab.out (fun _ hk => hk.2)))) _).trans (hHeld.2.2.1)))), ((cell_far (p := ⟨ad, _, none⟩) (by first | exact Kd.own_blk (Kd.S_away ab.out (fun _ hk => hk.2)) | (rw [add_block]; exact Kd.own_blk (Kd.S_away ab.out (fun _ hk => hk.2))) | (show (Addr.add _ _).block ≠ _; rw [add_block]; exact Kd.own_blk (Kd.S_away ab.out (fun _ hk => hk.2))) | (dsimp only; exact Kd.own_blk (Kd.S_away ab.out (fun _ hk => hk.2)))) _).trans (((cell_far (p := ⟨ad, _, none⟩) (by first | exact Kd.own_blk (Kd.S_away ab.out (fun _ hk => hk.2)) | (rw [add_block]; exact Kd.own_blk (Kd.S_away ab.out (fun _ hk => hk.2))) | (show (Addr.add _ _).block ≠ _; rw [add_block]; exact Kd.own_blk (Kd.S_away ab.out (fun _ hk => hk.2))) | (dsimp only; exact Kd.own_blk (Kd.S_away ab.out (fun _ hk => hk.2)))) _).trans (hHeld.2.2.2.1)))), ((cell_far (p := ⟨ad, _, none⟩) (by first | exact Kd.own_blk (Kd.R_away ae.out (fun _ hk => hk.2)) | (rw [add_block]; exact Kd.own_blk (Kd.R_away ae.out (fun _ hk => hk.2))) | (show (Addr.add _ _).block ≠ _; rw [add_block]; exact Kd.own_blk (Kd.R_away ae.out (fun _ hk => hk.2))) | (dsimp only; exact Kd.own_blk (Kd.R_away ae.out (fun _ hk => hk.2)))) _).trans (((cell_far (p := ⟨ad, _, none⟩) (by first | exact Kd.own_blk (Kd.R_away ae.out (fun _ hk => hk.2)) | (rw [add_block]; exact Kd.own_blk (Kd.R_away ae.out (fun _ hk => hk.2))) | (show (Addr.add _ _).block ≠ _; rw [add_block]; exact Kd.own_blk (Kd.R_away ae.out (fun _ hk => hk.2))) | (dsimp only; exact Kd.own_blk (Kd.R_away ae.out (fun _ hk => hk.2)))) _).trans (hHeld.2.2.2.2.1)))), ((cell_far (p := ⟨ad, _, none⟩) (by first | exact Kd.own_blk (Kd.R_away ae.out (fun _ hk => hk.2)) | (rw [add_block]; exact Kd.own_blk (Kd.R_away ae.out (fun _ hk => hk.2))) | (show (Addr.add _ _).block ≠ _; rw [add_block]; exact Kd.own_blk (Kd.R_away ae.out (fun _ hk => hk.2))) | (dsimp only; exact Kd.own_blk (Kd.R_away ae.out (fun _ hk => hk.2)))) _).trans (((cell_far (p := ⟨ad, _, none⟩) (by first | exact Kd.own_blk (Kd.R_away ae.out (fun _ hk => hk.2)) | (rw [add_block]; exact Kd.own_blk (Kd.R_away ae.out (fun _ hk => hk.2))) | (show (Addr.add _ _).block ≠ _; rw [add_block]; exact Kd.own_blk (Kd.R_away ae.out (fun _ hk => hk.2))) | (dsimp only; exact Kd.own_blk (Kd.R_away ae.out (fun _ hk => hk.2)))) _).trans (hHeld.2.2.2.2.2))))⟩ (fun hHeld => ?_)
            clear hK K
            refine done_ (done_of HT_.out (by kernel_rfl)) ?_
            have hnb69 := aM.out; have hnc69 := ax.out; have hnb70 := aN.out; have hnc70 := ay.out; have hnb71 := aQ.out; have hnc71 := ak.out
            have hcz72_0 : fq.cell? ⟨ad, 0, none⟩ = some (.int .i64 0) := (blk_cell aj.out 0).trans rfl
            have hcz72_1 : fq.cell? ⟨ad, 1, none⟩ = some (.int .i64 0) := (blk_cell aj.out 1).trans rfl
            have hfz72_0 := blk_frozen aj.out 0; have hfz72_1 := blk_frozen aj.out 1; have hnb73 := bu.out; have hnc73 := bd.out; have hnb74 := bv.out; have hnc74 := be.out
            have hcz75_0 : fq.cell? ⟨ap, 0, none⟩ = some (.int .i64 aD) := (blk_cell ah.out 0).trans rfl
            have hcz75_1 : fq.cell? ⟨ap, 1, none⟩ = some (.slice (some aA) aa.length b4) := (blk_cell ah.out 1).trans rfl
            have hfz75_0 := blk_frozen ah.out 0; have hfz75_1 := blk_frozen ah.out 1
            try go_wp2_with (first | ((with_reducible refine gate_callee (f := 62) rfl ?_); refine goesL_ (some 52) rfl rfl Try.func62 (by kernel_rfl) rfl #[.agg #[.int .i64 aD, .slice (some aA) aa.length b4], .int .i64 ((rd_T30 (rd_L2 aa ac) (af)).f1), .int .i64 ac] rfl (by (try simp only [List.map_toArray, List.map_cons, List.map_nil]); first | done | (simp only [bP]; rfl) | rfl | (simp only [List.length_drop, List.length_take]; rfl)) ?_; (with_reducible refine (impl_laneFor.calls k2 aD _ _ aa ((rd_T30 (rd_L2 aa ac) (af)).f1) ac aq _ ?side1 ?side2 A61.out).mono ?_); (case side1 => refine (Kd.S_reads' (e := 28) (base := w.heap.size) (ok := fun k_ => (True ∧ k_ ≠ ad)) (n := aa.length) (c := b4) ?_).2.2; exact (by (with_reducible repeat (first | apply Kd.S_alloc | apply Kd.S_drewN | apply Kd.S_drew)); exact (Kd.S_mono (Kd.S_far (p := ⟨ad, 1, none⟩) (Kd.S_far (p := ⟨ad, 0, none⟩) (Kd.S_mono ab.out (fun k_ hk => (⟨hk, hk.2⟩ : _ ∧ k_ ≠ ad))) (fun _ hk => hk.2) (.int .i64 ((rd_T30 (rd_L2 aa ac) (af)).f0))) (fun _ hk => hk.2) (.int .i64 ((rd_T30 (rd_L2 aa ac) (af)).f1))) (fun _ h_ => h_.1)))); (case side2 => exact (Kd.S_reads' ab.out).2.1); rintro e w76 ⟨rfl, hb⟩; refine ⟨_, rfl, ?_⟩; have aV := zK (Kd.R_below (by (with_reducible repeat (first | apply Kd.R_alloc | apply Kd.R_drewN | apply Kd.R_drew)); exact (Kd.R_mono (Kd.R_far (p := ⟨ad, 1, none⟩) (Kd.R_far (p := ⟨ad, 0, none⟩) (Kd.R_types aC.out aj.out (by decide)) (fun _ hk => hk.2) (.int .i64 ((rd_T30 (rd_L2 aa ac) (af)).f0))) (fun _ hk => hk.2) (.int .i64 ((rd_T30 (rd_L2 aa ac) (af)).f1))) (fun _ h_ => h_.1))) hb); have aW := zK (Kd.S_below (by (with_reducible repeat (first | apply Kd.S_alloc | apply Kd.S_drewN | apply Kd.S_drew)); exact (Kd.S_mono (Kd.S_far (p := ⟨ad, 1, none⟩) (Kd.S_far (p := ⟨ad, 0, none⟩) (Kd.S_mono ab.out (fun k_ hk => (⟨hk, hk.2⟩ : _ ∧ k_ ≠ ad))) (fun _ hk => hk.2) (.int .i64 ((rd_T30 (rd_L2 aa ac) (af)).f0))) (fun _ hk => hk.2) (.int .i64 ((rd_T30 (rd_L2 aa ac) (af)).f1))) (fun _ h_ => h_.1))) hb); have aX := zK (Kd.R_below (by (with_reducible repeat (first | apply Kd.R_alloc | apply Kd.R_drewN | apply Kd.R_drew)); exact (Kd.R_mono (Kd.R_far (p := ⟨ad, 1, none⟩) (Kd.R_far (p := ⟨ad, 0, none⟩) (Kd.R_mono ae.out (fun k_ hk => (⟨hk, hk.2⟩ : _ ∧ k_ ≠ ad))) (fun _ hk => hk.2) (.int .i64 ((rd_T30 (rd_L2 aa ac) (af)).f0))) (fun _ hk => hk.2) (.int .i64 ((rd_T30 (rd_L2 aa ac) (af)).f1))) (fun _ h_ => h_.1))) hb); have a0 := zK (Kd.R_below (by (with_reducible repeat (first | apply Kd.R_alloc | apply Kd.R_drewN | apply Kd.R_drew)); exact (Kd.R_mono (Kd.R_far (p := ⟨ad, 1, none⟩) (Kd.R_far (p := ⟨ad, 0, none⟩) (Kd.R_mono al.out (fun k_ hk => (⟨hk, hk.2⟩ : _ ∧ k_ ≠ ad))) (fun _ hk => hk.2) (.int .i64 ((rd_T30 (rd_L2 aa ac) (af)).f0))) (fun _ hk => hk.2) (.int .i64 ((rd_T30 (rd_L2 aa ac) (af)).f1))) (fun _ h_ => h_.1))) hb); have a6 := zK (blk_below (g := ao) (o := .cells #[.int .i64 a0_0, .slice aH ar.length aI] 24 (0, 0)) (by (with_reducible repeat (first | refine zN ?_ _ | refine zD ?_ | refine zA ?_ _)); refine blk_far ?_ ax.out _; (with_reducible repeat (first | refine zN ?_ _ | refine zD ?_ | refine zA ?_ _)); refine blk_far ?_ ax.out _; (with_reducible repeat (first | refine zN ?_ _ | refine zD ?_ | refine zA ?_ _)); exact ag.out) hb); have a7 := zK (blk_below (g := an) (o := .cells #[.int .i64 am, .slice none 0 0] 24 (0, 0)) (by (with_reducible repeat (first | refine zN ?_ _ | refine zD ?_ | refine zA ?_ _)); refine blk_far ?_ ay.out _; (with_reducible repeat (first | refine zN ?_ _ | refine zD ?_ | refine zA ?_ _)); refine blk_far ?_ ay.out _; (with_reducible repeat (first | refine zN ?_ _ | refine zD ?_ | refine zA ?_ _)); exact ai.out) hb); have bg := zK (blk_below (g := ap) (o := .cells #[.int .i64 aD, .slice (some aA) aa.length b4] 24 (0, 0)) (by (with_reducible repeat (first | refine zN ?_ _ | refine zD ?_ | refine zA ?_ _)); refine blk_far ?_ ak.out _; (with_reducible repeat (first | refine zN ?_ _ | refine zD ?_ | refine zA ?_ _)); refine blk_far ?_ ak.out _; (with_reducible repeat (first | refine zN ?_ _ | refine zD ?_ | refine zA ?_ _)); exact ah.out) hb); have br := zK (Kd.C_below ((Kd.R_reads' (by (with_reducible repeat (first | apply Kd.R_alloc | apply Kd.R_drewN | apply Kd.R_drew)); exact (Kd.R_mono (Kd.R_far (p := ⟨ad, 1, none⟩) (Kd.R_far (p := ⟨ad, 0, none⟩) (Kd.R_mono ae.out (fun k_ hk => (⟨hk, hk.2⟩ : _ ∧ k_ ≠ ad))) (fun _ hk => hk.2) (.int .i64 ((rd_T30 (rd_L2 aa ac) (af)).f0))) (fun _ hk => hk.2) (.int .i64 ((rd_T30 (rd_L2 aa ac) (af)).f1))) (fun _ h_ => h_.1)))).2.2) hb); have bw := zK (Kd.C_below ((Kd.R_reads' (by (with_reducible repeat (first | apply Kd.R_alloc | apply Kd.R_drewN | apply Kd.R_drew)); exact (Kd.R_mono (Kd.R_far (p := ⟨ad, 1, none⟩) (Kd.R_far (p := ⟨ad, 0, none⟩) (Kd.R_mono al.out (fun k_ hk => (⟨hk, hk.2⟩ : _ ∧ k_ ≠ ad))) (fun _ hk => hk.2) (.int .i64 ((rd_T30 (rd_L2 aa ac) (af)).f0))) (fun _ hk => hk.2) (.int .i64 ((rd_T30 (rd_L2 aa ac) (af)).f1))) (fun _ h_ => h_.1)))).2.2) hb); have bB := zK (blk_below (g := ad) (o := .cells #[.int .i64 ((rd_T30 (rd_L2 aa ac) (af)).f0), .int .i64 ((rd_T30 (rd_L2 aa ac) (af)).f1)] 30 (0, 0)) (by (with_reducible repeat (first | refine zN ?_ _ | refine zD ?_ | refine zA ?_ _)); refine blk_put (cs := #[.int .i64 ((rd_T30 (rd_L2 aa ac) (af)).f0), .int .i64 0]) ?_ 1 _ rfl; (with_reducible repeat (first | refine zN ?_ _ | refine zD ?_ | refine zA ?_ _)); refine blk_put (cs := #[.int .i64 0, .int .i64 0]) ?_ 0 _ rfl; (with_reducible repeat (first | refine zN ?_ _ | refine zD ?_ | refine zA ?_ _)); exact aj.out) hb); have bp := zK (below_step (by repeat (first | (with_reducible first | exact HB.out | apply zB | apply zC | apply zE | refine zS ?_ aw.out | refine zS ?_ az.out | refine zS ?_ aR.out | refine zS ?_ ba.out) | exact HB.out)) hb); clear aC; clear ab; clear ae; clear al; clear ag; clear ai; clear ah; clear au; clear av; clear aj; clear HB; have aC := aV; have ab := aW; have ae := aX; have al := a0; have ag := a6; have ai := a7; have ah := bg; have au := br; have av := bw; have aj := bB; have HB := bp; clear aV aW aX a0 a6 a7 bg br bw bB bp; (try clear hb); (try clear hk); have hnb77 := a8.out; have hnc77 := a9.out; have hcz78_0 : w76.cell? ⟨ao, 0, none⟩ = some (.int .i64 a0_0) := (blk_cell ag.out 0).trans rfl; have hcz78_1 : w76.cell? ⟨ao, 1, none⟩ = some (.slice aH ar.length aI) := (blk_cell ag.out 1).trans rfl; have hfz78_0 := blk_frozen ag.out 0; have hfz78_1 := blk_frozen ag.out 1) | ((with_reducible refine gate_callee (f := 67) rfl ?_); refine goesL_ (some 56) rfl rfl Try.func67 (by kernel_rfl) rfl #[.agg #[.int .i64 a0_0, .slice aH ar.length aI]] rfl (by (try simp only [List.map_toArray, List.map_cons, List.map_nil]); first | done | rfl | (simp only [List.length_drop, List.length_take]; rfl)) ?_; (with_reducible refine (impl_copyStore.calls k2 a0_0 _ _ ar dH ek _ ?side1 ?side2 A63.out).mono ?_); (case side1 => repeat (first | exact (Kd.C_below bY.out HB.out) | (with_reducible refine Kd.C_alloc ?_ _) | (with_reducible refine Kd.C_drewN ?_ _) | (with_reducible refine Kd.C_drew ?_))); (case side2 => exact bZ.out); rintro e w79 ⟨v746, rfl, ho0, hb⟩; refine ⟨_, rfl, ?_⟩; have aV := zK (Kd.R_below (by (with_reducible repeat (first | apply Kd.R_alloc | apply Kd.R_drewN | apply Kd.R_drew)); exact aC.out) hb); have aW := zK (Kd.S_elder' (by (with_reducible repeat (first | apply Kd.S_alloc | apply Kd.S_drewN | apply Kd.S_drew)); exact ab.out) (Kd.S_base ho0) hb); have aX := zK (Kd.R_below (by (with_reducible repeat (first | apply Kd.R_alloc | apply Kd.R_drewN | apply Kd.R_drew)); exact ae.out) hb); have a0 := zK (Kd.R_below (by (with_reducible repeat (first | apply Kd.R_alloc | apply Kd.R_drewN | apply Kd.R_drew)); exact al.out) hb); have a6 := zK (Kd.S_lower (Kd.S_newB (Kd.S_new' (Kd.S_new' (Kd.S_new' ho0 (Kd.S_lt (by (with_reducible repeat (first | apply Kd.S_alloc | apply Kd.S_drewN | apply Kd.S_drew)); exact ab.out))) (Kd.R_lt (by (with_reducible repeat (first | apply Kd.R_alloc | apply Kd.R_drewN | apply Kd.R_drew)); exact ae.out))) (Kd.R_lt (by (with_reducible repeat (first | apply Kd.R_alloc | apply Kd.R_drewN | apply Kd.R_drew)); exact al.out))) (g := ad) (o := .cells #[.int .i64 ((rd_T30 (rd_L2 aa ac) (af)).f0), .int .i64 ((rd_T30 (rd_L2 aa ac) (af)).f1)] 30 (0, 0)) (by (with_reducible repeat (first | refine zN ?_ _ | refine zD ?_ | refine zA ?_ _)); exact aj.out)) (below_size (by repeat (first | (with_reducible first | exact HB.out | apply zB | apply zC | apply zE | refine zS ?_ aw.out | refine zS ?_ az.out | refine zS ?_ aR.out | refine zS ?_ ba.out) | exact HB.out)))); have a7 := zK (blk_below (g := ao) (o := .cells #[.int .i64 a0_0, .slice aH ar.length aI] 24 (0, 0)) (by (with_reducible repeat (first | refine zN ?_ _ | refine zD ?_ | refine zA ?_ _)); exact ag.out) hb); have bg := zK (blk_below (g := an) (o := .cells #[.int .i64 am, .slice none 0 0] 24 (0, 0)) (by (with_reducible repeat (first | refine zN ?_ _ | refine zD ?_ | refine zA ?_ _)); exact ai.out) hb); have br := zK (blk_below (g := ap) (o := .cells #[.int .i64 aD, .slice (some aA) aa.length b4] 24 (0, 0)) (by (with_reducible repeat (first | refine zN ?_ _ | refine zD ?_ | refine zA ?_ _)); exact ah.out) hb); have bw := zK (Kd.C_below (by repeat (first | (with_reducible exact au.out) | (with_reducible refine Kd.C_alloc ?_ _) | (with_reducible refine Kd.C_drewN ?_ _) | (with_reducible refine Kd.C_drew ?_) | exact au.out)) hb); have bB := zK (Kd.C_below (by repeat (first | (with_reducible exact av.out) | (with_reducible refine Kd.C_alloc ?_ _) | (with_reducible refine Kd.C_drewN ?_ _) | (with_reducible refine Kd.C_drew ?_) | exact av.out)) hb); have bp := zK (blk_below (g := ad) (o := .cells #[.int .i64 ((rd_T30 (rd_L2 aa ac) (af)).f0), .int .i64 ((rd_T30 (rd_L2 aa ac) (af)).f1)] 30 (0, 0)) (by (with_reducible repeat (first | refine zN ?_ _ | refine zD ?_ | refine zA ?_ _)); exact aj.out) hb); have bW := zK (below_step (by repeat (first | (with_reducible first | exact HB.out | apply zB | apply zC | apply zE | refine zS ?_ aw.out | refine zS ?_ az.out | refine zS ?_ aR.out | refine zS ?_ ba.out) | exact HB.out)) hb); clear aC; clear ab; clear ae; clear al; clear ag; clear ai; clear ah; clear au; clear av; clear aj; clear HB; have aC := aV; have ab := aW; have ae := aX; have al := a0; have eI := a6; have ag := a7; have ai := bg; have ah := br; have au := bw; have av := bB; have aj := bp; have HB := bW; clear aV aW aX a0 a6 a7 bg br bw bB bp bW; (try clear hb); (try clear hk); (try clear ho0); have hcz80_0 : w79.cell? ⟨an, 0, none⟩ = some (.int .i64 am) := (blk_cell ai.out 0).trans rfl; have hcz80_1 : w79.cell? ⟨an, 1, none⟩ = some (.slice none 0 0) := (blk_cell ai.out 1).trans rfl; have hfz80_0 := blk_frozen ai.out 0; have hfz80_1 := blk_frozen ai.out 1; obtain ⟨fY, fZ, eo81⟩ := Kd.S_slice eI.out; subst eo81))
            refine bodyPost_ret (results_ctt rfl _ _ an 24 #[.int .i64 dH, .slice fY ek.length fZ] (0, 0) _ rfl (by (with_reducible repeat (first | refine zN ?_ _ | refine zD ?_ | refine zA ?_ _)); refine blk_put (cs := #[.int .i64 dH, .slice none 0 0]) ?_ 1 _ rfl; (with_reducible repeat (first | refine zN ?_ _ | refine zD ?_ | refine zA ?_ _)); refine blk_put (cs := #[.int .i64 am, .slice none 0 0]) ?_ 0 _ rfl; (with_reducible repeat (first | refine zN ?_ _ | refine zD ?_ | refine zA ?_ _)); exact ai.out) Try.underlying24 rfl (by kernel_rfl)) rfl ?_
            exact ⟨_, _, by first | rfl | (simp [errW_none, errW_some] <;> rfl) | (simp only [← bP]; first | rfl | (simp [errW_none, errW_some] <;> rfl)) | (simp [*, errW_none, errW_some] <;> rfl), by (with_reducible repeat (first | apply Kd.S_alloc | apply Kd.S_drewN | apply Kd.S_drew)); exact Kd.S_mono (Kd.S_far (p := ⟨an, 1, none⟩) (Kd.S_far (p := ⟨an, 0, none⟩) (Kd.S_types eI.out ai.out (by decide)) (fun _ hk => hk.2) (.int .i64 dH)) (fun _ hk => hk.2) (.slice fY ek.length fZ)) (fun _ hk => trivial), by first | exact Kd.R_nil _ _ _ _ _ | exact Kd.N_nil _ _ _ _ _ | exact Kd.V_nil _ _ _ _ _ | exact Kd.Q_nil _ _ _ _ _ | exact Kd.S_nil _ _ _ _ _, by repeat (first | (with_reducible first | exact HB.out | apply zB | apply zC | apply zE | refine zS ?_ aw.out | refine zS ?_ az.out | refine zS ?_ aR.out | refine zS ?_ ba.out) | exact HB.out)⟩
           ·rw [if_neg fp] at H
            have fV : decide (aq < 0) = false := decide_eq_false fp
            clear fp
            by_cases f2 : (af) ≤ ((rd_L2 aa ac).length : Int)
            ·rw [if_pos f2] at H
             have c82b0 := eq_true f2
             have c82b1 : decide ((af) ≤ ((rd_L2 aa ac).length : Int)) = true := decide_eq_true f2
             clear f2
             obtain ⟨b5, cr⟩ : ∃ y_ : List (S30), y_ = ((rd_L2 aa ac).take ((af) : Int).toNat) := ⟨_, rfl⟩
             replace H : ((some (aa.set (ac : Int).toNat b5 : List (List (S30)))).bind fun a5 => (if 0 ≤ aq then (if aq < (aa.length : Int) then (if aq = ac then (none) else (if (rd_L2 a5 aq).length < 8796093022208 then (if bf.length < 5864062014805 then (impl_TakeBag.l0 k2 a1 ac (bf ++ [(⟨(rd_T30 (rd_L2 aa ac) (af)).f0, ac, aq⟩ : S78)]) a0_0 ar aD (a5.set (aq : Int).toNat ((rd_L2 a5 aq) ++ [(⟨(rd_T30 (rd_L2 aa ac) (af)).f0, (rd_T30 (rd_L2 aa ac) (af)).f1⟩ : S30)]))) else (none)) else (none))) else (none)) else (none))) = some (r1, r2, r3, r4) := by first | (rw [cr]; with_reducible exact H) | (have H2_ := (Option.bind_some _ _).symm.trans H; rw [cr]; with_reducible exact H2_) | (have H2_ := (Option.bind_some _ _).symm.trans H; with_reducible exact H2_) | with_reducible exact H | (rw [cr]; exact H) | exact H
             have Ny750 := zK cr; clear cr
             obtain ⟨a5, ct⟩ : ∃ y_ : List (List (S30)), y_ = (aa.set (ac : Int).toNat b5) := ⟨_, rfl⟩
             replace H : (if 0 ≤ aq then (if aq < (aa.length : Int) then (if aq = ac then (none) else (if (rd_L2 a5 aq).length < 8796093022208 then (if bf.length < 5864062014805 then (impl_TakeBag.l0 k2 a1 ac (bf ++ [(⟨(rd_T30 (rd_L2 aa ac) (af)).f0, ac, aq⟩ : S78)]) a0_0 ar aD (a5.set (aq : Int).toNat ((rd_L2 a5 aq) ++ [(⟨(rd_T30 (rd_L2 aa ac) (af)).f0, (rd_T30 (rd_L2 aa ac) (af)).f1⟩ : S30)]))) else (none)) else (none))) else (none)) else (none)) = some (r1, r2, r3, r4) := by first | (rw [ct]; with_reducible exact H) | (have H2_ := (Option.bind_some _ _).symm.trans H; rw [ct]; with_reducible exact H2_) | (have H2_ := (Option.bind_some _ _).symm.trans H; with_reducible exact H2_) | with_reducible exact H | (rw [ct]; exact H) | exact H
             have Ny754 := zK ct; clear ct
             by_cases c84 : 0 ≤ aq
             ·rw [if_pos c84] at H
              have c84b0 : decide (0 ≤ aq) = true := decide_eq_true c84
              clear c84
              by_cases c85 : aq < (aa.length : Int)
              ·rw [if_pos c85] at H
               have c85b0 : decide (aq < (aa.length : Int)) = true := decide_eq_true c85
               clear c85
               by_cases c86 : aq = ac
               ·rw [if_pos c86] at H
                exact absurd H (by simp)
               ·rw [if_neg c86] at H
                have c86b0 : (aq == ac) = false := beq_eq_false_iff_ne.mpr c86
                have c86b1 : (aq != ac) = true := bne_iff_ne.mpr c86
                by_cases c87 : (rd_L2 a5 aq).length < 8796093022208
                ·rw [if_pos c87] at H
                 have f3 := zK c87; clear c87
                 obtain ⟨bL, cu⟩ : ∃ y_ : List (S30), y_ = ((rd_L2 a5 aq) ++ [(⟨(rd_T30 (rd_L2 aa ac) (af)).f0, (rd_T30 (rd_L2 aa ac) (af)).f1⟩ : S30)]) := ⟨_, rfl⟩
                 replace H : (if bf.length < 5864062014805 then (impl_TakeBag.l0 k2 a1 ac (bf ++ [(⟨(rd_T30 (rd_L2 aa ac) (af)).f0, ac, aq⟩ : S78)]) a0_0 ar aD (a5.set (aq : Int).toNat bL)) else (none)) = some (r1, r2, r3, r4) := by first | (rw [cu]; with_reducible exact H) | (have H2_ := (Option.bind_some _ _).symm.trans H; rw [cu]; with_reducible exact H2_) | (have H2_ := (Option.bind_some _ _).symm.trans H; with_reducible exact H2_) | with_reducible exact H | (rw [cu]; exact H) | exact H
                 have Ny756 := zK cu; clear cu
                 obtain ⟨el, cv⟩ : ∃ y_ : List (List (S30)), y_ = (a5.set (aq : Int).toNat bL) := ⟨_, rfl⟩
                 replace H : (if bf.length < 5864062014805 then (impl_TakeBag.l0 k2 a1 ac (bf ++ [(⟨(rd_T30 (rd_L2 aa ac) (af)).f0, ac, aq⟩ : S78)]) a0_0 ar aD el) else (none)) = some (r1, r2, r3, r4) := by first | (rw [cv]; with_reducible exact H) | (have H2_ := (Option.bind_some _ _).symm.trans H; rw [cv]; with_reducible exact H2_) | (have H2_ := (Option.bind_some _ _).symm.trans H; with_reducible exact H2_) | with_reducible exact H | (rw [cv]; exact H) | exact H
                 have Ny759 := zK cv; clear cv
                 by_cases c89 : bf.length < 5864062014805
                 ·rw [if_pos c89] at H
                  have f4 := zK c89; clear c89
                  obtain ⟨f5, cw⟩ : ∃ y_ : List (S78), y_ = (bf ++ [(⟨(rd_T30 (rd_L2 aa ac) (af)).f0, ac, aq⟩ : S78)]) := ⟨_, rfl⟩
                  replace H : (impl_TakeBag.l0 k2 a1 ac f5 a0_0 ar aD el) = some (r1, r2, r3, r4) := by first | (rw [cw]; with_reducible exact H) | (have H2_ := (Option.bind_some _ _).symm.trans H; rw [cw]; with_reducible exact H2_) | (have H2_ := (Option.bind_some _ _).symm.trans H; with_reducible exact H2_) | with_reducible exact H | (rw [cw]; exact H) | exact H
                  have Ny760 := zK cw; clear cw; have H' := zK H; clear H
                  try go_wp2
                  have aV := zK (Kd.R_drew aC.out)
                  have aW := zK (Kd.S_drew ab.out)
                  have aX := zK (zD ag.out)
                  have a0 := zK (zD ai.out)
                  have a6 := zK (zD ah.out)
                  have a7 := zK (zE HB.out)
                  clear aC ab ag ai ah HB; have aC := aV; have ab := aW; have ag := aX; have ai := a0; have ah := a6; have HB := a7; clear aV aW aX a0 a6 a7
                  obtain ⟨Ao91, bb, f6⟩ := Kd.S_slice ab.out
                  (first | subst f6 | (injection f6 with f1_ f2_ f3_; have f4_ := f1_.symm; have f5_ := f3_.symm; clear f1_ f2_ f3_; subst f4_; subst f5_))
                  have bC : 0 ≤ (ac : Int) := of_decide_eq_true (by first | (with_reducible assumption) | assumption)
                  have bD : ac < (aa.length : Int) := of_decide_eq_true (by first | (with_reducible assumption) | assumption)
                  obtain ⟨aA, dv, bo, dw, aE, bh, bi⟩ := at_L2 (Kd.S_reads' ab.out).2.2 ac bC bD
                  cases dw
                  obtain ⟨eB, bQ, bR, bs⟩ := Kd.S_get ab.out [] ac bC (by first | exact bD | exact of_decide_eq_true (by first | (with_reducible assumption) | assumption) | (have e_ := (Kd.S_reads' ab.out).1; omega))
                  obtain ⟨cO, rfl, a2⟩ := bR
                  have aJ := bs 0 _ rfl
                  rw [Nat.add_zero, show ((Kd.slice 30 k30)).sz = 1 from rfl, Nat.mul_one] at aJ
                  replace aJ := Option.some.inj (aJ.symm.trans aE)
                  rw [aJ] at a2
                  have ae := zK (show Kd.R k30 30 _ _ _ _ (rd_L2 aa ac) from a2)
                  clear aJ a2; have aT := zK aE; clear bs bQ; have au := zK bi; have cP := zK bh; clear bi bh; replace bC := eq_true bC; replace bD := eq_true bD
                  have bE : 0 ≤ (ac : Int) := of_decide_eq_true (by first | (with_reducible assumption) | assumption)
                  have bF : ac < (aa.length : Int) := of_decide_eq_true (by first | (with_reducible assumption) | assumption)
                  obtain ⟨cg, dx, dy, dz, aG, bj, bk⟩ := at_L2 (Kd.S_reads' ab.out).2.2 ac bE bF
                  obtain rfl : aA = cg := (by injection dz)
                  obtain ⟨eC, bS, bT, bt⟩ := Kd.S_get ab.out [] ac bE (by first | exact bF | exact of_decide_eq_true (by first | (with_reducible assumption) | assumption) | (have e_ := (Kd.S_reads' ab.out).1; omega))
                  obtain ⟨cQ, rfl, a3⟩ := bT
                  have aK := bt 0 _ rfl
                  rw [Nat.add_zero, show ((Kd.slice 30 k30)).sz = 1 from rfl, Nat.mul_one] at aK
                  replace aK := Option.some.inj (aK.symm.trans aG)
                  rw [aK] at a3
                  have al := zK (show Kd.R k30 30 _ _ _ _ (rd_L2 aa ac) from a3)
                  clear aK a3; have aU := zK aG; clear bt bS; have av := zK bk; have cR := zK bj; clear bk bj; replace bE := eq_true bE; replace bF := eq_true bF
                  have ea_ := Option.some.inj (aE.symm.trans aG)
                  injection ea_ with ea_ en_ ec_
                  subst ea_; subst ec_; clear en_
                  have bU : 0 ≤ ((af) : Int) := of_decide_eq_true (by first | (with_reducible assumption) | assumption)
                  have bV : (af) < ((rd_L2 aa ac).length : Int) := of_decide_eq_true (by first | (with_reducible assumption) | assumption)
                  obtain ⟨a4, dA, bl, bm⟩ := at_T30 (by repeat (first | (with_reducible exact au.out) | (with_reducible refine Kd.C_alloc ?_ _) | (with_reducible refine Kd.C_drewN ?_ _) | (with_reducible refine Kd.C_drew ?_) | exact au.out)) (af) bU bV
                  cases dA
                  replace bU := eq_true bU; replace bV := eq_true bV
                  refine start_ (n := 16) (S := fun w' => w'.cell? ⟨ap, 0, none⟩ = some (.int .i64 aD) ∧ w'.cell? ⟨ap, 1, none⟩ = some (.slice (some aA) aa.length bb) ∧ w'.cell? (aA.add (ac).toNat) = some (.slice (some a4) (rd_L2 aa ac).length bo) ∧ w'.cell? (aA.add (ac).toNat) = some (.slice (some a4) (rd_L2 aa ac).length bo) ∧ w'.cell? (a4.add (((af)).toNat * 2)) = some (.int .i64 ((rd_T30 (rd_L2 aa ac) (af)).f0)) ∧ w'.cell? ⟨(a4.add (((af)).toNat * 2)).block, (a4.add (((af)).toNat * 2)).off + 1, none⟩ = some (.int .i64 ((rd_T30 (rd_L2 aa ac) (af)).f1))) (ds := []) #[ff, ff, ff, ff, ff, ff, ff, ff, ff, ff, ff, ff, ff, ff, ff, ff] (by kernel_rfl) rfl rfl ⟨(blk_cell ah.out 0).trans rfl, (blk_cell ah.out 1).trans rfl, aE, aG, bl, bm⟩ (fun hHeld => ?_); refine with_tabW impl_TakeBag.tab6 impl_TakeBag.bits6 (fun HT_ HW_ => ?_)
                  generalize wr.drew = w90 at aC ab ag ai ah HB ae al au av aT aU aE aG bl bm hHeld ⊢
                  refine pure_ (i := 0) (N := some 26) (v := ?_) (a' := ?_) #[tt, ff, ff, ff, ff, ff, ff, ff, ff, ff, ff, ff, ff, ff, ff, ff] rfl rfl (any_of HT_.out (by kernel_rfl)) (fun _ _ _ h => h) (Or.inl ⟨by rfl, ?_⟩) ?_ ?_
                  rotate_left
                  ·intro w'
                   go_simp
                   with_reducible rfl
                  rotate_left
                  ·simp only [Act.put, zp, zq, zr, i64_w, i32_w]
                   rfl
                  refine pure_ (i := 2) (N := some 28) (v := ?_) (a' := ?_) #[tt, ff, tt, ff, ff, ff, ff, ff, ff, ff, ff, ff, ff, ff, ff, ff] rfl rfl (any_of HT_.out (by kernel_rfl)) (fun _ _ _ h => h) (Or.inl ⟨by rfl, ?_⟩) ?_ ?_
                  rotate_left
                  ·intro w'
                   go_simp
                   with_reducible rfl
                  rotate_left
                  ·simp only [Act.put, zp, zq, zr, i64_w, i32_w]
                   rfl
                  refine pure_ (i := 5) (N := some 31) (v := ?_) (a' := ?_) #[tt, ff, tt, ff, ff, tt, ff, ff, ff, ff, ff, ff, ff, ff, ff, ff] rfl rfl (any_of HT_.out (by kernel_rfl)) (fun _ _ _ h => h) (Or.inl ⟨by rfl, ?_⟩) ?_ ?_
                  rotate_left
                  ·intro w'
                   go_simp
                   with_reducible rfl
                  rotate_left
                  ·simp only [Act.put, zp, zq, zr, i64_w, i32_w]
                   rfl
                  refine pure_ (i := 7) (N := some 33) (v := ?_) (a' := ?_) #[tt, ff, tt, ff, ff, tt, ff, tt, ff, ff, ff, ff, ff, ff, ff, ff] rfl rfl (any_of HT_.out (by kernel_rfl)) (fun _ _ _ h => h) (Or.inl ⟨by rfl, ?_⟩) ?_ ?_
                  rotate_left
                  ·intro w'
                   go_simp
                   with_reducible rfl
                  rotate_left
                  ·simp only [Act.put, zp, zq, zr, i64_w, i32_w]
                   rfl
                  refine take_ (i := 1) (N := some 27) (v := ?_) (a' := ?_) #[tt, tt, tt, ff, ff, tt, ff, tt, ff, ff, ff, ff, ff, ff, ff, ff] rfl rfl (take_ofW HT_.out HW_.out (by kernel_rfl)) (fun _ _ _ h => h) (Or.inl ⟨by rfl, ?_⟩) hHeld ?_ ?_
                  rotate_left
                  ·rintro w' ⟨s0, s1, s2, s3, s4, s5⟩
                   go_simp
                   with_reducible rfl
                  rotate_left
                  ·simp only [Act.put, zp, zq, zr, i64_w, i32_w]
                   rfl
                  refine pure_ (i := 3) (N := some 29) (v := ?_) (a' := ?_) #[tt, tt, tt, tt, ff, tt, ff, tt, ff, ff, ff, ff, ff, ff, ff, ff] rfl rfl (any_of HT_.out (by kernel_rfl)) (fun _ _ _ h => h) (Or.inl ⟨by rfl, ?_⟩) ?_ ?_
                  rotate_left
                  ·intro w'
                   go_simp
                   with_reducible rfl
                  rotate_left
                  ·simp only [Act.put, zp, zq, zr, i64_w, i32_w]
                   rfl
                  refine take_ (i := 4) (N := some 30) (v := ?_) (a' := ?_) #[tt, tt, tt, tt, tt, tt, ff, tt, ff, ff, ff, ff, ff, ff, ff, ff] rfl rfl (take_ofW HT_.out HW_.out (by kernel_rfl)) (fun _ _ _ h => h) (Or.inl ⟨by rfl, ?_⟩) hHeld ?_ ?_
                  rotate_left
                  ·rintro w' ⟨s0, s1, s2, s3, s4, s5⟩
                   go_simp
                   with_reducible rfl
                  rotate_left
                  ·simp only [Act.put, zp, zq, zr, i64_w, i32_w]
                   rfl
                  refine take_ (i := 6) (N := some 32) (v := ?_) (a' := ?_) #[tt, tt, tt, tt, tt, tt, tt, tt, ff, ff, ff, ff, ff, ff, ff, ff] rfl rfl (take_ofW HT_.out HW_.out (by kernel_rfl)) (fun _ _ _ h => h) (Or.inl ⟨by rfl, ?_⟩) hHeld ?_ ?_
                  rotate_left
                  ·rintro w' ⟨s0, s1, s2, s3, s4, s5⟩
                   go_simp
                   with_reducible rfl
                  rotate_left
                  ·simp only [Act.put, zp, zq, zr, i64_w, i32_w]
                   rfl
                  refine pure_ (i := 8) (N := some 34) (v := ?_) (a' := ?_) #[tt, tt, tt, tt, tt, tt, tt, tt, tt, ff, ff, ff, ff, ff, ff, ff] rfl rfl (any_of HT_.out (by kernel_rfl)) (fun _ _ _ h => h) (Or.inl ⟨by rfl, ?_⟩) ?_ ?_
                  rotate_left
                  ·intro w'
                   go_simp
                   with_reducible rfl
                  rotate_left
                  ·simp only [Act.put, zp, zq, zr, i64_w, i32_w]
                   rfl
                  refine take_ (i := 9) (N := some 35) (v := ?_) (a' := ?_) #[tt, tt, tt, tt, tt, tt, tt, tt, tt, tt, ff, ff, ff, ff, ff, ff] rfl rfl (take_ofW HT_.out HW_.out (by kernel_rfl)) (fun _ _ _ h => h) (Or.inl ⟨by rfl, ?_⟩) hHeld ?_ ?_
                  rotate_left
                  ·rintro w' ⟨s0, s1, s2, s3, s4, s5⟩
                   go_simp
                   with_reducible rfl
                  rotate_left
                  ·simp only [Act.put, zp, zq, zr, i64_w, i32_w]
                   rfl
                  refine pure_ (i := 10) (N := some 36) (v := ?_) (a' := ?_) #[tt, tt, tt, tt, tt, tt, tt, tt, tt, tt, tt, ff, ff, ff, ff, ff] rfl rfl (any_of HT_.out (by kernel_rfl)) (fun _ _ _ h => h) (Or.inl ⟨by rfl, ?_⟩) ?_ ?_
                  rotate_left
                  ·intro w'
                   go_simp
                   with_reducible rfl
                  rotate_left
                  ·simp only [Act.put, zp, zq, zr, i64_w, i32_w]
                   rfl
                  refine pure_ (i := 11) (N := some 37) (v := ?_) (a' := ?_) #[tt, tt, tt, tt, tt, tt, tt, tt, tt, tt, tt, tt, ff, ff, ff, ff] rfl rfl (any_of HT_.out (by kernel_rfl)) (fun _ _ _ h => h) (Or.inl ⟨by rfl, ?_⟩) ?_ ?_
                  rotate_left
                  ·intro w'
                   go_simp
                   with_reducible rfl
                  rotate_left
                  ·simp only [Act.put, zp, zq, zr, i64_w, i32_w]
                   rfl
                  refine pure_ (i := 12) (N := some 38) (v := ?_) (a' := ?_) #[tt, tt, tt, tt, tt, tt, tt, tt, tt, tt, tt, tt, tt, ff, ff, ff] rfl rfl (any_of HT_.out (by kernel_rfl)) (fun _ _ _ h => h) (Or.inl ⟨by rfl, ?_⟩) ?_ ?_
                  rotate_left
                  ·intro w'
                   go_simp
                   with_reducible rfl
                  rotate_left
                  ·simp only [Act.put, zp, zq, zr, i64_w, i32_w]
                   rfl
                  refine take_ (i := 13) (N := some 39) (v := ?_) (a' := ?_) #[tt, tt, tt, tt, tt, tt, tt, tt, tt, tt, tt, tt, tt, tt, ff, ff] rfl rfl (take_ofW HT_.out HW_.out (by kernel_rfl)) (fun _ _ _ h => h) (Or.inl ⟨by rfl, ?_⟩) hHeld ?_ ?_
                  rotate_left
                  ·rintro w' ⟨s0, s1, s2, s3, s4, s5⟩
                   go_simp
                   with_reducible rfl
                  rotate_left
                  ·simp only [Act.put, zp, zq, zr, i64_w, i32_w]
                   rfl
                  refine one_ (i := 14) (N := some 10) #[tt, tt, tt, tt, tt, tt, tt, tt, tt, tt, tt, tt, tt, tt, tt, ff] rfl rfl (one_of HT_.out (by kernel_rfl)) (by decide) (fun K hK => ?_)
                  refine box_step ?hg (N := 10) ?hd (cs := #[.int .i64 0, .int .i64 0]) (t := 30) ?hr ?_; (case hd => rfl); (case hg => rfl); (case hr => first | (go_simp; done) | (go_simp; rfl))
                  intro ad hg fr hbox hb
                  have dB := (hb.cell (World.block_lt_of_cell? _ _ (hHeld.2.2.1))).trans (hHeld.2.2.1)
                  have dC := (hb.cell (World.block_lt_of_cell? _ _ (hHeld.2.2.2.1))).trans (hHeld.2.2.2.1)
                  have ch := (hb.cell (World.block_lt_of_cell? _ _ (hHeld.2.2.2.2.1))).trans (hHeld.2.2.2.2.1)
                  have dD := (hb.cell (World.block_lt_of_cell? _ _ (hHeld.2.2.2.2.2))).trans (hHeld.2.2.2.2.2)
                  have aV := zK (Kd.R_below (by (with_reducible repeat (first | apply Kd.R_alloc | apply Kd.R_drewN | apply Kd.R_drew)); exact aC.out) hb)
                  have aW := zK (Kd.S_below (Kd.S_elderB (by (with_reducible repeat (first | apply Kd.S_alloc | apply Kd.S_drewN | apply Kd.S_drew)); exact ab.out) ad (Nat.le_of_eq hg.symm)) hb)
                  have aX := zK (Kd.R_below (Kd.R_elderB (by (with_reducible repeat (first | apply Kd.R_alloc | apply Kd.R_drewN | apply Kd.R_drew)); exact ae.out) ad (Nat.le_of_eq hg.symm)) hb)
                  have a0 := zK (Kd.R_below (Kd.R_elderB (by (with_reducible repeat (first | apply Kd.R_alloc | apply Kd.R_drewN | apply Kd.R_drew)); exact al.out) ad (Nat.le_of_eq hg.symm)) hb)
                  have a6 := zK (blk_below (g := ao) (o := .cells #[.int .i64 a0_0, .slice aH ar.length aI] 24 (0, 0)) (by (with_reducible repeat (first | refine zN ?_ _ | refine zD ?_ | refine zA ?_ _)); exact ag.out) hb)
                  have a7 := zK (blk_below (g := an) (o := .cells #[.int .i64 am, .slice none 0 0] 24 (0, 0)) (by (with_reducible repeat (first | refine zN ?_ _ | refine zD ?_ | refine zA ?_ _)); exact ai.out) hb)
                  have bg := zK (blk_below (g := ap) (o := .cells #[.int .i64 aD, .slice (some aA) aa.length bb] 24 (0, 0)) (by (with_reducible repeat (first | refine zN ?_ _ | refine zD ?_ | refine zA ?_ _)); exact ah.out) hb)
                  have br := zK (Kd.C_below (by repeat (first | (with_reducible exact au.out) | (with_reducible refine Kd.C_alloc ?_ _) | (with_reducible refine Kd.C_drewN ?_ _) | (with_reducible refine Kd.C_drew ?_) | exact au.out)) hb)
                  have bw := zK (pw_cell_below hb aT.out)
                  have bB := zK (Kd.C_below (by repeat (first | (with_reducible exact av.out) | (with_reducible refine Kd.C_alloc ?_ _) | (with_reducible refine Kd.C_drewN ?_ _) | (with_reducible refine Kd.C_drew ?_) | exact av.out)) hb)
                  have bp := zK (pw_cell_below hb aU.out)
                  have bW := zK (below_step (by repeat (first | (with_reducible first | exact HB.out | apply zB | apply zC | apply zE | refine zS ?_ aw.out | refine zS ?_ az.out | refine zS ?_ aR.out) | exact HB.out)) hb)
                  have ci := zK (hbox)
                  have cj := zK ((by rw [hg]; exact (below_size (by repeat (first | (with_reducible first | exact HB.out | apply zB | apply zC | apply zE | refine zS ?_ aw.out | refine zS ?_ az.out | refine zS ?_ aR.out) | exact HB.out))) : w.heap.size ≤ ad))
                  have ck := zK ((by rw [hg]; exact (below_size (by repeat (first | (with_reducible first | exact HB.out | apply zB | apply zC | apply zE | refine zS ?_ aw.out | refine zS ?_ az.out | refine zS ?_ aR.out) | exact HB.out))) : w.heap.size ≤ ad))
                  have cl := zK ((by rw [hg]; exact Nat.ne_of_lt (blk_lt (g := ao) (o := .cells #[.int .i64 a0_0, .slice aH ar.length aI] 24 (0, 0)) (by (with_reducible repeat (first | refine zN ?_ _ | refine zD ?_ | refine zA ?_ _)); exact ag.out)) : ao ≠ ad))
                  have cm := zK ((by rw [hg]; exact Nat.ne_of_gt (blk_lt (g := ao) (o := .cells #[.int .i64 a0_0, .slice aH ar.length aI] 24 (0, 0)) (by (with_reducible repeat (first | refine zN ?_ _ | refine zD ?_ | refine zA ?_ _)); exact ag.out)) : ad ≠ ao))
                  have cn := zK ((by rw [hg]; exact Nat.ne_of_lt (blk_lt (g := an) (o := .cells #[.int .i64 am, .slice none 0 0] 24 (0, 0)) (by (with_reducible repeat (first | refine zN ?_ _ | refine zD ?_ | refine zA ?_ _)); exact ai.out)) : an ≠ ad))
                  have co := zK ((by rw [hg]; exact Nat.ne_of_gt (blk_lt (g := an) (o := .cells #[.int .i64 am, .slice none 0 0] 24 (0, 0)) (by (with_reducible repeat (first | refine zN ?_ _ | refine zD ?_ | refine zA ?_ _)); exact ai.out)) : ad ≠ an))
                  have cp := zK ((by rw [hg]; exact Nat.ne_of_lt (blk_lt (g := ap) (o := .cells #[.int .i64 aD, .slice (some aA) aa.length bb] 24 (0, 0)) (by (with_reducible repeat (first | refine zN ?_ _ | refine zD ?_ | refine zA ?_ _)); exact ah.out)) : ap ≠ ad))
                  have cq := zK ((by rw [hg]; exact Nat.ne_of_gt (blk_lt (g := ap) (o := .cells #[.int .i64 aD, .slice (some aA) aa.length bb] 24 (0, 0)) (by (with_reducible repeat (first | refine zN ?_ _ | refine zD ?_ | refine zA ?_ _)); exact ah.out)) : ad ≠ ap))
                  clear aC ab ae al ag ai ah au aT av aU HB; have aC := aV; have ab := aW; have ae := aX; have al := a0; have ag := a6; have ai := a7; have ah := bg; have au := br; have aT := bw; have av := bB; have aU := bp; have HB := bW; have aj := ci; have eD := cj; have ba := ck; have ax := cl; have aM := cm; have ay := cn; have aN := co; have ak := cp; have aQ := cq; clear aV aW aX a0 a6 a7 bg br bw bB bp bW ci cj ck cl cm cn co cp cq hb hbox hg
                  refine hK.out _ _ ⟨(blk_cell ah.out 0).trans rfl, (blk_cell ah.out 1).trans rfl, dB, dC, ch, dD⟩ (fun hHeld => ?_)
                  clear hK K
                  refine norm_ (a' := ?_) ?_ ?_
                  rotate_left
                  ·show Act.put _ (some 10) _ = _
                   simp only [Act.put, zp, zq, zr, i64_w, i32_w]
                   rfl
                  refine one_ (i := 15) (N := none) #[tt, tt, tt, tt, tt, tt, tt, tt, tt, tt, tt, tt, tt, tt, tt, tt] rfl rfl (one_of HT_.out (by kernel_rfl)) (by decide) (fun K hK => ?_)
                  have hs93 : fr.cell? ⟨ad, 0, none⟩ = some (.int .i64 0) := (blk_cell aj.out 0).trans rfl
                  have hfs93 := blk_frozen aj.out 0; have hns93_0 := ax.out; have hns93_1 := ay.out; have hns93_2 := ak.out; have hms93_0 := aM.out; have hms93_1 := aN.out; have hms93_2 := aQ.out
                  have hs94 : fr.cell? ⟨ad, 1, none⟩ = some (.int .i64 0) := (blk_cell aj.out 1).trans rfl
                  have hfs94 := blk_frozen aj.out 1; have hns94_0 := ax.out; have hns94_1 := ay.out; have hns94_2 := ak.out; have hms94_0 := aM.out; have hms94_1 := aN.out; have hms94_2 := aQ.out
                  refine skip_ (w1 := ?_) (by rfl) rfl ?_ ?_
                  rotate_left
                  ·go_simp
                   rfl
                  refine hK.out _ _ ⟨((cell_far (p := ⟨ad, _, none⟩) ak.out _).trans (((cell_far (p := ⟨ad, _, none⟩) ak.out _).trans (hHeld.1)))), ((cell_far (p := ⟨ad, _, none⟩) ak.out _).trans (((cell_far (p := ⟨ad, _, none⟩) ak.out _).trans (hHeld.2.1)))), ((cell_far (p := ⟨ad, _, none⟩) (by first | exact Kd.own_blk (Kd.S_away ab.out (fun _ hk => hk.2)) | (rw [add_block]; exact Kd.own_blk (Kd.S_away ab.out (fun _ hk => hk.2))) | (show (Addr.add _ _).block ≠ _; rw [add_block]; exact Kd.own_blk (Kd.S_away ab.out (fun _ hk => hk.2))) | (dsimp only; exact Kd.own_blk (Kd.S_away ab.out (fun _ hk => hk.2)))) _).trans (((cell_far (p := ⟨ad, _, none⟩) (by first | exact Kd.own_blk (Kd.S_away ab.out (fun _ hk => hk.2)) | (rw [add_block]; exact Kd.own_blk (Kd.S_away ab.out (fun _ hk => hk.2))) | (show (Addr.add _ _).block ≠ _; rw [add_block]; exact Kd.own_blk (Kd.S_away ab.out (fun _ hk => hk.2))) | (dsimp only; exact Kd.own_blk (Kd.S_away ab.out (fun _ hk => hk.2)))) _).trans (hHeld.2.2.1)))), ((cell_far (p := ⟨ad, _, none⟩) (by first | exact Kd.own_blk (Kd.S_away ab.out (fun _ hk => hk.2)) | (rw [add_block]; exact Kd.own_blk (Kd.S_away ab.out (fun _ hk => hk.2))) | (show (Addr.add _ _).block ≠ _; rw [add_block]; exact Kd.own_blk (Kd.S_away ab.out (fun _ hk => hk.2))) | (dsimp only; exact Kd.own_blk (Kd.S_away ab.out (fun _ hk => hk.2)))) _).trans (((cell_far (p := ⟨ad, _, none⟩) (by first | exact Kd.own_blk (Kd.S_away ab.out (fun _ hk => hk.2)) | (rw [add_block]; exact Kd.own_blk (Kd.S_away ab.out (fun _ hk => hk.2))) | (show (Addr.add _ _).block ≠ _; rw [add_block]; exact Kd.own_blk (Kd.S_away ab.out (fun _ hk => hk.2))) | (dsimp only; exact Kd.own_blk (Kd.S_away ab.out (fun _ hk => hk.2)))) _).trans (hHeld.2.2.2.1)))), ((cell_far (p := ⟨ad, _, none⟩) (by first | exact Kd.own_blk (Kd.R_away ae.out (fun _ hk => hk.2)) | (rw [add_block]; exact Kd.own_blk (Kd.R_away ae.out (fun _ hk => hk.2))) | (show (Addr.add _ _).block ≠ _; rw [add_block]; exact Kd.own_blk (Kd.R_away ae.out (fun _ hk => hk.2))) | (dsimp only; exact Kd.own_blk (Kd.R_away ae.out (fun _ hk => hk.2)))) _).trans (((cell_far (p := ⟨ad, _, none⟩) (by first | exact Kd.own_blk (Kd.R_away ae.out (fun _ hk => hk.2)) | (rw [add_block]; exact Kd.own_blk (Kd.R_away ae.out (fun _ hk => hk.2))) | (show (Addr.add _ _).block ≠ _; rw [add_block]; exact Kd.own_blk (Kd.R_away ae.out (fun _ hk => hk.2))) | (dsimp only; exact Kd.own_blk (Kd.R_away ae.out (fun _ hk => hk.2)))) _).trans (hHeld.2.2.2.2.1)))), ((cell_far (p := ⟨ad, _, none⟩) (by first | exact Kd.own_blk (Kd.R_away ae.out (fun _ hk => hk.2)) | (rw [add_block]; exact Kd.own_blk (Kd.R_away ae.out (fun _ hk => hk.2))) | (show (Addr.add _ _).block ≠ _; rw [add_block]; exact Kd.own_blk (Kd.R_away ae.out (fun _ hk => hk.2))) | (dsimp only; exact Kd.own_blk (Kd.R_away ae.out (fun _ hk => hk.2)))) _).trans (((cell_far (p := ⟨ad, _, none⟩) (by first | exact Kd.own_blk (Kd.R_away ae.out (fun _ hk => hk.2)) | (rw [add_block]; exact Kd.own_blk (Kd.R_away ae.out (fun _ hk => hk.2))) | (show (Addr.add _ _).block ≠ _; rw [add_block]; exact Kd.own_blk (Kd.R_away ae.out (fun _ hk => hk.2))) | (dsimp only; exact Kd.own_blk (Kd.R_away ae.out (fun _ hk => hk.2)))) _).trans (hHeld.2.2.2.2.2))))⟩ (fun hHeld => ?_)
                  clear hK K
                  refine done_ (done_of HT_.out (by kernel_rfl)) ?_
                  have hnb95 := aM.out; have hnc95 := ax.out; have hnb96 := aN.out; have hnc96 := ay.out; have hnb97 := aQ.out; have hnc97 := ak.out
                  have hcz98_0 : fr.cell? ⟨ad, 0, none⟩ = some (.int .i64 0) := (blk_cell aj.out 0).trans rfl
                  have hcz98_1 : fr.cell? ⟨ad, 1, none⟩ = some (.int .i64 0) := (blk_cell aj.out 1).trans rfl
                  have hfz98_0 := blk_frozen aj.out 0; have hfz98_1 := blk_frozen aj.out 1; have hnb99 := bu.out; have hnc99 := bd.out; have hnb100 := bv.out; have hnc100 := be.out
                  have f7 : fr.cell? ⟨ap, 0, none⟩ = some (.int .i64 aD) := (blk_cell ah.out 0).trans rfl
                  have f8 : fr.cell? ⟨ap, 1, none⟩ = some (.slice (some aA) aa.length bb) := (blk_cell ah.out 1).trans rfl
                  have f9 := blk_frozen ah.out 0; have ga := blk_frozen ah.out 1
                  try go_wp2_with (first | ((with_reducible refine gate_callee (f := 62) rfl ?_); refine goesL_ (some 52) rfl rfl Try.func62 (by kernel_rfl) rfl #[.agg #[.int .i64 aD, .slice (some aA) aa.length bb], .int .i64 ((rd_T30 (rd_L2 aa ac) (af)).f1), .int .i64 ac] rfl (by (try simp only [List.map_toArray, List.map_cons, List.map_nil]); first | done | (simp only [bP]; rfl) | rfl | (simp only [List.length_drop, List.length_take]; rfl)) ?_; (with_reducible refine (impl_laneFor.calls k2 aD _ _ aa ((rd_T30 (rd_L2 aa ac) (af)).f1) ac aq _ ?side1 ?side2 A61.out).mono ?_); (case side1 => refine (Kd.S_reads' (e := 28) (base := w.heap.size) (ok := fun k_ => (True ∧ k_ ≠ ad)) (n := aa.length) (c := bb) ?_).2.2; exact (by (with_reducible repeat (first | apply Kd.S_alloc | apply Kd.S_drewN | apply Kd.S_drew)); exact (Kd.S_mono (Kd.S_far (p := ⟨ad, 1, none⟩) (Kd.S_far (p := ⟨ad, 0, none⟩) (Kd.S_mono ab.out (fun k_ hk => (⟨hk, hk.2⟩ : _ ∧ k_ ≠ ad))) (fun _ hk => hk.2) (.int .i64 ((rd_T30 (rd_L2 aa ac) (af)).f0))) (fun _ hk => hk.2) (.int .i64 ((rd_T30 (rd_L2 aa ac) (af)).f1))) (fun _ h_ => h_.1)))); (case side2 => exact (Kd.S_reads' ab.out).2.1); rintro e dI ⟨rfl, hb⟩; refine ⟨_, rfl, ?_⟩; have aV := zK (Kd.R_below (by (with_reducible repeat (first | apply Kd.R_alloc | apply Kd.R_drewN | apply Kd.R_drew)); exact (Kd.R_mono (Kd.R_far (p := ⟨ad, 1, none⟩) (Kd.R_far (p := ⟨ad, 0, none⟩) (Kd.R_types aC.out aj.out (by decide)) (fun _ hk => hk.2) (.int .i64 ((rd_T30 (rd_L2 aa ac) (af)).f0))) (fun _ hk => hk.2) (.int .i64 ((rd_T30 (rd_L2 aa ac) (af)).f1))) (fun _ h_ => h_.1))) hb); have aW := zK (Kd.S_below (by (with_reducible repeat (first | apply Kd.S_alloc | apply Kd.S_drewN | apply Kd.S_drew)); exact (Kd.S_mono (Kd.S_far (p := ⟨ad, 1, none⟩) (Kd.S_far (p := ⟨ad, 0, none⟩) (Kd.S_mono ab.out (fun k_ hk => (⟨hk, hk.2⟩ : _ ∧ k_ ≠ ad))) (fun _ hk => hk.2) (.int .i64 ((rd_T30 (rd_L2 aa ac) (af)).f0))) (fun _ hk => hk.2) (.int .i64 ((rd_T30 (rd_L2 aa ac) (af)).f1))) (fun _ h_ => h_.1))) hb); have aX := zK (Kd.R_below (by (with_reducible repeat (first | apply Kd.R_alloc | apply Kd.R_drewN | apply Kd.R_drew)); exact (Kd.R_mono (Kd.R_far (p := ⟨ad, 1, none⟩) (Kd.R_far (p := ⟨ad, 0, none⟩) (Kd.R_mono ae.out (fun k_ hk => (⟨hk, hk.2⟩ : _ ∧ k_ ≠ ad))) (fun _ hk => hk.2) (.int .i64 ((rd_T30 (rd_L2 aa ac) (af)).f0))) (fun _ hk => hk.2) (.int .i64 ((rd_T30 (rd_L2 aa ac) (af)).f1))) (fun _ h_ => h_.1))) hb); have a0 := zK (Kd.R_below (by (with_reducible repeat (first | apply Kd.R_alloc | apply Kd.R_drewN | apply Kd.R_drew)); exact (Kd.R_mono (Kd.R_far (p := ⟨ad, 1, none⟩) (Kd.R_far (p := ⟨ad, 0, none⟩) (Kd.R_mono al.out (fun k_ hk => (⟨hk, hk.2⟩ : _ ∧ k_ ≠ ad))) (fun _ hk => hk.2) (.int .i64 ((rd_T30 (rd_L2 aa ac) (af)).f0))) (fun _ hk => hk.2) (.int .i64 ((rd_T30 (rd_L2 aa ac) (af)).f1))) (fun _ h_ => h_.1))) hb); have a6 := zK (blk_below (g := ao) (o := .cells #[.int .i64 a0_0, .slice aH ar.length aI] 24 (0, 0)) (by (with_reducible repeat (first | refine zN ?_ _ | refine zD ?_ | refine zA ?_ _)); refine blk_far ?_ ax.out _; (with_reducible repeat (first | refine zN ?_ _ | refine zD ?_ | refine zA ?_ _)); refine blk_far ?_ ax.out _; (with_reducible repeat (first | refine zN ?_ _ | refine zD ?_ | refine zA ?_ _)); exact ag.out) hb); have a7 := zK (blk_below (g := an) (o := .cells #[.int .i64 am, .slice none 0 0] 24 (0, 0)) (by (with_reducible repeat (first | refine zN ?_ _ | refine zD ?_ | refine zA ?_ _)); refine blk_far ?_ ay.out _; (with_reducible repeat (first | refine zN ?_ _ | refine zD ?_ | refine zA ?_ _)); refine blk_far ?_ ay.out _; (with_reducible repeat (first | refine zN ?_ _ | refine zD ?_ | refine zA ?_ _)); exact ai.out) hb); have bg := zK (blk_below (g := ap) (o := .cells #[.int .i64 aD, .slice (some aA) aa.length bb] 24 (0, 0)) (by (with_reducible repeat (first | refine zN ?_ _ | refine zD ?_ | refine zA ?_ _)); refine blk_far ?_ ak.out _; (with_reducible repeat (first | refine zN ?_ _ | refine zD ?_ | refine zA ?_ _)); refine blk_far ?_ ak.out _; (with_reducible repeat (first | refine zN ?_ _ | refine zD ?_ | refine zA ?_ _)); exact ah.out) hb); have br := zK (Kd.C_below ((Kd.R_reads' (by (with_reducible repeat (first | apply Kd.R_alloc | apply Kd.R_drewN | apply Kd.R_drew)); exact (Kd.R_mono (Kd.R_far (p := ⟨ad, 1, none⟩) (Kd.R_far (p := ⟨ad, 0, none⟩) (Kd.R_mono ae.out (fun k_ hk => (⟨hk, hk.2⟩ : _ ∧ k_ ≠ ad))) (fun _ hk => hk.2) (.int .i64 ((rd_T30 (rd_L2 aa ac) (af)).f0))) (fun _ hk => hk.2) (.int .i64 ((rd_T30 (rd_L2 aa ac) (af)).f1))) (fun _ h_ => h_.1)))).2.2) hb); have bw := zK (Kd.C_below ((Kd.R_reads' (by (with_reducible repeat (first | apply Kd.R_alloc | apply Kd.R_drewN | apply Kd.R_drew)); exact (Kd.R_mono (Kd.R_far (p := ⟨ad, 1, none⟩) (Kd.R_far (p := ⟨ad, 0, none⟩) (Kd.R_mono al.out (fun k_ hk => (⟨hk, hk.2⟩ : _ ∧ k_ ≠ ad))) (fun _ hk => hk.2) (.int .i64 ((rd_T30 (rd_L2 aa ac) (af)).f0))) (fun _ hk => hk.2) (.int .i64 ((rd_T30 (rd_L2 aa ac) (af)).f1))) (fun _ h_ => h_.1)))).2.2) hb); have bB := zK (blk_below (g := ad) (o := .cells #[.int .i64 ((rd_T30 (rd_L2 aa ac) (af)).f0), .int .i64 ((rd_T30 (rd_L2 aa ac) (af)).f1)] 30 (0, 0)) (by (with_reducible repeat (first | refine zN ?_ _ | refine zD ?_ | refine zA ?_ _)); refine blk_put (cs := #[.int .i64 ((rd_T30 (rd_L2 aa ac) (af)).f0), .int .i64 0]) ?_ 1 _ rfl; (with_reducible repeat (first | refine zN ?_ _ | refine zD ?_ | refine zA ?_ _)); refine blk_put (cs := #[.int .i64 0, .int .i64 0]) ?_ 0 _ rfl; (with_reducible repeat (first | refine zN ?_ _ | refine zD ?_ | refine zA ?_ _)); exact aj.out) hb); have bp := zK (below_step (by repeat (first | (with_reducible first | exact HB.out | apply zB | apply zC | apply zE | refine zS ?_ aw.out | refine zS ?_ az.out | refine zS ?_ aR.out | refine zS ?_ ba.out) | exact HB.out)) hb); clear aC; clear ab; clear ae; clear al; clear ag; clear ai; clear ah; clear au; clear av; clear aj; clear HB; have aC := aV; have ab := aW; have ae := aX; have al := a0; have ag := a6; have ai := a7; have ah := bg; have au := br; have av := bw; have aj := bB; have HB := bp; clear aV aW aX a0 a6 a7 bg br bw bB bp; (try clear hb); (try clear hk); have gb : dI.cell? ⟨ap, 0, none⟩ = some (.int .i64 aD) := (blk_cell ah.out 0).trans rfl; have gc : dI.cell? ⟨ap, 1, none⟩ = some (.slice (some aA) aa.length bb) := (blk_cell ah.out 1).trans rfl; have ge := blk_frozen ah.out 0; have gf := blk_frozen ah.out 1; have em : 0 ≤ (ac : Int) := of_decide_eq_true (by first | (with_reducible assumption) | assumption); have en : ac < (aa.length : Int) := of_decide_eq_true (by first | (with_reducible assumption) | assumption); obtain ⟨gg, A748_0, bM, e748, b6, cZ, c0⟩ := at_L2 (Kd.S_reads' ab.out).2.2 ac em en; obtain rfl : aA = gg := (by injection e748); obtain ⟨ce748, e8, e9, dJ⟩ := Kd.S_get ab.out [] ac em (by first | exact en | exact of_decide_eq_true (by first | (with_reducible assumption) | assumption) | (have e_ := (Kd.S_reads' ab.out).1; omega)); obtain ⟨ve748_0, rfl, b7⟩ := e9; have bH := dJ 0 _ rfl; rw [Nat.add_zero, show ((Kd.slice 30 k30)).sz = 1 from rfl, Nat.mul_one] at bH; replace bH := Option.some.inj (bH.symm.trans b6); rw [bH] at b7; have bn := zK (show Kd.R k30 30 _ _ _ _ (rd_L2 aa ac) from b7); clear bH b7; have eo := zK b6; clear dJ e8; have bO := zK c0; have da := zK cZ; clear c0 cZ; replace em := eq_true em; replace en := eq_true en; have fa : 0 ≤ ((af) : Int) := of_decide_eq_true (by first | (with_reducible assumption) | assumption); have fb : (af) < ((rd_L2 aa ac).length : Int) := of_decide_eq_true (by first | (with_reducible assumption) | assumption); obtain ⟨db, e749, dc, dd⟩ := at_T30 (by repeat (first | (with_reducible exact bO.out) | (with_reducible refine Kd.C_alloc ?_ _) | (with_reducible refine Kd.C_drewN ?_ _) | (with_reducible refine Kd.C_drew ?_) | exact bO.out)) (af) fa fb; cases e749; replace fa := eq_true fa; replace fb := eq_true fb; have ep : ((af) : Int) ≤ (((rd_L2 aa ac).length : Int) : Int) := of_decide_eq_true (by first | (with_reducible assumption) | assumption); obtain ⟨i0104, dK, _, fc, _⟩ := info_parts info30; have cx : (rd_L2 aa ac).length ≤ bM := da.out; have eJ : Kd.C k30 _ (some db) (rd_L2 aa ac).length (rd_L2 aa ac) := (by repeat (first | (with_reducible exact bO.out) | (with_reducible refine Kd.C_alloc ?_ _) | (with_reducible refine Kd.C_drewN ?_ _) | (with_reducible refine Kd.C_drew ?_) | exact bO.out)); have er := cut_to (P := Try.prog) 28 30 .i64 Try.underlying28 dK (some db) (rd_L2 aa ac).length bM (af) (of_decide_eq_true (by first | (with_reducible assumption) | assumption)) ep cx; have dL := Kd.C_take (m := ((af) : Int).toNat) eJ (by omega); have dM : b5.length = ((af) : Int).toNat := (by rw [Ny750.out, List.length_take]; omega); rw [← Ny750.out] at dL; rw [← dM] at er; have HR753 := zK dL; have HC753 := zK (show b5.length ≤ bM from by omega); clear dL eJ cx dK fc; have eK := zK dM; clear dM; replace ep := eq_true ep; have p83 : 0 ≤ (ac : Int) := of_decide_eq_true (by first | (with_reducible assumption) | assumption); have q83 : (ac : Int) < ((aa.length : Int) : Int) := of_decide_eq_true (by first | (with_reducible assumption) | assumption); obtain ⟨aY, co83, gh, gi, gl83, cl83, gj⟩ := Kd.S_form ab.out (by omega); (first | cases gh | (injection gh with ea_ en_ ec_; (first | subst ea_ | (injection ea_ with ea_; subst ea_)); subst ec_; clear en_)); have gl := zK gi; have GG83 := zK gj; clear gi gl83 gj; (first | simp only [add_plain] at aE | skip); (first | simp only [add_plain] at aG | skip); (first | simp only [add_plain] at b6 | skip); obtain ⟨_, ce83, gm, gn, eL, eM, _, _⟩ := Kd.S_elem ab.out [] (ac : Int) p83 q83; obtain ⟨ve83_0, rfl, ge83_0⟩ := gn; have fd := eL 0 _ rfl; have fe := eM 0; (try simp only [show ((Kd.slice 30 k30)).sz = 1 from rfl, Nat.mul_one, Nat.add_zero] at fd); (try simp only [show ((Kd.slice 30 k30)).sz = 1 from rfl, Nat.mul_one, Nat.add_zero] at fe); clear gm eL eM; (try clear gn); replace p83 := eq_true p83; replace q83 := eq_true q83; have n_ := zK (Kd.S_mono (ok' := (fun k_ => k_ ≠ ad)) ab.out (fun k_ hk => hk.2)); clear ab; have ab := n_; clear n_; have gp := zK (show Kd.S (Kd.slice 30 k30) 28 dI w.heap.size (fun k_ => ((fun k_ => k_ ≠ ad)) k_ ∧ ¬ ((fun _ => False)) k_) (.slice (some ⟨aY, 0, none⟩) aa.length bb) aa from (by (with_reducible repeat (first | apply Kd.S_alloc | apply Kd.S_drewN | apply Kd.S_drew)); exact Kd.S_mono ab.out (fun k_ hk => ⟨hk, fun e_ => e_⟩))); obtain ⟨fg, ce105, fh, eN, cE, dN, es, eO⟩ := Kd.S_elem gp.out [] (ac : Int) (of_decide_eq_true (by first | (with_reducible assumption) | assumption)) (by have h_ : (ac : Int) < ((aa.length : Int) : Int) := of_decide_eq_true (by first | (with_reducible assumption) | assumption); first | exact h_ | (have e_ := (Kd.S_reads' ab.out).1; omega) | simpa using h_); obtain ⟨ve105_0, rfl, et⟩ := eN; have cy := cE 0 _ rfl; have dO := eo.out; (try simp only [add_plain] at dO); (try simp only [Nat.add_zero] at cy); (try rw [show ((Kd.slice 30 k30)).sz = 1 from rfl, Nat.mul_one] at cy); replace cy := Option.some.inj (cy.symm.trans dO); subst cy; clear dO; have eu := zK (show Kd.R k30 30 dI w.heap.size fg (.slice (some db) b5.length bM) b5 from by rw [eK.out, Ny750.out]; exact Kd.R_take et (by have h_ := of_eq_true ep; omega)); have dP := Kd.S_seg eO (of_decide_eq_true (by first | (with_reducible assumption) | assumption)) (by have h_ : (ac : Int) < ((aa.length : Int) : Int) := of_decide_eq_true (by first | (with_reducible assumption) | assumption); first | exact h_ | (have e_ := (Kd.S_reads' ab.out).1; omega) | simpa using h_) (seg := [.slice (some db) b5.length bM]) (j := 0) (show 1 ≤ 1 from by decide) (x' := b5) (Kd.M_row (Kd.R_mono eu.out (fun _ h_ => Or.inl h_))) (fun _ hk => hk) (fun k_ hk_ => hk_.elim); have b8 := cE 0 _ rfl; (try simp only [show ((Kd.slice 30 k30)).sz = 1 from rfl, Nat.mul_one, Nat.add_zero] at b8); have b9 := dN 0; (try simp only [show ((Kd.slice 30 k30)).sz = 1 from rfl, Nat.mul_one, Nat.add_zero] at b9); clear fh cE dN es eO; (try clear eN); (try simp only [show ((Kd.slice 30 k30)).sz = 1 from rfl, Nat.mul_one, Nat.add_zero] at dP)) | (go_at_call 75; refine (pop_calls (b := ap) (deep := aD) (g := aY) (n := aa.length) (cap := bb) (lane := ac) (H := (af)) (k := ((rd_L2 aa ac).length)) (c := bM) (m := b5.length) _ (by (with_reducible repeat (first | refine zN ?_ _ | refine zD ?_ | refine zA ?_ _)); exact ah.out) (of_decide_eq_true (by first | (with_reducible assumption) | assumption)) (of_decide_eq_true (by first | (with_reducible assumption) | assumption)) (by first | exact b8 | simpa using b8) (by first | exact b9 | simpa using b9) (by first | rfl | assumption | exact Eq.symm (by assumption)) (of_decide_eq_true (by first | (with_reducible assumption) | assumption)) (of_decide_eq_true (by first | (with_reducible assumption) | assumption)) da.out (by first | exact dc | simpa using dc) (by first | exact dd | simpa using dd) eK.out).mono ?_; rintro e fi ⟨rfl, hg0_, cD⟩; have hg : dI.grownBy fi (some aY) := hg0_; have hp_ : Kd.S (Kd.slice 30 k30) 28 fi w.heap.size (fun k_ => k_ ≠ ad) (.slice (some ⟨aY, 0, none⟩) aa.length bb) a5 := (by rw [Ny754.out]; exact Opens.pop_S dP.1 cD); have hw := cD; clear cD hg0_; clear dP; have aV := zK (Kd.R_over' (v := (.slice (some ⟨aY, 0, none⟩) aa.length bb)) (by (with_reducible repeat (first | apply Kd.R_alloc | apply Kd.R_drewN | apply Kd.R_drew)); exact aC.out) (Kd.S_typed ab.out) (by decide) hg); have aW := zK (hp_); have aX := zK (blk_grown (g := ao) (o := .cells #[.int .i64 a0_0, .slice aH ar.length aI] 24 (0, 0)) (by (with_reducible repeat (first | refine zN ?_ _ | refine zD ?_ | refine zA ?_ _)); exact ag.out) hg (Kd.S_ne ab.out ag.out (by decide))); have a0 := zK (blk_grown (g := an) (o := .cells #[.int .i64 am, .slice none 0 0] 24 (0, 0)) (by (with_reducible repeat (first | refine zN ?_ _ | refine zD ?_ | refine zA ?_ _)); exact ai.out) hg (Kd.S_ne ab.out ai.out (by decide))); have a6 := zK (blk_grown (g := ap) (o := .cells #[.int .i64 aD, .slice (some ⟨aY, 0, none⟩) aa.length bb] 24 (0, 0)) (by (with_reducible repeat (first | refine zN ?_ _ | refine zD ?_ | refine zA ?_ _)); exact ah.out) hg (Kd.S_ne ab.out ah.out (by decide))); have a7 := zK (Kd.R_after (v := (.slice (some ⟨aY, 0, none⟩) aa.length bb)) (v1 := (.slice (some ⟨aY, 0, none⟩) aa.length bb)) (ok := (fun k_ => k_ ≠ ad)) (by (with_reducible repeat (first | apply Kd.R_alloc | apply Kd.R_drewN | apply Kd.R_drew)); exact Kd.R_mono ae.out (fun _ hk => ⟨hk.2, hk.1.2⟩)) hg (.inl rfl)); have bg := zK (Kd.R_after (v := (.slice (some ⟨aY, 0, none⟩) aa.length bb)) (v1 := (.slice (some ⟨aY, 0, none⟩) aa.length bb)) (ok := (fun k_ => k_ ≠ ad)) (by (with_reducible repeat (first | apply Kd.R_alloc | apply Kd.R_drewN | apply Kd.R_drew)); exact Kd.R_mono al.out (fun _ hk => ⟨hk.2, hk.1.2⟩)) hg (.inl rfl)); have br := zK (blk_grown (g := ad) (o := .cells #[.int .i64 ((rd_T30 (rd_L2 aa ac) (af)).f0), .int .i64 ((rd_T30 (rd_L2 aa ac) (af)).f1)] 30 (0, 0)) (by (with_reducible repeat (first | refine zN ?_ _ | refine zD ?_ | refine zA ?_ _)); exact aj.out) hg (Kd.S_ne ab.out aj.out (by decide))); have bw := zK (Kd.R_after (v := (.slice (some ⟨aY, 0, none⟩) aa.length bb)) (v1 := (.slice (some ⟨aY, 0, none⟩) aa.length bb)) (ok := (fun k_ => k_ ≠ ad)) (by (with_reducible repeat (first | apply Kd.R_alloc | apply Kd.R_drewN | apply Kd.R_drew)); exact Kd.R_mono bn.out (fun _ hk => ⟨hk.1.2, hk.2⟩)) hg (.inl rfl)); have bB := zK ((Opens.below_of_grown (by repeat (first | (with_reducible first | exact HB.out | apply zB | apply zC | apply zE | refine zS ?_ aw.out | refine zS ?_ az.out | refine zS ?_ aR.out | refine zS ?_ ba.out) | exact HB.out)) hg gl.out)); clear aC; clear ab; clear ag; clear ai; clear ah; clear ae; clear al; clear aj; clear bn; clear HB; have aC := aV; have ab := aW; have ag := aX; have ai := a0; have ah := a6; have ae := a7; have al := bg; have aj := br; have bn := bw; have HB := bB; clear aV aW aX a0 a6 a7 bg br bw bB; clear hg hw hp_))
                  have aV := zK (Kd.R_drew aC.out)
                  have aW := zK (Kd.S_drew ab.out)
                  have aX := zK (Kd.R_drew ae.out)
                  have a0 := zK (Kd.R_drew al.out)
                  have a6 := zK (Kd.R_drew bn.out)
                  have a7 := zK (zD ag.out)
                  have bg := zK (zD ai.out)
                  have br := zK (zD ah.out)
                  have bw := zK (zD aj.out)
                  have bB := zK (zE HB.out)
                  clear aC ab ae al bn ag ai ah aj HB; have aC := aV; have ab := aW; have ae := aX; have al := a0; have bn := a6; have ag := a7; have ai := bg; have ah := br; have aj := bw; have HB := bB; clear aV aW aX a0 a6 a7 bg br bw bB
                  have ew : 0 ≤ (aq : Int) := of_decide_eq_true (by first | (with_reducible assumption) | assumption)
                  have ex : aq < (a5.length : Int) := (by have h_ : (aq : Int) < ((aa.length : Int) : Int) := of_decide_eq_true (by first | (with_reducible assumption) | assumption); first | (have e_ := (Kd.S_reads' ab.out).1; omega) | simpa only [Ny754.out, List.length_set] using h_)
                  have ql755 : ((aq : Int) < ((aa.length : Int) : Int)) = True := eq_true (of_decide_eq_true (by first | (with_reducible assumption) | assumption))
                  obtain ⟨gq, ca, cb, e755, bq, de, df⟩ := at_L2 (Kd.S_reads' ab.out).2.2 aq ew ex
                  obtain rfl : (⟨aY, 0, none⟩ : Addr) = gq := (by injection e755)
                  obtain ⟨ce755, fj, fk, dQ⟩ := Kd.S_get ab.out [] aq ew (by first | exact ex | exact of_decide_eq_true (by first | (with_reducible assumption) | assumption) | (have e_ := (Kd.S_reads' ab.out).1; omega))
                  obtain ⟨ve755_0, rfl, cc⟩ := fk
                  have bI := dQ 0 _ rfl
                  rw [Nat.add_zero, show ((Kd.slice 30 k30)).sz = 1 from rfl, Nat.mul_one] at bI
                  replace bI := Option.some.inj (bI.symm.trans bq)
                  rw [bI] at cc
                  have aZ := zK (show Kd.R k30 30 _ _ _ _ (rd_L2 a5 aq) from cc)
                  clear bI cc; have dg := zK bq; clear dQ fj
                  (first | simp only [add_plain] at bq | simp only [add_at] at bq | simp only [Addr.add, Nat.zero_add] at bq | skip)
                  have ey := zK df; have HC755_0 := zK de; clear df de; replace ew := eq_true ew; replace ex := eq_true ex
                  obtain ⟨dR, ce108, fl, gr, dS, _, _, eP⟩ := Kd.S_elem ab.out [] (aq : Int) (of_decide_eq_true (by first | (with_reducible assumption) | assumption)) (by have h_ : (aq : Int) < ((aa.length : Int) : Int) := of_decide_eq_true (by first | (with_reducible assumption) | assumption); first | exact h_ | (have e_ := (Kd.S_reads' ab.out).1; omega) | simpa using h_)
                  obtain ⟨ve108_0, rfl, dh⟩ := gr
                  have cz := dS 0 _ rfl; have dT := dg.out; (try simp only [add_plain] at dT); (try simp only [Nat.add_zero] at cz); (try rw [show ((Kd.slice 30 k30)).sz = 1 from rfl, Nat.mul_one] at cz)
                  replace cz := Option.some.inj (cz.symm.trans dT)
                  subst cz; clear dT dS fl
                  have di := zK (show Kd.R k30 30 _ w.heap.size dR (.slice ca (rd_L2 a5 aq).length cb) (rd_L2 a5 aq) from dh)
                  have bX := zK eP
                  have dU := zK (Kd.S_reads' ab.out).1
                  clear eP dh
                  refine start_ (n := 13) (S := fun w' => w'.cell? ⟨ap, 0, none⟩ = some (.int .i64 aD) ∧ w'.cell? ⟨ap, 1, none⟩ = some (.slice (some ⟨aY, 0, none⟩) aa.length bb) ∧ w'.cell? ⟨ad, 0, none⟩ = some (.int .i64 ((rd_T30 (rd_L2 aa ac) (af)).f0)) ∧ w'.cell? ⟨ad, 1, none⟩ = some (.int .i64 ((rd_T30 (rd_L2 aa ac) (af)).f1)) ∧ w'.cell? ⟨aY, (aq).toNat, none⟩ = some (.slice ca (rd_L2 a5 aq).length cb)) (ds := [12]) #[ff, ff, ff, ff, ff, ff, ff, ff, ff, ff, ff, ff, ff] (by kernel_rfl) rfl rfl ⟨(blk_cell ah.out 0).trans rfl, (blk_cell ah.out 1).trans rfl, (blk_cell aj.out 0).trans rfl, (blk_cell aj.out 1).trans rfl, bq⟩ (fun hHeld => ?_); refine with_tabW impl_TakeBag.tab14 impl_TakeBag.bits14 (fun HT_ HW_ => ?_)
                  generalize fi.drew = w107 at aC ab ae al bn ag ai ah aj HB bX aZ ey dg di bq hHeld ⊢
                  refine pure_ (i := 0) (N := some 59) (v := ?_) (a' := ?_) #[tt, ff, ff, ff, ff, ff, ff, ff, ff, ff, ff, ff, ff] rfl rfl (any_of HT_.out (by kernel_rfl)) (fun _ _ _ h => h) (Or.inl ⟨by rfl, ?_⟩) ?_ ?_
                  rotate_left
                  ·intro w'
                   go_simp
                   with_reducible rfl
                  rotate_left
                  ·simp only [Act.put, zp, zq, zr, i64_w, i32_w]
                   rfl
                  refine pure_ (i := 2) (N := some 61) (v := ?_) (a' := ?_) #[tt, ff, tt, ff, ff, ff, ff, ff, ff, ff, ff, ff, ff] rfl rfl (any_of HT_.out (by kernel_rfl)) (fun _ _ _ h => h) (Or.inl ⟨by rfl, ?_⟩) ?_ ?_
                  rotate_left
                  ·intro w'
                   go_simp
                   with_reducible rfl
                  rotate_left
                  ·simp only [Act.put, zp, zq, zr, i64_w, i32_w]
                   rfl
                  refine pure_ (i := 3) (N := some 62) (v := ?_) (a' := ?_) #[tt, ff, tt, tt, ff, ff, ff, ff, ff, ff, ff, ff, ff] rfl rfl (any_of HT_.out (by kernel_rfl)) (fun _ _ _ h => h) (Or.inl ⟨by rfl, ?_⟩) ?_ ?_
                  rotate_left
                  ·intro w'
                   go_simp
                   with_reducible rfl
                  rotate_left
                  ·simp only [Act.put, zp, zq, zr, i64_w, i32_w]
                   rfl
                  refine pure_ (i := 5) (N := some 64) (v := ?_) (a' := ?_) #[tt, ff, tt, tt, ff, tt, ff, ff, ff, ff, ff, ff, ff] rfl rfl (any_of HT_.out (by kernel_rfl)) (fun _ _ _ h => h) (Or.inl ⟨by rfl, ?_⟩) ?_ ?_
                  rotate_left
                  ·intro w'
                   go_simp
                   with_reducible rfl
                  rotate_left
                  ·simp only [Act.put, zp, zq, zr, i64_w, i32_w]
                   rfl
                  refine take_ (i := 1) (N := some 60) (v := ?_) (a' := ?_) #[tt, tt, tt, tt, ff, tt, ff, ff, ff, ff, ff, ff, ff] rfl rfl (take_ofW HT_.out HW_.out (by kernel_rfl)) (fun _ _ _ h => h) (Or.inl ⟨by rfl, ?_⟩) hHeld ?_ ?_
                  rotate_left
                  ·rintro w' ⟨s0, s1, s2, s3, s4⟩
                   go_simp
                   with_reducible rfl
                  rotate_left
                  ·simp only [Act.put, zp, zq, zr, i64_w, i32_w]
                   rfl
                  refine take_ (i := 4) (N := some 63) (v := ?_) (a' := ?_) #[tt, tt, tt, tt, tt, tt, ff, ff, ff, ff, ff, ff, ff] rfl rfl (take_ofW HT_.out HW_.out (by kernel_rfl)) (fun _ _ _ h => h) (Or.inl ⟨by rfl, ?_⟩) hHeld ?_ ?_
                  rotate_left
                  ·rintro w' ⟨s0, s1, s2, s3, s4⟩
                   go_simp
                   with_reducible rfl
                  rotate_left
                  ·simp only [Act.put, zp, zq, zr, i64_w, i32_w]
                   rfl
                  refine pure_ (i := 6) (N := some 65) (v := ?_) (a' := ?_) #[tt, tt, tt, tt, tt, tt, tt, ff, ff, ff, ff, ff, ff] rfl rfl (any_of HT_.out (by kernel_rfl)) (fun _ _ _ h => h) (Or.inl ⟨by rfl, ?_⟩) ?_ ?_
                  rotate_left
                  ·intro w'
                   go_simp
                   with_reducible rfl
                  rotate_left
                  ·simp only [Act.put, zp, zq, zr, i64_w, i32_w]
                   rfl
                  refine take_ (i := 7) (N := some 66) (v := ?_) (a' := ?_) #[tt, tt, tt, tt, tt, tt, tt, tt, ff, ff, ff, ff, ff] rfl rfl (take_ofW HT_.out HW_.out (by kernel_rfl)) (fun _ _ _ h => h) (Or.inl ⟨by rfl, ?_⟩) hHeld ?_ ?_
                  rotate_left
                  ·rintro w' ⟨s0, s1, s2, s3, s4⟩
                   go_simp
                   with_reducible rfl
                  rotate_left
                  ·simp only [Act.put, zp, zq, zr, i64_w, i32_w]
                   rfl
                  refine take_ (i := 8) (N := some 67) (v := ?_) (a' := ?_) #[tt, tt, tt, tt, tt, tt, tt, tt, tt, ff, ff, ff, ff] rfl rfl (take_ofW HT_.out HW_.out (by kernel_rfl)) (fun _ _ _ h => h) (Or.inl ⟨by rfl, ?_⟩) hHeld ?_ ?_
                  rotate_left
                  ·rintro w' ⟨s0, s1, s2, s3, s4⟩
                   go_simp
                   with_reducible rfl
                  rotate_left
                  ·simp only [Act.put, zp, zq, zr, i64_w, i32_w]
                   rfl
                  refine one_ (i := 9) (N := some 68) #[tt, tt, tt, tt, tt, tt, tt, tt, tt, tt, ff, ff, ff] rfl rfl (one_of HT_.out (by kernel_rfl)) (by decide) (fun K hK => ?_)
                  refine value_ (w1 := ?_) (v := ?_) (by rfl) rfl ?_ ?_
                  rotate_left 2
                  ·go_simp
                   constructor
                   ·rfl
                   ·rfl
                  refine hK.out _ _ ⟨(blk_cell (zA ah.out _) 0).trans rfl, (blk_cell (zA ah.out _) 1).trans rfl, (blk_cell (zA aj.out _) 0).trans rfl, (blk_cell (zA aj.out _) 1).trans rfl, (World.cell?_alloc_lt _ _ _ (World.block_lt_of_cell? _ _ (hHeld.2.2.2.2))).trans (hHeld.2.2.2.2)⟩ (fun hHeld => ?_)
                  clear hK K
                  refine norm_ (a' := ?_) ?_ ?_
                  rotate_left
                  ·show Act.put _ (some 68) _ = _
                   simp only [Act.put, zp, zq, zr, i64_w, i32_w]
                   rfl
                  refine one_ (i := 10) (N := some 69) #[tt, tt, tt, tt, tt, tt, tt, tt, tt, tt, tt, ff, ff] rfl rfl (one_of HT_.out (by kernel_rfl)) (by decide) (fun K hK => ?_)
                  refine Kd.R_append_step k30 (w0 := w) w.heap.size (by rfl) (.tmp 66) (.tmp 68) 28 30 (.agg #[(.int .i64 0), (.int .i64 0)]) 16 rfl Try.underlying28 info30 rfl (by decide) (by omega) (.slice ca (rd_L2 a5 aq).length cb) (rd_L2 a5 aq) (⟨(rd_T30 (rd_L2 aa ac) (af)).f0, (rd_T30 (rd_L2 aa ac) (af)).f1⟩ : S30) [.int .i64 ((rd_T30 (rd_L2 aa ac) (af)).f0), .int .i64 ((rd_T30 (rd_L2 aa ac) (af)).f1)] (fun k_ => dR k_ ∨ ((fun k_ => k_ ≠ ad)) k_ ∧ w107.heap.size ≤ k_) (fun _ => False) rfl rfl ?aP (fun _ hk => hk.elim) ?aF ?aO ?aB ?aS ?aL ?_
                  (case aP => exact k30_mkM _ _ _ (⟨(rd_T30 (rd_L2 aa ac) (af)).f0, (rd_T30 (rd_L2 aa ac) (af)).f1⟩ : S30))
                  (case aB => exact (by repeat (first | (with_reducible first | exact HB.out | apply zB | apply zC | apply zE | refine zS ?_ aw.out | refine zS ?_ az.out | refine zS ?_ aR.out | refine zS ?_ ba.out) | exact HB.out)))
                  (case aF => exact (fun k_ hk => .inr ⟨Kd.freshB (g := ad) (o := .cells #[.int .i64 ((rd_T30 (rd_L2 aa ac) (af)).f0), .int .i64 ((rd_T30 (rd_L2 aa ac) (af)).f1)] 30 (0, 0)) (by (with_reducible repeat (first | refine zN ?_ _ | refine zD ?_ | refine zA ?_ _)); exact aj.out) k_ hk, hk⟩))
                  (case aO => exact (by (with_reducible repeat (first | apply Kd.R_alloc | apply Kd.R_drewN | apply Kd.R_drew)); exact Kd.R_mono di.out (fun _ hk => .inl hk)))
                  (case aS => exact (below_size (by repeat (first | (with_reducible first | exact HB.out | apply zB | apply zC | apply zE | refine zS ?_ aw.out | refine zS ?_ az.out | refine zS ?_ aR.out | refine zS ?_ ba.out) | exact HB.out))))
                  (case aL => have := f3.out; omega)
                  intro v757 cA ho hb hg hat
                  (first | have ch := cell_grown hg (hHeld.2.2.2.2) (by first | (rw [add_block]; exact (fun e_ => ((aZ.out.1 _ e_.symm).2) rfl)) | (show some (Addr.add _ _).block ≠ _; rw [add_block]; exact (fun e_ => ((aZ.out.1 _ e_.symm).2) rfl)) | exact (fun e_ => ((aZ.out.1 _ e_.symm).2) rfl)) | have ch := cell_grown hg (cell_unalloc (hHeld.2.2.2.2) (by first | (rw [add_block]; exact Kd.S_lt ab.out _ rfl) | (show (Addr.add _ _).block < _; rw [add_block]; exact Kd.S_lt ab.out _ rfl) | exact Kd.S_lt ab.out _ rfl)) (by first | (rw [add_block]; exact (fun e_ => ((aZ.out.1 _ e_.symm).2) rfl)) | (show some (Addr.add _ _).block ≠ _; rw [add_block]; exact (fun e_ => ((aZ.out.1 _ e_.symm).2) rfl)) | exact (fun e_ => ((aZ.out.1 _ e_.symm).2) rfl)))
                  rw [← Ny756.out] at ho
                  have aV := zK (Kd.R_over' (v := (.slice ca (rd_L2 a5 aq).length cb)) (by (with_reducible repeat (first | apply Kd.R_alloc | apply Kd.R_drewN | apply Kd.R_drew)); exact aC.out) (Kd.R_typed aZ.out) (by decide) hg)
                  have aW := zK (blk_grown (g := ao) (o := .cells #[.int .i64 a0_0, .slice aH ar.length aI] 24 (0, 0)) (by (with_reducible repeat (first | refine zN ?_ _ | refine zD ?_ | refine zA ?_ _)); exact ag.out) hg (Kd.R_ne aZ.out ag.out (by decide)))
                  have aX := zK (blk_grown (g := an) (o := .cells #[.int .i64 am, .slice none 0 0] 24 (0, 0)) (by (with_reducible repeat (first | refine zN ?_ _ | refine zD ?_ | refine zA ?_ _)); exact ai.out) hg (Kd.R_ne aZ.out ai.out (by decide)))
                  have a0 := zK (blk_grown (g := ap) (o := .cells #[.int .i64 aD, .slice (some ⟨aY, 0, none⟩) aa.length bb] 24 (0, 0)) (by (with_reducible repeat (first | refine zN ?_ _ | refine zD ?_ | refine zA ?_ _)); exact ah.out) hg (Kd.R_ne aZ.out ah.out (by decide)))
                  have a6 := zK (blk_grown (g := ad) (o := .cells #[.int .i64 ((rd_T30 (rd_L2 aa ac) (af)).f0), .int .i64 ((rd_T30 (rd_L2 aa ac) (af)).f1)] 30 (0, 0)) (by (with_reducible repeat (first | refine zN ?_ _ | refine zD ?_ | refine zA ?_ _)); exact aj.out) hg (Kd.R_away aZ.out (fun _ hk => hk.1)))
                  have a7 := zK (hb)
                  have bg := zK (Kd.H_grown (Kd.H_widen (by repeat (first | exact bX.out | refine Kd.H_alloc ?_ _ | refine Kd.H_drewN ?_ _ | refine Kd.H_drew ?_))) hg (fun k_ e_ => .inl (di.out.1 k_ e_)))
                  have br := zK (ho)
                  clear aC ag ai ah aj HB bX ab di ae al bn aZ; have aC := aV; have ag := aW; have ai := aX; have ah := a0; have aj := a6; have HB := a7; have bX := bg; have eQ := br; clear aV aW aX a0 a6 a7 bg br ho hb hg hat
                  have p88 : 0 ≤ (aq : Int) := of_decide_eq_true (by first | (with_reducible assumption) | assumption)
                  have q88 : (aq : Int) < ((aa.length : Int) : Int) := of_decide_eq_true (by first | (with_reducible assumption) | assumption)
                  replace p88 := eq_true p88; replace q88 := eq_true q88
                  obtain ⟨bz, bA, eR⟩ := Kd.R_slice eQ.out
                  (first | subst eR | (injection eR with f1_ f2_ f3_; have f4_ := f1_.symm; have f5_ := f3_.symm; clear f1_ f2_ f3_; subst f4_; subst f5_))
                  obtain ⟨_, _, bJ, _, _, dV, _⟩ := Kd.H_raw bX.out (of_decide_eq_true (by first | (with_reducible assumption) | assumption)) (by have h_ : (aq : Int) < ((aa.length : Int) : Int) := of_decide_eq_true (by first | (with_reducible assumption) | assumption); first | exact h_ | (have e_ := (dU.out); omega) | simpa using h_)
                  obtain ⟨_, dW⟩ := Kd.H_at bX.out (of_decide_eq_true (by first | (with_reducible assumption) | assumption)) (by have h_ : (aq : Int) < ((aa.length : Int) : Int) := of_decide_eq_true (by first | (with_reducible assumption) | assumption); first | exact h_ | (have e_ := (dU.out); omega) | simpa using h_)
                  have dj := dV 0 _ rfl; have dk := dW 0; (try simp only [Nat.add_zero] at dj dk); (try rw [show ((Kd.slice 30 k30)).sz = 1 from rfl, Nat.mul_one] at dj); (try rw [show ((Kd.slice 30 k30)).sz = 1 from rfl, Nat.mul_one] at dk)
                  have dX := Kd.S_seg0 bX.out (of_decide_eq_true (by first | (with_reducible assumption) | assumption)) (by have h_ : (aq : Int) < ((aa.length : Int) : Int) := of_decide_eq_true (by first | (with_reducible assumption) | assumption); first | exact h_ | (have e_ := (dU.out); omega) | simpa using h_) (seg := [.slice bz bL.length bA]) (j := 0) (show 1 ≤ 1 from by decide) (x' := bL) (Kd.M_row eQ.out) (fun _ hk => hk)
                  (try simp only [show ((Kd.slice 30 k30)).sz = 1 from rfl, Nat.mul_one, Nat.add_zero] at dX); clear dV dW
                  have HNB719_go83 := zK (show ao ≠ aY from by have h_ := Kd.R_ne bJ ag.out (by decide); intro e_; exact h_ (by rw [e_]; rfl))
                  have HNB720_go83 := zK (show an ≠ aY from by have h_ := Kd.R_ne bJ ai.out (by decide); intro e_; exact h_ (by rw [e_]; rfl))
                  have HNB731_go83 := zK (show ap ≠ aY from by have h_ := Kd.R_ne bJ ah.out (by decide); intro e_; exact h_ (by rw [e_]; rfl))
                  have HNB735_go83 := zK (show ad ≠ aY from by have h_ := Kd.R_ne bJ aj.out (by decide); intro e_; exact h_ (by rw [e_]; rfl))
                  have dY := dX.1
                  rw [← Ny759.out] at dY
                  have gs := zK dY
                  obtain ⟨_, dZ⟩ := Kd.R_typed bJ aY rfl
                  have fm := zK dZ; clear dX dY dZ
                  refine hK.out _ _ ⟨(blk_cell ah.out 0).trans rfl, (blk_cell ah.out 1).trans rfl, (blk_cell aj.out 0).trans rfl, (blk_cell aj.out 1).trans rfl, ch⟩ (fun hHeld => ?_)
                  clear hK K
                  refine norm_ (a' := ?_) ?_ ?_
                  rotate_left
                  ·show Act.put _ (some 69) _ = _
                   simp only [Act.put, zp, zq, zr, i64_w, i32_w]
                   rfl
                  refine pure_ (i := 11) (N := some 70) (v := ?_) (a' := ?_) #[tt, tt, tt, tt, tt, tt, tt, tt, tt, tt, tt, tt, ff] rfl rfl (any_of HT_.out (by kernel_rfl)) (fun _ _ _ h => h) (Or.inl ⟨by rfl, ?_⟩) ?_ ?_
                  rotate_left
                  ·intro w'
                   go_simp
                   with_reducible rfl
                  rotate_left
                  ·simp only [Act.put, zp, zq, zr, i64_w, i32_w]
                   rfl
                  refine last_ (i := 12) (N := none) #[tt, tt, tt, tt, tt, tt, tt, tt, tt, tt, tt, tt, tt] rfl rfl (one_of HT_.out (by kernel_rfl)) (by decide) (fun K hK => ?_)
                  refine skip_ (w1 := ?_) (by rfl) rfl ?_ ?_
                  rotate_left
                  ·go_simp
                   rfl
                  refine hK.out _ _ ?_
                  clear hK K
                  refine done_ (done_of HT_.out (by kernel_rfl)) ?_
                  have aV : Aside0 (Kd.R k78 78 (cA.setCell ⟨aY, (aq : Int).toNat, none⟩ (.slice bz bL.length bA)) w.heap.size (fun _ => True) u9 bf) := ⟨by (with_reducible repeat (first | apply Kd.R_alloc | apply Kd.R_drewN | apply Kd.R_drew)); exact Kd.R_mono (Kd.R_far (p := ⟨aY, (aq : Int).toNat, none⟩) (Kd.R_types aC.out fm.out (by decide)) (fun _ hk => hk.2) (.slice bz bL.length bA)) (fun _ hk => trivial)⟩
                  have aW : Aside0 (Kd.S (Kd.slice 30 k30) 28 (cA.setCell ⟨aY, (aq : Int).toNat, none⟩ (.slice bz bL.length bA)) w.heap.size (fun k_ => k_ ≠ ad) (.slice (some ⟨aY, 0, none⟩) aa.length bb) el) := ⟨by (with_reducible repeat (first | apply Kd.S_alloc | apply Kd.S_drewN | apply Kd.S_drew)); exact gs.out⟩
                  have aX : Aside0 ((cA.setCell ⟨aY, (aq : Int).toNat, none⟩ (.slice bz bL.length bA)).heap[ao]? = some (.cells #[.int .i64 a0_0, .slice aH ar.length aI] 24 (0, 0))) := ⟨by (with_reducible repeat (first | refine zN ?_ _ | refine zD ?_ | refine zA ?_ _)); refine blk_far ?_ HNB719_go83.out _; (with_reducible repeat (first | refine zN ?_ _ | refine zD ?_ | refine zA ?_ _)); exact ag.out⟩
                  have a0 : Aside0 ((cA.setCell ⟨aY, (aq : Int).toNat, none⟩ (.slice bz bL.length bA)).heap[an]? = some (.cells #[.int .i64 am, .slice none 0 0] 24 (0, 0))) := ⟨by (with_reducible repeat (first | refine zN ?_ _ | refine zD ?_ | refine zA ?_ _)); refine blk_far ?_ HNB720_go83.out _; (with_reducible repeat (first | refine zN ?_ _ | refine zD ?_ | refine zA ?_ _)); exact ai.out⟩
                  have a6 : Aside0 ((cA.setCell ⟨aY, (aq : Int).toNat, none⟩ (.slice bz bL.length bA)).heap[ap]? = some (.cells #[.int .i64 aD, .slice (some ⟨aY, 0, none⟩) aa.length bb] 24 (0, 0))) := ⟨by (with_reducible repeat (first | refine zN ?_ _ | refine zD ?_ | refine zA ?_ _)); refine blk_far ?_ HNB731_go83.out _; (with_reducible repeat (first | refine zN ?_ _ | refine zD ?_ | refine zA ?_ _)); exact ah.out⟩
                  have a7 : Aside0 ((cA.setCell ⟨aY, (aq : Int).toNat, none⟩ (.slice bz bL.length bA)).heap[ad]? = some (.cells #[.int .i64 ((rd_T30 (rd_L2 aa ac) (af)).f0), .int .i64 ((rd_T30 (rd_L2 aa ac) (af)).f1)] 30 (0, 0))) := ⟨by (with_reducible repeat (first | refine zN ?_ _ | refine zD ?_ | refine zA ?_ _)); refine blk_far ?_ HNB735_go83.out _; (with_reducible repeat (first | refine zN ?_ _ | refine zD ?_ | refine zA ?_ _)); exact aj.out⟩
                  have bg : Aside0 (Below w.heap.size w (cA.setCell ⟨aY, (aq : Int).toNat, none⟩ (.slice bz bL.length bA))) := ⟨by repeat (first | (with_reducible first | exact HB.out | apply zB | apply zC | apply zE | refine zS ?_ gl.out | refine zS ?_ aw.out | refine zS ?_ az.out | refine zS ?_ aR.out | refine zS ?_ ba.out) | exact HB.out)⟩
                  (try clear aC); (try clear ab); (try clear ag); (try clear ai); (try clear ah); (try clear aj); (try clear HB)
                  generalize (cA.setCell ⟨aY, (aq : Int).toNat, none⟩ (.slice bz bL.length bA)) = gt at aV aW aX a0 a6 a7 bg ⊢
                  have aC := aV; have ab := aW; have ag := aX; have ai := a0; have ah := a6; have aj := a7; have HB := bg; clear aV aW aX a0 a6 a7 bg
                  have gu : gt.cell? ⟨ad, 0, none⟩ = some (.int .i64 ((rd_T30 (rd_L2 aa ac) (af)).f0)) := (blk_cell aj.out 0).trans rfl
                  have gv : gt.cell? ⟨ad, 1, none⟩ = some (.int .i64 ((rd_T30 (rd_L2 aa ac) (af)).f1)) := (blk_cell aj.out 1).trans rfl
                  have gw := blk_frozen aj.out 0; have gx := blk_frozen aj.out 1
                  try go_wp2_with (first | ((with_reducible refine gate_builtin (b := .append) (xs := #[.tmp 71, .tmp 77]) rfl ?_); at_builtin; refine Kd.R_append k78 (w0 := w) w.heap.size rfl (.tmp 71) (.tmp 77) 50 78 (.agg #[(.int .i64 0), (.int .i64 0), (.int .i64 0)]) 24 rfl Try.underlying50 info78 rfl (by decide) (by omega) u9 bf (⟨(rd_T30 (rd_L2 aa ac) (af)).f0, ac, aq⟩ : S78) [.int .i64 ((rd_T30 (rd_L2 aa ac) (af)).f0), .int .i64 ac, .int .i64 aq] (fun _ => True) (fun _ => False) rfl rfl ?aP (fun _ hk => hk.elim) ?aF ?aO ?aB ?aS ?aL ?_; (case aP => exact k78_mkM _ _ _ (⟨(rd_T30 (rd_L2 aa ac) (af)).f0, ac, aq⟩ : S78)); (case aB => exact (by repeat (first | (with_reducible first | exact HB.out | apply zB | apply zC | apply zE | refine zS ?_ aw.out | refine zS ?_ az.out | refine zS ?_ aR.out | refine zS ?_ ba.out) | exact HB.out))); (case aF => exact (fun _ _ => trivial)); (case aO => exact (by (with_reducible repeat (first | apply Kd.R_alloc | apply Kd.R_drewN | apply Kd.R_drew)); exact aC.out)); (case aS => exact (below_size (by repeat (first | (with_reducible first | exact HB.out | apply zB | apply zC | apply zE | refine zS ?_ aw.out | refine zS ?_ az.out | refine zS ?_ aR.out | refine zS ?_ ba.out) | exact HB.out)))); (case aL => have := f4.out; omega); intro v761 w115 ho hb hg hat; rw [← Ny760.out] at ho; have aV := zK (blk_grown (g := ao) (o := .cells #[.int .i64 a0_0, .slice aH ar.length aI] 24 (0, 0)) (by (with_reducible repeat (first | refine zN ?_ _ | refine zD ?_ | refine zA ?_ _)); exact ag.out) hg (Kd.R_ne aC.out ag.out (by decide))); have aW := zK (blk_grown (g := an) (o := .cells #[.int .i64 am, .slice none 0 0] 24 (0, 0)) (by (with_reducible repeat (first | refine zN ?_ _ | refine zD ?_ | refine zA ?_ _)); exact ai.out) hg (Kd.R_ne aC.out ai.out (by decide))); have aX := zK (blk_grown (g := ap) (o := .cells #[.int .i64 aD, .slice (some ⟨aY, 0, none⟩) aa.length bb] 24 (0, 0)) (by (with_reducible repeat (first | refine zN ?_ _ | refine zD ?_ | refine zA ?_ _)); exact ah.out) hg (Kd.R_ne aC.out ah.out (by decide))); have a0 := zK (blk_grown (g := ad) (o := .cells #[.int .i64 ((rd_T30 (rd_L2 aa ac) (af)).f0), .int .i64 ((rd_T30 (rd_L2 aa ac) (af)).f1)] 30 (0, 0)) (by (with_reducible repeat (first | refine zN ?_ _ | refine zD ?_ | refine zA ?_ _)); exact aj.out) hg (Kd.R_ne aC.out aj.out (by decide))); have a6 := zK (Kd.S_over' (by (with_reducible repeat (first | apply Kd.S_alloc | apply Kd.S_drewN | apply Kd.S_drew)); exact ab.out) (Kd.R_typed (by (with_reducible repeat (first | apply Kd.R_alloc | apply Kd.R_drewN | apply Kd.R_drew)); exact aC.out)) (by decide) hg); have a7 := zK (hb); have bg := zK (ho); clear ag; clear ai; clear ah; clear aj; clear ab; clear HB; clear aC; have ag := aV; have ai := aW; have ah := aX; have aj := a0; have ab := a6; have HB := a7; have gy := bg; clear aV aW aX a0 a6 a7 bg; clear ho hb hg hat))
                  go_roundg k2
                  case measure => have := HJ3.out; have := HK2.out; omega
                  case rel => exact ⟨(f5), (am), (el), (.slice (some ⟨aY, 0, none⟩) aa.length bb), H', ⟨by have := HJ3.out; have := HK2.out; omega⟩, ⟨by (with_reducible repeat (first | apply Kd.R_alloc | apply Kd.R_drewN | apply Kd.R_drew)); exact gy.out⟩, ⟨by (with_reducible repeat (first | apply Kd.S_alloc | apply Kd.S_drewN | apply Kd.S_drew)); exact Kd.S_mono ab.out (fun _ hk => trivial)⟩, ⟨by (with_reducible repeat (first | refine zN ?_ _ | refine zD ?_ | refine zA ?_ _)); exact ag.out⟩, ⟨by (with_reducible repeat (first | refine zN ?_ _ | refine zD ?_ | refine zA ?_ _)); exact ai.out⟩, ⟨by (with_reducible repeat (first | refine zN ?_ _ | refine zD ?_ | refine zA ?_ _)); exact ah.out⟩, ⟨by repeat (first | (with_reducible first | exact HB.out | apply zB | apply zC | apply zE | refine zS ?_ aw.out | refine zS ?_ az.out | refine zS ?_ aR.out | refine zS ?_ ba.out) | exact HB.out)⟩⟩
                 ·rw [if_neg c89] at H
                  exact absurd H (by simp)
                ·rw [if_neg c87] at H
                 exact absurd H (by simp)
              ·rw [if_neg c85] at H
               exact absurd H (by simp)
             ·rw [if_neg c84] at H
              exact absurd H (by simp)
            ·rw [if_neg f2] at H
             exact absurd H (by simp)
         ·rw [if_neg c38] at H
          exact absurd H (by simp)
        ·rw [if_neg c37] at H
         exact absurd H (by simp)
       ·rw [if_neg c35] at H
        exact absurd H (by simp)
      ·rw [if_neg c34] at H
       exact absurd H (by simp)
end Go.Proofs.Ytheckjlldkkceaa.Px
