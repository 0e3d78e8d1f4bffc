import Derived.Test.YtheckjlldkkceaaZyPx0
import Derived.Test.YtheckjlldkkceaaZyPx3
import Derived.Test.YtheckjlldkkceaaZyPx5
import Derived.Test.YtheckjlldkkceaaZyPx6
namespace Go.Proofs.Ytheckjlldkkceaa.Px
open Go.RowKit Go.Proofs.YtheckjlldkkceaaW.PrintWords Go.Proofs.YtheckjlldkkceaaW.PrintLast Go.Proofs.YtheckjlldkkceaaW.PrintMore
attribute [local go_sem] max2_int min2_int max_two min_two max_three min_three max_four min_four   -- for this text's walks alone
set_option linter.unusedVariables false
set_option linter.unusedSimpArgs false

mutual
def impl_leastHops.l0 : Nat → Int → Int → Int → Int → Int → List (List (S30)) → Int → List (List (S30)) → Int → Int → Option (Int)
 | 0, _, _, _, _, _, _, _, _, _, _ => none
 | k + 1, x4, x7, x30, x31, x165000, x165001, x172000, x172001, x180000, x180001 => if x31 < x30 then (if x31 = x4 then (impl_leastHops.j1 k x4 x7 x31 x30 x31 true x165000 x165001 x172000 x172001 x180000 x180001) else (if 0 ≤ x31 then (if x31 < (x172001.length : Int) then (impl_leastHops.j1 k x4 x7 x31 x30 x31 (((rd_L2 x172001 x31).length : Int) == x165000) x165000 x165001 x172000 x172001 x180000 x180001) else (none)) else (none))) else (some x7)
def impl_leastHops.j1 : Nat → Int → Int → Int → Int → Int → Bool → Int → List (List (S30)) → Int → List (List (S30)) → Int → Int → Option (Int)
 | 0, _, _, _, _, _, _, _, _, _, _, _, _ => none
 | k + 1, x4, x7, x8, x30, x31, x47, x165000, x165001, x172000, x172001, x180000, x180001 => if x47 = true then (impl_leastHops.l0 k x4 x7 x30 (wrap64 (x31 + 1)) x165000 x165001 x172000 x172001 x180000 x180001) else ((impl_copyStore.f k x172000 x172001).bind fun bt182 => (if 0 ≤ x8 then (if x8 < (bt182.2.length : Int) then (if (rd_L2 bt182.2 x8).length < 8796093022208 then ((impl_leastHops.f k bt182.1 (bt182.2.set (x8 : Int).toNat ((rd_L2 bt182.2 x8) ++ [(⟨x180000, x180001⟩ : S30)]))).bind fun t192 => (if t192 ≥ 0 then (if x7 < 0 then (impl_leastHops.j2 k x4 x7 t192 x30 x31 true x165000 x165001 x172000 x172001 x180000 x180001) else (impl_leastHops.j2 k x4 x7 t192 x30 x31 (decide ((wrap64 (t192 + 1)) < x7)) x165000 x165001 x172000 x172001 x180000 x180001)) else (impl_leastHops.j2 k x4 x7 t192 x30 x31 false x165000 x165001 x172000 x172001 x180000 x180001))) else (none)) else (none)) else (none)))
def impl_leastHops.j2 : Nat → Int → Int → Int → Int → Int → Bool → Int → List (List (S30)) → Int → List (List (S30)) → Int → Int → Option (Int)
 | 0, _, _, _, _, _, _, _, _, _, _, _, _ => none
 | k + 1, x4, x7, x10, x30, x31, x75, x165000, x165001, x172000, x172001, x180000, x180001 => if x75 = true then (impl_leastHops.l0 k x4 (wrap64 (x10 + 1)) x30 (wrap64 (x31 + 1)) x165000 x165001 x172000 x172001 x180000 x180001) else (impl_leastHops.l0 k x4 x7 x30 (wrap64 (x31 + 1)) x165000 x165001 x172000 x172001 x180000 x180001)
def impl_leastHops.f : Nat → Int → List (List (S30)) → Option (Int)
 | 0, _, _ => none
 | k + 1, a0_0, l0_1 => (impl_nextOut.f k a0_0 l0_1).bind fun t165 => (if t165 = 0 then (some 0) else ((impl_laneOf.f a0_0 l0_1 t165).bind fun t166 => ((impl_copyStore.f k a0_0 l0_1).bind fun bt167 => (if 0 ≤ t166 then (if t166 < (bt167.2.length : Int) then (if 0 ≤ (wrap64 (((rd_L2 bt167.2 t166).length : Int) - 1)) then (if (wrap64 (((rd_L2 bt167.2 t166).length : Int) - 1)) < ((rd_L2 bt167.2 t166).length : Int) then (if (wrap64 (((rd_L2 bt167.2 t166).length : Int) - 1)) ≤ ((rd_L2 bt167.2 t166).length : Int) then ((some (bt167.2.set (t166 : Int).toNat ((rd_L2 bt167.2 t166).take ((wrap64 (((rd_L2 bt167.2 t166).length : Int) - 1)) : Int).toNat) : List (List (S30)))).bind fun y178 => (if ((rd_T30 (rd_L2 bt167.2 t166) (wrap64 (((rd_L2 bt167.2 t166).length : Int) - 1))).f0) = t165 then ((impl_leastHops.f k bt167.1 y178).bind fun t180 => (some t180)) else (impl_leastHops.l0 k t166 (-1) (bt167.2.length : Int) 0 a0_0 l0_1 bt167.1 y178 ((rd_T30 (rd_L2 bt167.2 t166) (wrap64 (((rd_L2 bt167.2 t166).length : Int) - 1))).f0) ((rd_T30 (rd_L2 bt167.2 t166) (wrap64 (((rd_L2 bt167.2 t166).length : Int) - 1))).f1)))) else (none)) else (none)) else (none)) else (none)) else (none)))))
end
def impl_leastHops.T13 : Bool × List (List Nat × List Nat) := (true, [([], []), ([], []), ([0, 1], [0, 1]), ([2], [2]), ([3], [3]), ([4, 3], [3, 4]), ([3], [3]), ([5, 6, 3], [3, 5, 6]), ([7, 3], [3, 7]), ([8, 3], [3, 8]), ([3], [3]), ([10, 3], [3, 10]), ([9, 11, 3], [3, 9, 11]), ([3, 12], [3, 12])])
def impl_leastHops.B13 : List Nat := [0, 0, 3, 7, 15, 31, 15, 127, 255, 511, 15, 1039, 4095, 8191]
theorem impl_leastHops.tab13 : rtab .any (opsOf Try.f51 13) = impl_leastHops.T13 := by kernel_rfl
theorem impl_leastHops.bits13 : waitsOk impl_leastHops.T13.2 impl_leastHops.B13 = true := by kernel_rfl
def impl_leastHops.T15 : Bool × List (List Nat × List Nat) := (true, [([], []), ([0], [0]), ([], []), ([], []), ([3], [3]), ([], []), ([4, 5], [4, 5]), ([6], [6]), ([], []), ([8], [8]), ([7, 9], [7, 9]), ([1, 2, 0, 1, 2, 3, 4, 5, 6, 7, 8, 9, 10], [1, 2]), ([11, 10, 10, 0, 1, 2, 3, 4, 5, 6, 7, 8, 9, 10], [10, 11])])
def impl_leastHops.B15 : List Nat := [0, 1, 0, 0, 8, 0, 56, 120, 0, 256, 1016, 2047, 4095]
theorem impl_leastHops.tab15 : rtab .any (opsOf Try.f51 15) = impl_leastHops.T15 := by kernel_rfl
theorem impl_leastHops.bits15 : waitsOk impl_leastHops.T15.2 impl_leastHops.B15 = true := by kernel_rfl
set_option maxHeartbeats 8000000 in
set_option maxRecDepth 100000 in
theorem impl_leastHops.calls (k : Nat) : ∀ (a0_0 : Int) (A0_1 : Option Addr) (c0_1 : Nat) (l0_1 : List (List (S30))) (r : Int) (w : World) (hr0_1 : Kd.C (Kd.slice 30 k30) w A0_1 l0_1.length l0_1) (hc0_1 : l0_1.length ≤ c0_1) (h : impl_leastHops.f k a0_0 l0_1 = some r),
  Calls Try.prog 51 #[.agg #[.int .i64 a0_0, .slice A0_1 l0_1.length c0_1]] w fun e w' => e = .returned (.int .i64 r) ∧ Below w.heap.size w w' := by
 induction k using Nat.strongRecOn with
 | _ k ih =>
 intro a0_0 A0_1 c0_1 l0_1 r w hr0_1 hc0_1 h
 cases k with
 | zero => exact absurd h (by simp [impl_leastHops.f])
 | succ k =>
 simp only [impl_leastHops.f] at h
 have hu24 := Try.underlying24
 have hu30 := Try.underlying30
 have HR0_1 := Aside0.mk hr0_1
 have HC0_1 := Aside0.mk hc0_1
 clear hr0_1 hc0_1
 have HB := Aside0.mk (Below.refl w.heap.size w)
 have H : ((impl_nextOut.f k a0_0 l0_1).bind fun t165 => (if t165 = 0 then (some 0) else ((impl_laneOf.f a0_0 l0_1 t165).bind fun t166 => ((impl_copyStore.f k a0_0 l0_1).bind fun bt167 => (if 0 ≤ t166 then (if t166 < (bt167.2.length : Int) then (if 0 ≤ (wrap64 (((rd_L2 bt167.2 t166).length : Int) - 1)) then (if (wrap64 (((rd_L2 bt167.2 t166).length : Int) - 1)) < ((rd_L2 bt167.2 t166).length : Int) then (if (wrap64 (((rd_L2 bt167.2 t166).length : Int) - 1)) ≤ ((rd_L2 bt167.2 t166).length : Int) then ((some (bt167.2.set (t166 : Int).toNat ((rd_L2 bt167.2 t166).take ((wrap64 (((rd_L2 bt167.2 t166).length : Int) - 1)) : Int).toNat) : List (List (S30)))).bind fun y178 => (if ((rd_T30 (rd_L2 bt167.2 t166) (wrap64 (((rd_L2 bt167.2 t166).length : Int) - 1))).f0) = t165 then ((impl_leastHops.f k bt167.1 y178).bind fun t180 => (some t180)) else (impl_leastHops.l0 k t166 (-1) (bt167.2.length : Int) 0 a0_0 l0_1 bt167.1 y178 ((rd_T30 (rd_L2 bt167.2 t166) (wrap64 (((rd_L2 bt167.2 t166).length : Int) - 1))).f0) ((rd_T30 (rd_L2 bt167.2 t166) (wrap64 (((rd_L2 bt167.2 t166).length : Int) - 1))).f1)))) else (none)) else (none)) else (none)) else (none)) else (none)))))) = some r := h
 clear h
 replace H := Option.bind_eq_some_iff.mp H
 obtain ⟨t165, A20, H⟩ := H
 replace H : (if t165 = 0 then (some 0) else ((impl_laneOf.f a0_0 l0_1 t165).bind fun t166 => ((impl_copyStore.f k a0_0 l0_1).bind fun bt167 => (if 0 ≤ t166 then (if t166 < (bt167.2.length : Int) then (if 0 ≤ (wrap64 (((rd_L2 bt167.2 t166).length : Int) - 1)) then (if (wrap64 (((rd_L2 bt167.2 t166).length : Int) - 1)) < ((rd_L2 bt167.2 t166).length : Int) then (if (wrap64 (((rd_L2 bt167.2 t166).length : Int) - 1)) ≤ ((rd_L2 bt167.2 t166).length : Int) then ((some (bt167.2.set (t166 : Int).toNat ((rd_L2 bt167.2 t166).take ((wrap64 (((rd_L2 bt167.2 t166).length : Int) - 1)) : Int).toNat) : List (List (S30)))).bind fun y178 => (if ((rd_T30 (rd_L2 bt167.2 t166) (wrap64 (((rd_L2 bt167.2 t166).length : Int) - 1))).f0) = t165 then ((impl_leastHops.f k bt167.1 y178).bind fun t180 => (some t180)) else (impl_leastHops.l0 k t166 (-1) (bt167.2.length : Int) 0 a0_0 l0_1 bt167.1 y178 ((rd_T30 (rd_L2 bt167.2 t166) (wrap64 (((rd_L2 bt167.2 t166).length : Int) - 1))).f0) ((rd_T30 (rd_L2 bt167.2 t166) (wrap64 (((rd_L2 bt167.2 t166).length : Int) - 1))).f1)))) else (none)) else (none)) else (none)) else (none)) else (none))))) = some r := H
 have A2 := Aside0.mk A20
 clear A20
 by_cases c3 : t165 = 0
 ·rw [if_pos c3] at H
  have c3b0 : (t165 == 0) = true := beq_iff_eq.mpr c3
  have c3b1 : (t165 != 0) = false := bne_eq_false_iff_eq.mpr c3
  clear c3
  obtain rfl := Option.some.inj H
  go_enter Try.func51, Try.ntmps51
  go_wp2_with (first | ((with_reducible refine gate_dst (N := 1) rfl ?_); (try (refine gate_guard (by rfl) ?_; dsimp only)); refine box_event ?hg (N := 1) ?hd (cs := #[.int .i64 a0_0, .slice A0_1 l0_1.length c0_1]) (t := 24) ?hr ?_; (case hd => rfl); (case hg => rfl); (case hr => first | (go_simp; done) | (go_simp; rfl)); intro gb164 hg w4 hbox hb; have n0_ := Aside0.mk (below_step (by repeat (first | (with_reducible first | exact HB.out | apply below_alloc | apply pw_below_drewN | apply below_drew1) | exact HB.out)) hb); have n1_ := Aside0.mk (hbox); have n2_ := Aside0.mk ((by rw [hg]; exact (below_size (by repeat (first | (with_reducible first | exact HB.out | apply below_alloc | apply pw_below_drewN | apply below_drew1) | exact HB.out))) : w.heap.size ≤ gb164)); have n3_ := Aside0.mk ((by rw [hg]; exact (below_size (by repeat (first | (with_reducible first | exact HB.out | apply below_alloc | apply pw_below_drewN | apply below_drew1) | exact HB.out))) : w.heap.size ≤ gb164)); clear HB; have HB := n0_; have BK164 := n1_; have GW164 := n2_; have GE164 := n3_; clear n0_ n1_ n2_ n3_; clear hb hbox hg; have hcz5_0 : w4.cell? ⟨gb164, 0, none⟩ = some (.int .i64 a0_0) := (blk_cell BK164.out 0).trans rfl; have hcz5_1 : w4.cell? ⟨gb164, 1, none⟩ = some (.slice A0_1 l0_1.length c0_1) := (blk_cell BK164.out 1).trans rfl; have hfz5_0 := blk_frozen BK164.out 0; have hfz5_1 := blk_frozen BK164.out 1) | ((with_reducible refine gate_callee (f := 60) rfl ?_); refine goesL_ (some 12) rfl rfl Try.func60 (by kernel_rfl) rfl #[.agg #[.int .i64 a0_0, .slice A0_1 l0_1.length c0_1]] rfl (by (try simp only [List.map_toArray, List.map_cons, List.map_nil]); first | done | rfl | (simp only [List.length_drop, List.length_take]; rfl)) ?_; (with_reducible refine (impl_nextOut.calls k a0_0 _ _ l0_1 t165 _ ?side1 ?side2 A2.out).mono ?_); (case side1 => repeat (first | exact (Kd.C_below HR0_1.out HB.out) | (with_reducible refine Kd.C_alloc ?_ _) | (with_reducible refine Kd.C_drewN ?_ _) | (with_reducible refine Kd.C_drew ?_))); (case side2 => exact HC0_1.out); rintro e w6 ⟨rfl, hb⟩; refine ⟨_, rfl, ?_⟩; have n0_ := Aside0.mk (blk_below (g := gb164) (o := .cells #[.int .i64 a0_0, .slice A0_1 l0_1.length c0_1] 24 (0, 0)) (by (with_reducible repeat (first | refine blk_drewN ?_ _ | refine blk_drew ?_ | refine blk_alloc ?_ _)); exact BK164.out) hb); have n1_ := Aside0.mk (below_step (by repeat (first | (with_reducible first | exact HB.out | apply below_alloc | apply pw_below_drewN | apply below_drew1 | refine below_set ?_ GE164.out) | exact HB.out)) hb); clear BK164; clear HB; have BK164 := n0_; have HB := n1_; clear n0_ n1_; (try clear hb); (try clear hb2); (try clear hk); (try clear hi)))
  go_ret
  exact ⟨by first | rfl | (simp [errW_none, errW_some] <;> rfl) | (simp [*, errW_none, errW_some] <;> rfl), by repeat (first | (with_reducible first | exact HB.out | apply below_alloc | apply pw_below_drewN | apply below_drew1 | refine below_set ?_ GE164.out) | exact HB.out)⟩
 ·rw [if_neg c3] at H
  have c3b0 : (t165 == 0) = false := beq_eq_false_iff_ne.mpr c3
  have c3b1 : (t165 != 0) = true := bne_iff_ne.mpr c3
  replace H := Option.bind_eq_some_iff.mp H
  obtain ⟨t166, A70, H⟩ := H
  replace H : ((impl_copyStore.f k a0_0 l0_1).bind fun bt167 => (if 0 ≤ t166 then (if t166 < (bt167.2.length : Int) then (if 0 ≤ (wrap64 (((rd_L2 bt167.2 t166).length : Int) - 1)) then (if (wrap64 (((rd_L2 bt167.2 t166).length : Int) - 1)) < ((rd_L2 bt167.2 t166).length : Int) then (if (wrap64 (((rd_L2 bt167.2 t166).length : Int) - 1)) ≤ ((rd_L2 bt167.2 t166).length : Int) then ((some (bt167.2.set (t166 : Int).toNat ((rd_L2 bt167.2 t166).take ((wrap64 (((rd_L2 bt167.2 t166).length : Int) - 1)) : Int).toNat) : List (List (S30)))).bind fun y178 => (if ((rd_T30 (rd_L2 bt167.2 t166) (wrap64 (((rd_L2 bt167.2 t166).length : Int) - 1))).f0) = t165 then ((impl_leastHops.f k bt167.1 y178).bind fun t180 => (some t180)) else (impl_leastHops.l0 k t166 (-1) (bt167.2.length : Int) 0 a0_0 l0_1 bt167.1 y178 ((rd_T30 (rd_L2 bt167.2 t166) (wrap64 (((rd_L2 bt167.2 t166).length : Int) - 1))).f0) ((rd_T30 (rd_L2 bt167.2 t166) (wrap64 (((rd_L2 bt167.2 t166).length : Int) - 1))).f1)))) else (none)) else (none)) else (none)) else (none)) else (none))) = some r := H
  have A7 := Aside0.mk A70
  clear A70
  replace H := Option.bind_eq_some_iff.mp H
  obtain ⟨⟨t167, t168⟩, A80, H⟩ := H
  replace H : (if 0 ≤ t166 then (if t166 < (t168.length : Int) then (if 0 ≤ (wrap64 (((rd_L2 t168 t166).length : Int) - 1)) then (if (wrap64 (((rd_L2 t168 t166).length : Int) - 1)) < ((rd_L2 t168 t166).length : Int) then (if (wrap64 (((rd_L2 t168 t166).length : Int) - 1)) ≤ ((rd_L2 t168 t166).length : Int) then ((some (t168.set (t166 : Int).toNat ((rd_L2 t168 t166).take ((wrap64 (((rd_L2 t168 t166).length : Int) - 1)) : Int).toNat) : List (List (S30)))).bind fun y178 => (if ((rd_T30 (rd_L2 t168 t166) (wrap64 (((rd_L2 t168 t166).length : Int) - 1))).f0) = t165 then ((impl_leastHops.f k t167 y178).bind fun t180 => (some t180)) else (impl_leastHops.l0 k t166 (-1) (t168.length : Int) 0 a0_0 l0_1 t167 y178 ((rd_T30 (rd_L2 t168 t166) (wrap64 (((rd_L2 t168 t166).length : Int) - 1))).f0) ((rd_T30 (rd_L2 t168 t166) (wrap64 (((rd_L2 t168 t166).length : Int) - 1))).f1)))) else (none)) else (none)) else (none)) else (none)) else (none)) = some r := H
  have A8 := Aside0.mk A80
  clear A80
  by_cases c9 : 0 ≤ t166
  ·rw [if_pos c9] at H
   have c9b0 : decide (0 ≤ t166) = true := decide_eq_true c9
   clear c9
   by_cases c10 : t166 < (t168.length : Int)
   ·rw [if_pos c10] at H
    have c10b0 : decide (t166 < (t168.length : Int)) = true := decide_eq_true c10
    clear c10
    obtain ⟨ji11, hji11⟩ : ∃ j_ : Int, (wrap64 (((rd_L2 t168 t166).length : Int) - 1)) = j_ := ⟨_, rfl⟩
    replace H : (if 0 ≤ (ji11) then (if (ji11) < ((rd_L2 t168 t166).length : Int) then (if (ji11) ≤ ((rd_L2 t168 t166).length : Int) then ((some (t168.set (t166 : Int).toNat ((rd_L2 t168 t166).take ((ji11) : Int).toNat) : List (List (S30)))).bind fun y178 => (if ((rd_T30 (rd_L2 t168 t166) (ji11)).f0) = t165 then ((impl_leastHops.f k t167 y178).bind fun t180 => (some t180)) else (impl_leastHops.l0 k t166 (-1) (t168.length : Int) 0 a0_0 l0_1 t167 y178 ((rd_T30 (rd_L2 t168 t166) (ji11)).f0) ((rd_T30 (rd_L2 t168 t166) (ji11)).f1)))) else (none)) else (none)) else (none)) = some r := by first | (rw [hji11] at H; exact H) | (simp only [hji11] at H ⊢; exact H)
    (try rw [hji11] at A2)
    (try rw [hji11] at A7)
    (try rw [hji11] at A8)
    have hji11w : (IntKind.i64.wrap (((rd_L2 t168 t166).length : Int) - 1)) = ji11 := (i64_w _).trans hji11
    by_cases c12 : 0 ≤ (ji11)
    ·rw [if_pos c12] at H
     have c12b0 : decide (0 ≤ (ji11)) = true := decide_eq_true c12
     clear c12
     by_cases c13 : (ji11) < ((rd_L2 t168 t166).length : Int)
     ·rw [if_pos c13] at H
      have c13b0 : decide ((ji11) < ((rd_L2 t168 t166).length : Int)) = true := decide_eq_true c13
      clear c13
      by_cases c14 : (ji11) ≤ ((rd_L2 t168 t166).length : Int)
      ·rw [if_pos c14] at H
       have c14b0 := eq_true c14
       have c14b1 : decide ((ji11) ≤ ((rd_L2 t168 t166).length : Int)) = true := decide_eq_true c14
       clear c14
       obtain ⟨y174, hy174⟩ : ∃ y_ : List (S30), y_ = ((rd_L2 t168 t166).take ((ji11) : Int).toNat) := ⟨_, rfl⟩
       replace H : ((some (t168.set (t166 : Int).toNat y174 : List (List (S30)))).bind fun y178 => (if ((rd_T30 (rd_L2 t168 t166) (ji11)).f0) = t165 then ((impl_leastHops.f k t167 y178).bind fun t180 => (some t180)) else (impl_leastHops.l0 k t166 (-1) (t168.length : Int) 0 a0_0 l0_1 t167 y178 ((rd_T30 (rd_L2 t168 t166) (ji11)).f0) ((rd_T30 (rd_L2 t168 t166) (ji11)).f1)))) = some r := by first | (rw [hy174]; with_reducible exact H) | (have H2_ := (Option.bind_some _ _).symm.trans H; rw [hy174]; with_reducible exact H2_) | (have H2_ := (Option.bind_some _ _).symm.trans H; with_reducible exact H2_) | with_reducible exact H | (rw [hy174]; exact H) | exact H
       have Ny174 := Aside0.mk hy174
       clear hy174
       obtain ⟨y178, hy178⟩ : ∃ y_ : List (List (S30)), y_ = (t168.set (t166 : Int).toNat y174) := ⟨_, rfl⟩
       replace H : (if ((rd_T30 (rd_L2 t168 t166) (ji11)).f0) = t165 then ((impl_leastHops.f k t167 y178).bind fun t180 => (some t180)) else (impl_leastHops.l0 k t166 (-1) (t168.length : Int) 0 a0_0 l0_1 t167 y178 ((rd_T30 (rd_L2 t168 t166) (ji11)).f0) ((rd_T30 (rd_L2 t168 t166) (ji11)).f1))) = some r := by first | (rw [hy178]; with_reducible exact H) | (have H2_ := (Option.bind_some _ _).symm.trans H; rw [hy178]; with_reducible exact H2_) | (have H2_ := (Option.bind_some _ _).symm.trans H; with_reducible exact H2_) | with_reducible exact H | (rw [hy178]; exact H) | exact H
       have Ny178 := Aside0.mk hy178
       clear hy178
       by_cases c16 : ((rd_T30 (rd_L2 t168 t166) (ji11)).f0) = t165
       ·rw [if_pos c16] at H
        have c16b0 : (((rd_T30 (rd_L2 t168 t166) (ji11)).f0) == t165) = true := beq_iff_eq.mpr c16
        have c16b1 : (((rd_T30 (rd_L2 t168 t166) (ji11)).f0) != t165) = false := bne_eq_false_iff_eq.mpr c16
        clear c16
        replace H := Option.bind_eq_some_iff.mp H
        obtain ⟨t180, A170, H⟩ := H
        replace H : (some t180) = some r := H
        have A17 := Aside0.mk A170
        clear A170
        obtain rfl := Option.some.inj H
        go_enter Try.func51, Try.ntmps51
        go_wp2_with (first | ((with_reducible refine gate_dst (N := 1) rfl ?_); (try (refine gate_guard (by rfl) ?_; dsimp only)); refine box_event ?hg (N := 1) ?hd (cs := #[.int .i64 a0_0, .slice A0_1 l0_1.length c0_1]) (t := 24) ?hr ?_; (case hd => rfl); (case hg => rfl); (case hr => first | (go_simp; done) | (go_simp; rfl)); intro gb164 hg w18 hbox hb; have n0_ := Aside0.mk (below_step (by repeat (first | (with_reducible first | exact HB.out | apply below_alloc | apply pw_below_drewN | apply below_drew1) | exact HB.out)) hb); have n1_ := Aside0.mk (hbox); have n2_ := Aside0.mk ((by rw [hg]; exact (below_size (by repeat (first | (with_reducible first | exact HB.out | apply below_alloc | apply pw_below_drewN | apply below_drew1) | exact HB.out))) : w.heap.size ≤ gb164)); have n3_ := Aside0.mk ((by rw [hg]; exact (below_size (by repeat (first | (with_reducible first | exact HB.out | apply below_alloc | apply pw_below_drewN | apply below_drew1) | exact HB.out))) : w.heap.size ≤ gb164)); clear HB; have HB := n0_; have BK164 := n1_; have GW164 := n2_; have GE164 := n3_; clear n0_ n1_ n2_ n3_; clear hb hbox hg; have hcz19_0 : w18.cell? ⟨gb164, 0, none⟩ = some (.int .i64 a0_0) := (blk_cell BK164.out 0).trans rfl; have hcz19_1 : w18.cell? ⟨gb164, 1, none⟩ = some (.slice A0_1 l0_1.length c0_1) := (blk_cell BK164.out 1).trans rfl; have hfz19_0 := blk_frozen BK164.out 0; have hfz19_1 := blk_frozen BK164.out 1) | ((with_reducible refine gate_callee (f := 60) rfl ?_); refine goesL_ (some 12) rfl rfl Try.func60 (by kernel_rfl) rfl #[.agg #[.int .i64 a0_0, .slice A0_1 l0_1.length c0_1]] rfl (by (try simp only [List.map_toArray, List.map_cons, List.map_nil]); first | done | rfl | (simp only [List.length_drop, List.length_take]; rfl)) ?_; (with_reducible refine (impl_nextOut.calls k a0_0 _ _ l0_1 t165 _ ?side1 ?side2 A2.out).mono ?_); (case side1 => repeat (first | exact (Kd.C_below HR0_1.out HB.out) | (with_reducible refine Kd.C_alloc ?_ _) | (with_reducible refine Kd.C_drewN ?_ _) | (with_reducible refine Kd.C_drew ?_))); (case side2 => exact HC0_1.out); rintro e w20 ⟨rfl, hb⟩; refine ⟨_, rfl, ?_⟩; have n0_ := Aside0.mk (blk_below (g := gb164) (o := .cells #[.int .i64 a0_0, .slice A0_1 l0_1.length c0_1] 24 (0, 0)) (by (with_reducible repeat (first | refine blk_drewN ?_ _ | refine blk_drew ?_ | refine blk_alloc ?_ _)); exact BK164.out) hb); have n1_ := Aside0.mk (below_step (by repeat (first | (with_reducible first | exact HB.out | apply below_alloc | apply pw_below_drewN | apply below_drew1 | refine below_set ?_ GE164.out) | exact HB.out)) hb); clear BK164; clear HB; have BK164 := n0_; have HB := n1_; clear n0_ n1_; (try clear hb); (try clear hb2); (try clear hk); (try clear hi); have hcz21_0 : w20.cell? ⟨gb164, 0, none⟩ = some (.int .i64 a0_0) := (blk_cell BK164.out 0).trans rfl; have hcz21_1 : w20.cell? ⟨gb164, 1, none⟩ = some (.slice A0_1 l0_1.length c0_1) := (blk_cell BK164.out 1).trans rfl; have hfz21_0 := blk_frozen BK164.out 0; have hfz21_1 := blk_frozen BK164.out 1) | ((with_reducible refine gate_callee (f := 74) rfl ?_); refine goesL_ (some 17) rfl rfl Try.func74 (by kernel_rfl) rfl #[.agg #[.int .i64 a0_0, .slice A0_1 l0_1.length c0_1], .int .i64 t165] rfl (by (try simp only [List.map_toArray, List.map_cons, List.map_nil]); first | done | rfl | (simp only [List.length_drop, List.length_take]; rfl)) ?_; (with_reducible refine (impl_laneOf.calls a0_0 _ _ l0_1 t165 t166 _ ?side1 ?side2 A7.out).mono ?_); (case side1 => repeat (first | exact (Kd.C_below HR0_1.out HB.out) | (with_reducible refine Kd.C_alloc ?_ _) | (with_reducible refine Kd.C_drewN ?_ _) | (with_reducible refine Kd.C_drew ?_))); (case side2 => exact HC0_1.out); rintro e w22 ⟨rfl, hb⟩; refine ⟨_, rfl, ?_⟩; have n0_ := Aside0.mk (blk_below (g := gb164) (o := .cells #[.int .i64 a0_0, .slice A0_1 l0_1.length c0_1] 24 (0, 0)) (by (with_reducible repeat (first | refine blk_drewN ?_ _ | refine blk_drew ?_ | refine blk_alloc ?_ _)); exact BK164.out) hb); have n1_ := Aside0.mk (below_step (by repeat (first | (with_reducible first | exact HB.out | apply below_alloc | apply pw_below_drewN | apply below_drew1 | refine below_set ?_ GE164.out) | exact HB.out)) hb); clear BK164; clear HB; have BK164 := n0_; have HB := n1_; clear n0_ n1_; (try clear hb); (try clear hb2); (try clear hk); (try clear hi); have hcz23_0 : w22.cell? ⟨gb164, 0, none⟩ = some (.int .i64 a0_0) := (blk_cell BK164.out 0).trans rfl; have hcz23_1 : w22.cell? ⟨gb164, 1, none⟩ = some (.slice A0_1 l0_1.length c0_1) := (blk_cell BK164.out 1).trans rfl; have hfz23_0 := blk_frozen BK164.out 0; have hfz23_1 := blk_frozen BK164.out 1) | ((with_reducible refine gate_callee (f := 67) rfl ?_); refine goesL_ (some 19) rfl rfl Try.func67 (by kernel_rfl) rfl #[.agg #[.int .i64 a0_0, .slice A0_1 l0_1.length c0_1]] rfl (by (try simp only [List.map_toArray, List.map_cons, List.map_nil]); first | done | rfl | (simp only [List.length_drop, List.length_take]; rfl)) ?_; (with_reducible refine (impl_copyStore.calls k a0_0 _ _ l0_1 t167 t168 _ ?side1 ?side2 A8.out).mono ?_); (case side1 => repeat (first | exact (Kd.C_below HR0_1.out HB.out) | (with_reducible refine Kd.C_alloc ?_ _) | (with_reducible refine Kd.C_drewN ?_ _) | (with_reducible refine Kd.C_drew ?_))); (case side2 => exact HC0_1.out); rintro e w24 ⟨v169, rfl, ho0, hb⟩; refine ⟨_, rfl, ?_⟩; have n0_ := Aside0.mk (Kd.S_lower ho0 (below_size (by repeat (first | (with_reducible first | exact HB.out | apply below_alloc | apply pw_below_drewN | apply below_drew1 | refine below_set ?_ GE164.out) | exact HB.out)))); have n1_ := Aside0.mk (blk_below (g := gb164) (o := .cells #[.int .i64 a0_0, .slice A0_1 l0_1.length c0_1] 24 (0, 0)) (by (with_reducible repeat (first | refine blk_drewN ?_ _ | refine blk_drew ?_ | refine blk_alloc ?_ _)); exact BK164.out) hb); have n2_ := Aside0.mk (below_step (by repeat (first | (with_reducible first | exact HB.out | apply below_alloc | apply pw_below_drewN | apply below_drew1 | refine below_set ?_ GE164.out) | exact HB.out)) hb); clear BK164; clear HB; have HO170 := n0_; have BK164 := n1_; have HB := n2_; clear n0_ n1_ n2_; (try clear hb); (try clear hb2); (try clear hk); (try clear hi); (try clear ho0)) | ((with_reducible refine gate_dst (N := 5) rfl ?_); (try (refine gate_guard (by rfl) ?_; dsimp only)); refine box_event ?hg (N := 5) ?hd (cs := #[.int .i64 0, .slice none 0 0]) (t := 24) ?hr ?_; (case hd => rfl); (case hg => rfl); (case hr => first | (go_simp; done) | (go_simp; rfl)); intro gb171 hg w25 hbox hb; have n0_ := Aside0.mk (Kd.S_below (by (with_reducible repeat (first | apply Kd.S_alloc | apply Kd.S_drewN | apply Kd.S_drew)); exact HO170.out) hb); have n1_ := Aside0.mk (blk_below (g := gb164) (o := .cells #[.int .i64 a0_0, .slice A0_1 l0_1.length c0_1] 24 (0, 0)) (by (with_reducible repeat (first | refine blk_drewN ?_ _ | refine blk_drew ?_ | refine blk_alloc ?_ _)); exact BK164.out) hb); have n2_ := Aside0.mk (below_step (by repeat (first | (with_reducible first | exact HB.out | apply below_alloc | apply pw_below_drewN | apply below_drew1 | refine below_set ?_ GE164.out) | exact HB.out)) hb); have n3_ := Aside0.mk (hbox); have n4_ := Aside0.mk ((by rw [hg]; exact (below_size (by repeat (first | (with_reducible first | exact HB.out | apply below_alloc | apply pw_below_drewN | apply below_drew1 | refine below_set ?_ GE164.out) | exact HB.out))) : w.heap.size ≤ gb171)); have n5_ := Aside0.mk ((by rw [hg]; exact (below_size (by repeat (first | (with_reducible first | exact HB.out | apply below_alloc | apply pw_below_drewN | apply below_drew1 | refine below_set ?_ GE164.out) | exact HB.out))) : w.heap.size ≤ gb171)); have n6_ := Aside0.mk ((by rw [hg]; exact Nat.ne_of_lt (blk_lt (g := gb164) (o := .cells #[.int .i64 a0_0, .slice A0_1 l0_1.length c0_1] 24 (0, 0)) (by (with_reducible repeat (first | refine blk_drewN ?_ _ | refine blk_drew ?_ | refine blk_alloc ?_ _)); exact BK164.out)) : gb164 ≠ gb171)); have n7_ := Aside0.mk ((by rw [hg]; exact Nat.ne_of_gt (blk_lt (g := gb164) (o := .cells #[.int .i64 a0_0, .slice A0_1 l0_1.length c0_1] 24 (0, 0)) (by (with_reducible repeat (first | refine blk_drewN ?_ _ | refine blk_drew ?_ | refine blk_alloc ?_ _)); exact BK164.out)) : gb171 ≠ gb164)); clear HO170; clear BK164; clear HB; have HO170 := n0_; have BK164 := n1_; have HB := n2_; have BK171 := n3_; have GW171 := n4_; have GE171 := n5_; have NB164_171 := n6_; have NB171_164 := n7_; clear n0_ n1_ n2_ n3_ n4_ n5_ n6_ n7_; clear hb hbox hg; have hnb26 := NB171_164.out; have hnc26 := NB164_171.out; have hcz27_0 : w25.cell? ⟨gb171, 0, none⟩ = some (.int .i64 0) := (blk_cell BK171.out 0).trans rfl; have hcz27_1 : w25.cell? ⟨gb171, 1, none⟩ = some (.slice none 0 0) := (blk_cell BK171.out 1).trans rfl; have hfz27_0 := blk_frozen BK171.out 0; have hfz27_1 := blk_frozen BK171.out 1; obtain ⟨Ao28, co28, eo28⟩ := Kd.S_slice HO170.out; subst eo28) | ((with_reducible refine gate_store (t := 24) (p := 5) rfl ?_); refine store_event (t := 24) (p := 5) (v := ?vo_w29) (w1 := ((w25.setCell ⟨gb171, 0, none⟩ (.int .i64 t167)).setCell ⟨gb171, 1, none⟩ (.slice Ao28 t168.length co28))) ?hg ?ho ?hn ?hr ?_; (case ho => rfl); (case hg => rfl); (case hn => rfl); (case hr => first | (go_simp; done) | (go_simp; rfl)); intro w29 hw; have n0_ : Aside0 (Kd.S (Kd.slice 30 k30) 28 w29 w.heap.size (fun _ => True) (.slice Ao28 t168.length co28) t168) := ⟨(by rw [hw]; exact (by (with_reducible repeat (first | apply Kd.S_alloc | apply Kd.S_drewN | apply Kd.S_drew)); exact Kd.S_mono (Kd.S_far (p := ⟨gb171, 1, none⟩) (Kd.S_far (p := ⟨gb171, 0, none⟩) (Kd.S_types HO170.out BK171.out (by decide)) (fun _ hk => hk.2) (.int .i64 t167)) (fun _ hk => hk.2) (.slice Ao28 t168.length co28)) (fun _ hk => trivial)))⟩; have n1_ : Aside0 (w29.heap[gb164]? = some (.cells #[.int .i64 a0_0, .slice A0_1 l0_1.length c0_1] 24 (0, 0))) := ⟨(by rw [hw]; exact (by (with_reducible repeat (first | refine blk_drewN ?_ _ | refine blk_drew ?_ | refine blk_alloc ?_ _)); refine blk_far ?_ NB164_171.out _; (with_reducible repeat (first | refine blk_drewN ?_ _ | refine blk_drew ?_ | refine blk_alloc ?_ _)); refine blk_far ?_ NB164_171.out _; (with_reducible repeat (first | refine blk_drewN ?_ _ | refine blk_drew ?_ | refine blk_alloc ?_ _)); exact BK164.out))⟩; have n2_ : Aside0 (w29.heap[gb171]? = some (.cells #[.int .i64 t167, .slice Ao28 t168.length co28] 24 (0, 0))) := ⟨(by rw [hw]; exact (by (with_reducible repeat (first | refine blk_drewN ?_ _ | refine blk_drew ?_ | refine blk_alloc ?_ _)); refine blk_put (cs := #[.int .i64 t167, .slice none 0 0]) ?_ 1 _ rfl; (with_reducible repeat (first | refine blk_drewN ?_ _ | refine blk_drew ?_ | refine blk_alloc ?_ _)); refine blk_put (cs := #[.int .i64 0, .slice none 0 0]) ?_ 0 _ rfl; (with_reducible repeat (first | refine blk_drewN ?_ _ | refine blk_drew ?_ | refine blk_alloc ?_ _)); exact BK171.out))⟩; have n3_ : Aside0 (Below w.heap.size w w29) := ⟨(by rw [hw]; exact (by repeat (first | (with_reducible first | exact HB.out | apply below_alloc | apply pw_below_drewN | apply below_drew1 | refine below_set ?_ GE164.out | refine below_set ?_ GE171.out) | exact HB.out)))⟩; clear hw; clear HO170; clear BK164; clear BK171; clear HB; have HO170 := n0_; have BK164 := n1_; have BK171 := n2_; have HB := n3_; clear n0_ n1_ n2_ n3_; have hcz30_0 : w29.cell? ⟨gb171, 0, none⟩ = some (.int .i64 t167) := (blk_cell BK171.out 0).trans rfl; have hcz30_1 : w29.cell? ⟨gb171, 1, none⟩ = some (.slice Ao28 t168.length co28) := (blk_cell BK171.out 1).trans rfl; have hfz30_0 := blk_frozen BK171.out 0; have hfz30_1 := blk_frozen BK171.out 1; have p172 : 0 ≤ (t166 : Int) := of_decide_eq_true (by first | (with_reducible assumption) | assumption); have q172 : t166 < (t168.length : Int) := of_decide_eq_true (by first | (with_reducible assumption) | assumption); obtain ⟨ad172, A172_0, c172_0, e172, hx172_0, hl172_0, hi172_0⟩ := at_L2 (Kd.S_reads' HO170.out).2.2 t166 p172 q172; cases e172; obtain ⟨ce172, hce172, hMe172, hcc172⟩ := Kd.S_get HO170.out [] t166 p172 (by first | exact q172 | exact of_decide_eq_true (by first | (with_reducible assumption) | assumption) | (have e_ := (Kd.S_reads' HO170.out).1; omega)); obtain ⟨ve172_0, rfl, ge172_0⟩ := hMe172; have hv172_0 := hcc172 0 _ rfl; rw [Nat.add_zero, show ((Kd.slice 30 k30)).sz = 1 from rfl, Nat.mul_one] at hv172_0; replace hv172_0 := Option.some.inj (hv172_0.symm.trans hx172_0); rw [hv172_0] at ge172_0; have HL172_0 := Aside0.mk (show Kd.R k30 30 _ _ _ _ (rd_L2 t168 t166) from ge172_0); clear hv172_0 ge172_0; have HX172_0 := Aside0.mk hx172_0; clear hcc172 hce172; have HR172_0 := Aside0.mk hi172_0; have HC172_0 := Aside0.mk hl172_0; clear hi172_0 hl172_0; replace p172 := eq_true p172; replace q172 := eq_true q172; have p173 : 0 ≤ ((ji11) : Int) := of_decide_eq_true (by first | (with_reducible assumption) | assumption); have q173 : (ji11) < ((rd_L2 t168 t166).length : Int) := of_decide_eq_true (by first | (with_reducible assumption) | assumption); obtain ⟨ad173, e173, hx173_0, hx173_1⟩ := at_T30 (by repeat (first | (with_reducible exact HR172_0.out) | (with_reducible refine Kd.C_alloc ?_ _) | (with_reducible refine Kd.C_drewN ?_ _) | (with_reducible refine Kd.C_drew ?_) | exact HR172_0.out)) (ji11) p173 q173; cases e173; replace p173 := eq_true p173; replace q173 := eq_true q173; have q31 : ((ji11) : Int) ≤ (((rd_L2 t168 t166).length : Int) : Int) := of_decide_eq_true (by first | (with_reducible assumption) | assumption); obtain ⟨i031, hi031, _, hsz31, _⟩ := info_parts info30; have hroom31 : (rd_L2 t168 t166).length ≤ c172_0 := HC172_0.out; have hC31 : Kd.C k30 _ (some ad173) (rd_L2 t168 t166).length (rd_L2 t168 t166) := (by repeat (first | (with_reducible exact HR172_0.out) | (with_reducible refine Kd.C_alloc ?_ _) | (with_reducible refine Kd.C_drewN ?_ _) | (with_reducible refine Kd.C_drew ?_) | exact HR172_0.out)); have hcut31 := cut_to (P := Try.prog) 28 30 .i64 Try.underlying28 hi031 (some ad173) (rd_L2 t168 t166).length c172_0 (ji11) (of_decide_eq_true (by first | (with_reducible assumption) | assumption)) q31 hroom31; have hr31 := Kd.C_take (m := ((ji11) : Int).toNat) hC31 (by omega); have hy31 : y174.length = ((ji11) : Int).toNat := (by rw [Ny174.out, List.length_take]; omega); rw [← Ny174.out] at hr31; rw [← hy31] at hcut31; have HR177 := Aside0.mk hr31; have HC177 := Aside0.mk (show y174.length ≤ c172_0 from by omega); clear hr31 hC31 hroom31 hi031 hsz31; have KY31 := Aside0.mk hy31; clear hy31; replace q31 := eq_true q31; have p15 : 0 ≤ (t166 : Int) := of_decide_eq_true (by first | (with_reducible assumption) | assumption); have q15 : (t166 : Int) < ((t168.length : Int) : Int) := of_decide_eq_true (by first | (with_reducible assumption) | assumption); obtain ⟨go15, co15, eo15, gb15, gl15, cl15, HG15⟩ := Kd.S_form HO170.out (by omega); (first | cases eo15 | (injection eo15 with ea_ en_ ec_; (first | subst ea_ | (injection ea_ with ea_; subst ea_)); subst ec_; clear en_)); have GB15 := Aside0.mk gb15; have GG15 := Aside0.mk HG15; clear gb15 gl15 HG15; (first | simp only [add_plain] at hx172_0 | skip); obtain ⟨_, ce15, hcl15, hM15, hcc15, hfr15, _, _⟩ := Kd.S_elem HO170.out [] (t166 : Int) p15 q15; obtain ⟨ve15_0, rfl, ge15_0⟩ := hM15; have hx15_0 := hcc15 0 _ rfl; have hf15_0 := hfr15 0; (try simp only [show ((Kd.slice 30 k30)).sz = 1 from rfl, Nat.mul_one, Nat.add_zero] at hx15_0); (try simp only [show ((Kd.slice 30 k30)).sz = 1 from rfl, Nat.mul_one, Nat.add_zero] at hf15_0); clear hcl15 hcc15 hfr15; (try clear hM15); replace p15 := eq_true p15; replace q15 := eq_true q15; have HX32 := Aside0.mk (show Kd.S (Kd.slice 30 k30) 28 w29 w.heap.size (fun k_ => ((fun _ => True)) k_ ∧ ¬ ((fun _ => False)) k_) (.slice (some ⟨go15, 0, none⟩) t168.length co28) t168 from (by (with_reducible repeat (first | apply Kd.S_alloc | apply Kd.S_drewN | apply Kd.S_drew)); exact Kd.S_mono HO170.out (fun k_ hk => ⟨trivial, fun e_ => e_⟩))); obtain ⟨oki32, ce32, hcl32, hM32, hcc32, hfr32, hoki32, hH32⟩ := Kd.S_elem HX32.out [] (t166 : Int) (of_decide_eq_true (by first | (with_reducible assumption) | assumption)) (by have h_ : (t166 : Int) < ((t168.length : Int) : Int) := of_decide_eq_true (by first | (with_reducible assumption) | assumption); first | exact h_ | (have e_ := (Kd.S_reads' HO170.out).1; omega) | simpa using h_); obtain ⟨ve32_0, rfl, ge32_0⟩ := hM32; have hv32 := hcc32 0 _ rfl; have hX32 := HX172_0.out; (try simp only [add_plain] at hX32); (try simp only [Nat.add_zero] at hv32); (try rw [show ((Kd.slice 30 k30)).sz = 1 from rfl, Nat.mul_one] at hv32); replace hv32 := Option.some.inj (hv32.symm.trans hX32); subst hv32; clear hX32; have PC32_0 := Aside0.mk (show Kd.R k30 30 w29 w.heap.size oki32 (.slice (some ad173) y174.length c172_0) y174 from by rw [KY31.out, Ny174.out]; exact Kd.R_take ge32_0 (by have h_ := of_eq_true q31; omega)); have HP32 := Kd.S_seg hH32 (of_decide_eq_true (by first | (with_reducible assumption) | assumption)) (by have h_ : (t166 : Int) < ((t168.length : Int) : Int) := of_decide_eq_true (by first | (with_reducible assumption) | assumption); first | exact h_ | (have e_ := (Kd.S_reads' HO170.out).1; omega) | simpa using h_) (seg := [.slice (some ad173) y174.length c172_0]) (j := 0) (show 1 ≤ 1 from by decide) (x' := y174) (Kd.M_row (Kd.R_mono PC32_0.out (fun _ h_ => Or.inl h_))) (fun _ hk => hk) (fun k_ hk_ => hk_.elim); have hx32_0 := hcc32 0 _ rfl; (try simp only [show ((Kd.slice 30 k30)).sz = 1 from rfl, Nat.mul_one, Nat.add_zero] at hx32_0); have hf32_0 := hfr32 0; (try simp only [show ((Kd.slice 30 k30)).sz = 1 from rfl, Nat.mul_one, Nat.add_zero] at hf32_0); clear hcl32 hcc32 hfr32 hoki32 hH32; (try clear hM32); (try simp only [show ((Kd.slice 30 k30)).sz = 1 from rfl, Nat.mul_one, Nat.add_zero] at HP32)) | (go_at_call 75; refine (pop_calls (b := gb171) (deep := t167) (g := go15) (n := t168.length) (cap := co28) (lane := t166) (H := (ji11)) (k := ((rd_L2 t168 t166).length)) (c := c172_0) (m := y174.length) _ (by (with_reducible repeat (first | refine blk_drewN ?_ _ | refine blk_drew ?_ | refine blk_alloc ?_ _)); exact BK171.out) (of_decide_eq_true (by first | (with_reducible assumption) | assumption)) (of_decide_eq_true (by first | (with_reducible assumption) | assumption)) (by first | exact hx32_0 | simpa using hx32_0) (by first | exact hf32_0 | simpa using hf32_0) (by first | rfl | assumption | exact Eq.symm (by assumption)) (of_decide_eq_true (by first | (with_reducible assumption) | assumption)) (of_decide_eq_true (by first | (with_reducible assumption) | assumption)) HC172_0.out (by first | exact hx173_0 | simpa using hx173_0) (by first | exact hx173_1 | simpa using hx173_1) KY31.out).mono ?_; rintro e w33 ⟨rfl, hg0_, hw0_⟩; have hg : w29.grownBy w33 (some go15) := hg0_; have hp_ : Kd.S (Kd.slice 30 k30) 28 w33 w.heap.size (fun _ => True) (.slice (some ⟨go15, 0, none⟩) t168.length co28) y178 := (by rw [Ny178.out]; exact Opens.pop_S HP32.1 hw0_); have hw := hw0_; clear hw0_ hg0_; clear HP32; have n0_ := Aside0.mk (blk_grown (g := gb164) (o := .cells #[.int .i64 a0_0, .slice A0_1 l0_1.length c0_1] 24 (0, 0)) (by (with_reducible repeat (first | refine blk_drewN ?_ _ | refine blk_drew ?_ | refine blk_alloc ?_ _)); exact BK164.out) hg (Kd.S_ne HO170.out BK164.out (by decide))); have n1_ := Aside0.mk (hp_); have n2_ := Aside0.mk (blk_grown (g := gb171) (o := .cells #[.int .i64 t167, .slice (some ⟨go15, 0, none⟩) t168.length co28] 24 (0, 0)) (by (with_reducible repeat (first | refine blk_drewN ?_ _ | refine blk_drew ?_ | refine blk_alloc ?_ _)); exact BK171.out) hg (Kd.S_ne HO170.out BK171.out (by decide))); have n3_ := Aside0.mk (Kd.R_after (v := (.slice (some ⟨go15, 0, none⟩) t168.length co28)) (v1 := (.slice (some ⟨go15, 0, none⟩) t168.length co28)) (ok := (fun _ => True)) (by (with_reducible repeat (first | apply Kd.R_alloc | apply Kd.R_drewN | apply Kd.R_drew)); exact HL172_0.out) hg (.inl rfl)); have n4_ := Aside0.mk ((Opens.below_of_grown (by repeat (first | (with_reducible first | exact HB.out | apply below_alloc | apply pw_below_drewN | apply below_drew1 | refine below_set ?_ GE164.out | refine below_set ?_ GE171.out) | exact HB.out)) hg GB15.out)); clear BK164; clear HO170; clear BK171; clear HL172_0; clear HB; have BK164 := n0_; have HO170 := n1_; have BK171 := n2_; have HL172_0 := n3_; have HB := n4_; clear n0_ n1_ n2_ n3_ n4_; clear hg hw hp_) | ((with_reducible refine gate_dst (N := 6) rfl ?_); (try (refine gate_guard (by rfl) ?_; dsimp only)); refine box_event ?hg (N := 6) ?hd (cs := #[.int .i64 0, .int .i64 0]) (t := 30) ?hr ?_; (case hd => rfl); (case hg => rfl); (case hr => first | (go_simp; done) | (go_simp; rfl)); intro gb179 hg w34 hbox hb; have n0_ := Aside0.mk (Kd.S_below (Kd.S_elderB (by (with_reducible repeat (first | apply Kd.S_alloc | apply Kd.S_drewN | apply Kd.S_drew)); exact HO170.out) gb179 (Nat.le_of_eq hg.symm)) hb); have n1_ := Aside0.mk (Kd.R_below (Kd.R_elderB (by (with_reducible repeat (first | apply Kd.R_alloc | apply Kd.R_drewN | apply Kd.R_drew)); exact HL172_0.out) gb179 (Nat.le_of_eq hg.symm)) hb); have n2_ := Aside0.mk (blk_below (g := gb164) (o := .cells #[.int .i64 a0_0, .slice A0_1 l0_1.length c0_1] 24 (0, 0)) (by (with_reducible repeat (first | refine blk_drewN ?_ _ | refine blk_drew ?_ | refine blk_alloc ?_ _)); exact BK164.out) hb); have n3_ := Aside0.mk (blk_below (g := gb171) (o := .cells #[.int .i64 t167, .slice (some ⟨go15, 0, none⟩) t168.length co28] 24 (0, 0)) (by (with_reducible repeat (first | refine blk_drewN ?_ _ | refine blk_drew ?_ | refine blk_alloc ?_ _)); exact BK171.out) hb); have n4_ := Aside0.mk (below_step (by repeat (first | (with_reducible first | exact HB.out | apply below_alloc | apply pw_below_drewN | apply below_drew1 | refine below_set ?_ GE164.out | refine below_set ?_ GE171.out) | exact HB.out)) hb); have n5_ := Aside0.mk (hbox); have n6_ := Aside0.mk ((by rw [hg]; exact (below_size (by repeat (first | (with_reducible first | exact HB.out | apply below_alloc | apply pw_below_drewN | apply below_drew1 | refine below_set ?_ GE164.out | refine below_set ?_ GE171.out) | exact HB.out))) : w.heap.size ≤ gb179)); have n7_ := Aside0.mk ((by rw [hg]; exact (below_size (by repeat (first | (with_reducible first | exact HB.out | apply below_alloc | apply pw_below_drewN | apply below_drew1 | refine below_set ?_ GE164.out | refine below_set ?_ GE171.out) | exact HB.out))) : w.heap.size ≤ gb179)); have n8_ := Aside0.mk ((by rw [hg]; exact Nat.ne_of_lt (blk_lt (g := gb164) (o := .cells #[.int .i64 a0_0, .slice A0_1 l0_1.length c0_1] 24 (0, 0)) (by (with_reducible repeat (first | refine blk_drewN ?_ _ | refine blk_drew ?_ | refine blk_alloc ?_ _)); exact BK164.out)) : gb164 ≠ gb179)); have n9_ := Aside0.mk ((by rw [hg]; exact Nat.ne_of_gt (blk_lt (g := gb164) (o := .cells #[.int .i64 a0_0, .slice A0_1 l0_1.length c0_1] 24 (0, 0)) (by (with_reducible repeat (first | refine blk_drewN ?_ _ | refine blk_drew ?_ | refine blk_alloc ?_ _)); exact BK164.out)) : gb179 ≠ gb164)); have n10_ := Aside0.mk ((by rw [hg]; exact Nat.ne_of_lt (blk_lt (g := gb171) (o := .cells #[.int .i64 t167, .slice (some ⟨go15, 0, none⟩) t168.length co28] 24 (0, 0)) (by (with_reducible repeat (first | refine blk_drewN ?_ _ | refine blk_drew ?_ | refine blk_alloc ?_ _)); exact BK171.out)) : gb171 ≠ gb179)); have n11_ := Aside0.mk ((by rw [hg]; exact Nat.ne_of_gt (blk_lt (g := gb171) (o := .cells #[.int .i64 t167, .slice (some ⟨go15, 0, none⟩) t168.length co28] 24 (0, 0)) (by (with_reducible repeat (first | refine blk_drewN ?_ _ | refine blk_drew ?_ | refine blk_alloc ?_ _)); exact BK171.out)) : gb179 ≠ gb171)); clear HO170; clear HL172_0; clear BK164; clear BK171; clear HB; have HO170 := n0_; have HL172_0 := n1_; have BK164 := n2_; have BK171 := n3_; have HB := n4_; have BK179 := n5_; have GW179 := n6_; have GE179 := n7_; have NB164_179 := n8_; have NB179_164 := n9_; have NB171_179 := n10_; have NB179_171 := n11_; clear n0_ n1_ n2_ n3_ n4_ n5_ n6_ n7_ n8_ n9_ n10_ n11_; clear hb hbox hg; have hnb35 := NB179_164.out; have hnc35 := NB164_179.out; have hnb36 := NB179_171.out; have hnc36 := NB171_179.out; have hcz37_0 : w34.cell? ⟨gb179, 0, none⟩ = some (.int .i64 0) := (blk_cell BK179.out 0).trans rfl; have hcz37_1 : w34.cell? ⟨gb179, 1, none⟩ = some (.int .i64 0) := (blk_cell BK179.out 1).trans rfl; have hfz37_0 := blk_frozen BK179.out 0; have hfz37_1 := blk_frozen BK179.out 1; have hcz38_0 : w34.cell? ⟨gb171, 0, none⟩ = some (.int .i64 t167) := (blk_cell BK171.out 0).trans rfl; have hcz38_1 : w34.cell? ⟨gb171, 1, none⟩ = some (.slice (some ⟨go15, 0, none⟩) t168.length co28) := (blk_cell BK171.out 1).trans rfl; have hfz38_0 := blk_frozen BK171.out 0; have hfz38_1 := blk_frozen BK171.out 1) | ((with_reducible refine gate_callee (f := 51) rfl ?_); refine goesL_ (some 27) rfl rfl Try.func51 (by kernel_rfl) rfl #[.agg #[.int .i64 t167, .slice (some ⟨go15, 0, none⟩) y178.length co28]] rfl (by (try simp only [List.map_toArray, List.map_cons, List.map_nil]); first | done | (rw [show y178.length = t168.length from (Kd.S_reads' HO170.out).1.symm] <;> rfl) | rfl | (simp only [List.length_drop, List.length_take]; rfl)) ?_; (with_reducible refine (ih k (by omega) t167 _ _ y178 t180 _ ?side1 ?side2 A17.out).mono ?_); (case side1 => refine (Kd.S_reads' (e := 28) (base := w.heap.size) (ok := fun k_ => (True ∧ k_ ≠ gb179)) (n := t168.length) (c := co28) ?_).2.2; exact (by (with_reducible repeat (first | apply Kd.S_alloc | apply Kd.S_drewN | apply Kd.S_drew)); exact (Kd.S_mono (Kd.S_far (p := ⟨gb179, 1, none⟩) (Kd.S_far (p := ⟨gb179, 0, none⟩) (Kd.S_mono HO170.out (fun k_ hk => (⟨hk, hk.2⟩ : _ ∧ k_ ≠ gb179))) (fun _ hk => hk.2) (.int .i64 ((rd_T30 (rd_L2 t168 t166) (ji11)).f0))) (fun _ hk => hk.2) (.int .i64 ((rd_T30 (rd_L2 t168 t166) (ji11)).f1))) (fun _ h_ => h_.1)))); (case side2 => rw [show y178.length = t168.length from (Kd.S_reads' HO170.out).1.symm]; exact (Kd.S_reads' HO170.out).2.1); rintro e w39 ⟨rfl, hb⟩; refine ⟨_, rfl, ?_⟩; have n0_ := Aside0.mk (Kd.S_below (by (with_reducible repeat (first | apply Kd.S_alloc | apply Kd.S_drewN | apply Kd.S_drew)); exact (Kd.S_mono (Kd.S_far (p := ⟨gb179, 1, none⟩) (Kd.S_far (p := ⟨gb179, 0, none⟩) (Kd.S_mono HO170.out (fun k_ hk => (⟨hk, hk.2⟩ : _ ∧ k_ ≠ gb179))) (fun _ hk => hk.2) (.int .i64 ((rd_T30 (rd_L2 t168 t166) (ji11)).f0))) (fun _ hk => hk.2) (.int .i64 ((rd_T30 (rd_L2 t168 t166) (ji11)).f1))) (fun _ h_ => h_.1))) hb); have n1_ := Aside0.mk (Kd.R_below (by (with_reducible repeat (first | apply Kd.R_alloc | apply Kd.R_drewN | apply Kd.R_drew)); exact (Kd.R_mono (Kd.R_far (p := ⟨gb179, 1, none⟩) (Kd.R_far (p := ⟨gb179, 0, none⟩) (Kd.R_mono HL172_0.out (fun k_ hk => (⟨hk, hk.2⟩ : _ ∧ k_ ≠ gb179))) (fun _ hk => hk.2) (.int .i64 ((rd_T30 (rd_L2 t168 t166) (ji11)).f0))) (fun _ hk => hk.2) (.int .i64 ((rd_T30 (rd_L2 t168 t166) (ji11)).f1))) (fun _ h_ => h_.1))) hb); have n2_ := Aside0.mk (blk_below (g := gb164) (o := .cells #[.int .i64 a0_0, .slice A0_1 l0_1.length c0_1] 24 (0, 0)) (by (with_reducible repeat (first | refine blk_drewN ?_ _ | refine blk_drew ?_ | refine blk_alloc ?_ _)); refine blk_far ?_ NB164_179.out _; (with_reducible repeat (first | refine blk_drewN ?_ _ | refine blk_drew ?_ | refine blk_alloc ?_ _)); refine blk_far ?_ NB164_179.out _; (with_reducible repeat (first | refine blk_drewN ?_ _ | refine blk_drew ?_ | refine blk_alloc ?_ _)); exact BK164.out) hb); have n3_ := Aside0.mk (blk_below (g := gb171) (o := .cells #[.int .i64 t167, .slice (some ⟨go15, 0, none⟩) t168.length co28] 24 (0, 0)) (by (with_reducible repeat (first | refine blk_drewN ?_ _ | refine blk_drew ?_ | refine blk_alloc ?_ _)); refine blk_far ?_ NB171_179.out _; (with_reducible repeat (first | refine blk_drewN ?_ _ | refine blk_drew ?_ | refine blk_alloc ?_ _)); refine blk_far ?_ NB171_179.out _; (with_reducible repeat (first | refine blk_drewN ?_ _ | refine blk_drew ?_ | refine blk_alloc ?_ _)); exact BK171.out) hb); have n4_ := Aside0.mk (blk_below (g := gb179) (o := .cells #[.int .i64 ((rd_T30 (rd_L2 t168 t166) (ji11)).f0), .int .i64 ((rd_T30 (rd_L2 t168 t166) (ji11)).f1)] 30 (0, 0)) (by (with_reducible repeat (first | refine blk_drewN ?_ _ | refine blk_drew ?_ | refine blk_alloc ?_ _)); refine blk_put (cs := #[.int .i64 ((rd_T30 (rd_L2 t168 t166) (ji11)).f0), .int .i64 0]) ?_ 1 _ rfl; (with_reducible repeat (first | refine blk_drewN ?_ _ | refine blk_drew ?_ | refine blk_alloc ?_ _)); refine blk_put (cs := #[.int .i64 0, .int .i64 0]) ?_ 0 _ rfl; (with_reducible repeat (first | refine blk_drewN ?_ _ | refine blk_drew ?_ | refine blk_alloc ?_ _)); exact BK179.out) hb); have n5_ := Aside0.mk (below_step (by repeat (first | (with_reducible first | exact HB.out | apply below_alloc | apply pw_below_drewN | apply below_drew1 | refine below_set ?_ GE164.out | refine below_set ?_ GE171.out | refine below_set ?_ GE179.out) | exact HB.out)) hb); clear HO170; clear HL172_0; clear BK164; clear BK171; clear BK179; clear HB; have HO170 := n0_; have HL172_0 := n1_; have BK164 := n2_; have BK171 := n3_; have BK179 := n4_; have HB := n5_; clear n0_ n1_ n2_ n3_ n4_ n5_; (try clear hb); (try clear hb2); (try clear hk); (try clear hi)))
        go_ret
        exact ⟨by first | rfl | (simp [errW_none, errW_some] <;> rfl) | (simp only [← hji11]; first | rfl | (simp [errW_none, errW_some] <;> rfl)) | (simp [*, errW_none, errW_some] <;> rfl), by repeat (first | (with_reducible first | exact HB.out | apply below_alloc | apply pw_below_drewN | apply below_drew1 | refine below_set ?_ GE164.out | refine below_set ?_ GE171.out | refine below_set ?_ GE179.out) | exact HB.out)⟩
       ·rw [if_neg c16] at H
        have c16b0 : (((rd_T30 (rd_L2 t168 t166) (ji11)).f0) == t165) = false := beq_eq_false_iff_ne.mpr c16
        have c16b1 : (((rd_T30 (rd_L2 t168 t166) (ji11)).f0) != t165) = true := bne_iff_ne.mpr c16
        have H' := Aside0.mk H
        clear H
        go_enter Try.func51, Try.ntmps51
        go_wp2_with (first | ((with_reducible refine gate_dst (N := 1) rfl ?_); (try (refine gate_guard (by rfl) ?_; dsimp only)); refine box_event ?hg (N := 1) ?hd (cs := #[.int .i64 a0_0, .slice A0_1 l0_1.length c0_1]) (t := 24) ?hr ?_; (case hd => rfl); (case hg => rfl); (case hr => first | (go_simp; done) | (go_simp; rfl)); intro gb164 hg w40 hbox hb; have n0_ := Aside0.mk (below_step (by repeat (first | (with_reducible first | exact HB.out | apply below_alloc | apply pw_below_drewN | apply below_drew1) | exact HB.out)) hb); have n1_ := Aside0.mk (hbox); have n2_ := Aside0.mk ((by rw [hg]; exact (below_size (by repeat (first | (with_reducible first | exact HB.out | apply below_alloc | apply pw_below_drewN | apply below_drew1) | exact HB.out))) : w.heap.size ≤ gb164)); have n3_ := Aside0.mk ((by rw [hg]; exact (below_size (by repeat (first | (with_reducible first | exact HB.out | apply below_alloc | apply pw_below_drewN | apply below_drew1) | exact HB.out))) : w.heap.size ≤ gb164)); clear HB; have HB := n0_; have BK164 := n1_; have GW164 := n2_; have GE164 := n3_; clear n0_ n1_ n2_ n3_; clear hb hbox hg; have hcz41_0 : w40.cell? ⟨gb164, 0, none⟩ = some (.int .i64 a0_0) := (blk_cell BK164.out 0).trans rfl; have hcz41_1 : w40.cell? ⟨gb164, 1, none⟩ = some (.slice A0_1 l0_1.length c0_1) := (blk_cell BK164.out 1).trans rfl; have hfz41_0 := blk_frozen BK164.out 0; have hfz41_1 := blk_frozen BK164.out 1) | ((with_reducible refine gate_callee (f := 60) rfl ?_); refine goesL_ (some 12) rfl rfl Try.func60 (by kernel_rfl) rfl #[.agg #[.int .i64 a0_0, .slice A0_1 l0_1.length c0_1]] rfl (by (try simp only [List.map_toArray, List.map_cons, List.map_nil]); first | done | rfl | (simp only [List.length_drop, List.length_take]; rfl)) ?_; (with_reducible refine (impl_nextOut.calls k a0_0 _ _ l0_1 t165 _ ?side1 ?side2 A2.out).mono ?_); (case side1 => repeat (first | exact (Kd.C_below HR0_1.out HB.out) | (with_reducible refine Kd.C_alloc ?_ _) | (with_reducible refine Kd.C_drewN ?_ _) | (with_reducible refine Kd.C_drew ?_))); (case side2 => exact HC0_1.out); rintro e w42 ⟨rfl, hb⟩; refine ⟨_, rfl, ?_⟩; have n0_ := Aside0.mk (blk_below (g := gb164) (o := .cells #[.int .i64 a0_0, .slice A0_1 l0_1.length c0_1] 24 (0, 0)) (by (with_reducible repeat (first | refine blk_drewN ?_ _ | refine blk_drew ?_ | refine blk_alloc ?_ _)); exact BK164.out) hb); have n1_ := Aside0.mk (below_step (by repeat (first | (with_reducible first | exact HB.out | apply below_alloc | apply pw_below_drewN | apply below_drew1 | refine below_set ?_ GE164.out) | exact HB.out)) hb); clear BK164; clear HB; have BK164 := n0_; have HB := n1_; clear n0_ n1_; (try clear hb); (try clear hb2); (try clear hk); (try clear hi); have hcz43_0 : w42.cell? ⟨gb164, 0, none⟩ = some (.int .i64 a0_0) := (blk_cell BK164.out 0).trans rfl; have hcz43_1 : w42.cell? ⟨gb164, 1, none⟩ = some (.slice A0_1 l0_1.length c0_1) := (blk_cell BK164.out 1).trans rfl; have hfz43_0 := blk_frozen BK164.out 0; have hfz43_1 := blk_frozen BK164.out 1) | ((with_reducible refine gate_callee (f := 74) rfl ?_); refine goesL_ (some 17) rfl rfl Try.func74 (by kernel_rfl) rfl #[.agg #[.int .i64 a0_0, .slice A0_1 l0_1.length c0_1], .int .i64 t165] rfl (by (try simp only [List.map_toArray, List.map_cons, List.map_nil]); first | done | rfl | (simp only [List.length_drop, List.length_take]; rfl)) ?_; (with_reducible refine (impl_laneOf.calls a0_0 _ _ l0_1 t165 t166 _ ?side1 ?side2 A7.out).mono ?_); (case side1 => repeat (first | exact (Kd.C_below HR0_1.out HB.out) | (with_reducible refine Kd.C_alloc ?_ _) | (with_reducible refine Kd.C_drewN ?_ _) | (with_reducible refine Kd.C_drew ?_))); (case side2 => exact HC0_1.out); rintro e w44 ⟨rfl, hb⟩; refine ⟨_, rfl, ?_⟩; have n0_ := Aside0.mk (blk_below (g := gb164) (o := .cells #[.int .i64 a0_0, .slice A0_1 l0_1.length c0_1] 24 (0, 0)) (by (with_reducible repeat (first | refine blk_drewN ?_ _ | refine blk_drew ?_ | refine blk_alloc ?_ _)); exact BK164.out) hb); have n1_ := Aside0.mk (below_step (by repeat (first | (with_reducible first | exact HB.out | apply below_alloc | apply pw_below_drewN | apply below_drew1 | refine below_set ?_ GE164.out) | exact HB.out)) hb); clear BK164; clear HB; have BK164 := n0_; have HB := n1_; clear n0_ n1_; (try clear hb); (try clear hb2); (try clear hk); (try clear hi); have hcz45_0 : w44.cell? ⟨gb164, 0, none⟩ = some (.int .i64 a0_0) := (blk_cell BK164.out 0).trans rfl; have hcz45_1 : w44.cell? ⟨gb164, 1, none⟩ = some (.slice A0_1 l0_1.length c0_1) := (blk_cell BK164.out 1).trans rfl; have hfz45_0 := blk_frozen BK164.out 0; have hfz45_1 := blk_frozen BK164.out 1) | ((with_reducible refine gate_callee (f := 67) rfl ?_); refine goesL_ (some 19) rfl rfl Try.func67 (by kernel_rfl) rfl #[.agg #[.int .i64 a0_0, .slice A0_1 l0_1.length c0_1]] rfl (by (try simp only [List.map_toArray, List.map_cons, List.map_nil]); first | done | rfl | (simp only [List.length_drop, List.length_take]; rfl)) ?_; (with_reducible refine (impl_copyStore.calls k a0_0 _ _ l0_1 t167 t168 _ ?side1 ?side2 A8.out).mono ?_); (case side1 => repeat (first | exact (Kd.C_below HR0_1.out HB.out) | (with_reducible refine Kd.C_alloc ?_ _) | (with_reducible refine Kd.C_drewN ?_ _) | (with_reducible refine Kd.C_drew ?_))); (case side2 => exact HC0_1.out); rintro e w46 ⟨v169, rfl, ho0, hb⟩; refine ⟨_, rfl, ?_⟩; have n0_ := Aside0.mk (Kd.S_lower ho0 (below_size (by repeat (first | (with_reducible first | exact HB.out | apply below_alloc | apply pw_below_drewN | apply below_drew1 | refine below_set ?_ GE164.out) | exact HB.out)))); have n1_ := Aside0.mk (blk_below (g := gb164) (o := .cells #[.int .i64 a0_0, .slice A0_1 l0_1.length c0_1] 24 (0, 0)) (by (with_reducible repeat (first | refine blk_drewN ?_ _ | refine blk_drew ?_ | refine blk_alloc ?_ _)); exact BK164.out) hb); have n2_ := Aside0.mk (below_step (by repeat (first | (with_reducible first | exact HB.out | apply below_alloc | apply pw_below_drewN | apply below_drew1 | refine below_set ?_ GE164.out) | exact HB.out)) hb); clear BK164; clear HB; have HO170 := n0_; have BK164 := n1_; have HB := n2_; clear n0_ n1_ n2_; (try clear hb); (try clear hb2); (try clear hk); (try clear hi); (try clear ho0)) | ((with_reducible refine gate_dst (N := 5) rfl ?_); (try (refine gate_guard (by rfl) ?_; dsimp only)); refine box_event ?hg (N := 5) ?hd (cs := #[.int .i64 0, .slice none 0 0]) (t := 24) ?hr ?_; (case hd => rfl); (case hg => rfl); (case hr => first | (go_simp; done) | (go_simp; rfl)); intro gb171 hg w47 hbox hb; have n0_ := Aside0.mk (Kd.S_below (by (with_reducible repeat (first | apply Kd.S_alloc | apply Kd.S_drewN | apply Kd.S_drew)); exact HO170.out) hb); have n1_ := Aside0.mk (blk_below (g := gb164) (o := .cells #[.int .i64 a0_0, .slice A0_1 l0_1.length c0_1] 24 (0, 0)) (by (with_reducible repeat (first | refine blk_drewN ?_ _ | refine blk_drew ?_ | refine blk_alloc ?_ _)); exact BK164.out) hb); have n2_ := Aside0.mk (below_step (by repeat (first | (with_reducible first | exact HB.out | apply below_alloc | apply pw_below_drewN | apply below_drew1 | refine below_set ?_ GE164.out) | exact HB.out)) hb); have n3_ := Aside0.mk (hbox); have n4_ := Aside0.mk ((by rw [hg]; exact (below_size (by repeat (first | (with_reducible first | exact HB.out | apply below_alloc | apply pw_below_drewN | apply below_drew1 | refine below_set ?_ GE164.out) | exact HB.out))) : w.heap.size ≤ gb171)); have n5_ := Aside0.mk ((by rw [hg]; exact (below_size (by repeat (first | (with_reducible first | exact HB.out | apply below_alloc | apply pw_below_drewN | apply below_drew1 | refine below_set ?_ GE164.out) | exact HB.out))) : w.heap.size ≤ gb171)); have n6_ := Aside0.mk ((by rw [hg]; exact Nat.ne_of_lt (blk_lt (g := gb164) (o := .cells #[.int .i64 a0_0, .slice A0_1 l0_1.length c0_1] 24 (0, 0)) (by (with_reducible repeat (first | refine blk_drewN ?_ _ | refine blk_drew ?_ | refine blk_alloc ?_ _)); exact BK164.out)) : gb164 ≠ gb171)); have n7_ := Aside0.mk ((by rw [hg]; exact Nat.ne_of_gt (blk_lt (g := gb164) (o := .cells #[.int .i64 a0_0, .slice A0_1 l0_1.length c0_1] 24 (0, 0)) (by (with_reducible repeat (first | refine blk_drewN ?_ _ | refine blk_drew ?_ | refine blk_alloc ?_ _)); exact BK164.out)) : gb171 ≠ gb164)); clear HO170; clear BK164; clear HB; have HO170 := n0_; have BK164 := n1_; have HB := n2_; have BK171 := n3_; have GW171 := n4_; have GE171 := n5_; have NB164_171 := n6_; have NB171_164 := n7_; clear n0_ n1_ n2_ n3_ n4_ n5_ n6_ n7_; clear hb hbox hg; have hnb48 := NB171_164.out; have hnc48 := NB164_171.out; have hcz49_0 : w47.cell? ⟨gb171, 0, none⟩ = some (.int .i64 0) := (blk_cell BK171.out 0).trans rfl; have hcz49_1 : w47.cell? ⟨gb171, 1, none⟩ = some (.slice none 0 0) := (blk_cell BK171.out 1).trans rfl; have hfz49_0 := blk_frozen BK171.out 0; have hfz49_1 := blk_frozen BK171.out 1; obtain ⟨Ao50, co50, eo50⟩ := Kd.S_slice HO170.out; subst eo50) | ((with_reducible refine gate_store (t := 24) (p := 5) rfl ?_); refine store_event (t := 24) (p := 5) (v := ?vo_w51) (w1 := ((w47.setCell ⟨gb171, 0, none⟩ (.int .i64 t167)).setCell ⟨gb171, 1, none⟩ (.slice Ao50 t168.length co50))) ?hg ?ho ?hn ?hr ?_; (case ho => rfl); (case hg => rfl); (case hn => rfl); (case hr => first | (go_simp; done) | (go_simp; rfl)); intro w51 hw; have n0_ : Aside0 (Kd.S (Kd.slice 30 k30) 28 w51 w.heap.size (fun _ => True) (.slice Ao50 t168.length co50) t168) := ⟨(by rw [hw]; exact (by (with_reducible repeat (first | apply Kd.S_alloc | apply Kd.S_drewN | apply Kd.S_drew)); exact Kd.S_mono (Kd.S_far (p := ⟨gb171, 1, none⟩) (Kd.S_far (p := ⟨gb171, 0, none⟩) (Kd.S_types HO170.out BK171.out (by decide)) (fun _ hk => hk.2) (.int .i64 t167)) (fun _ hk => hk.2) (.slice Ao50 t168.length co50)) (fun _ hk => trivial)))⟩; have n1_ : Aside0 (w51.heap[gb164]? = some (.cells #[.int .i64 a0_0, .slice A0_1 l0_1.length c0_1] 24 (0, 0))) := ⟨(by rw [hw]; exact (by (with_reducible repeat (first | refine blk_drewN ?_ _ | refine blk_drew ?_ | refine blk_alloc ?_ _)); refine blk_far ?_ NB164_171.out _; (with_reducible repeat (first | refine blk_drewN ?_ _ | refine blk_drew ?_ | refine blk_alloc ?_ _)); refine blk_far ?_ NB164_171.out _; (with_reducible repeat (first | refine blk_drewN ?_ _ | refine blk_drew ?_ | refine blk_alloc ?_ _)); exact BK164.out))⟩; have n2_ : Aside0 (w51.heap[gb171]? = some (.cells #[.int .i64 t167, .slice Ao50 t168.length co50] 24 (0, 0))) := ⟨(by rw [hw]; exact (by (with_reducible repeat (first | refine blk_drewN ?_ _ | refine blk_drew ?_ | refine blk_alloc ?_ _)); refine blk_put (cs := #[.int .i64 t167, .slice none 0 0]) ?_ 1 _ rfl; (with_reducible repeat (first | refine blk_drewN ?_ _ | refine blk_drew ?_ | refine blk_alloc ?_ _)); refine blk_put (cs := #[.int .i64 0, .slice none 0 0]) ?_ 0 _ rfl; (with_reducible repeat (first | refine blk_drewN ?_ _ | refine blk_drew ?_ | refine blk_alloc ?_ _)); exact BK171.out))⟩; have n3_ : Aside0 (Below w.heap.size w w51) := ⟨(by rw [hw]; exact (by repeat (first | (with_reducible first | exact HB.out | apply below_alloc | apply pw_below_drewN | apply below_drew1 | refine below_set ?_ GE164.out | refine below_set ?_ GE171.out) | exact HB.out)))⟩; clear hw; clear HO170; clear BK164; clear BK171; clear HB; have HO170 := n0_; have BK164 := n1_; have BK171 := n2_; have HB := n3_; clear n0_ n1_ n2_ n3_; have hcz52_0 : w51.cell? ⟨gb171, 0, none⟩ = some (.int .i64 t167) := (blk_cell BK171.out 0).trans rfl; have hcz52_1 : w51.cell? ⟨gb171, 1, none⟩ = some (.slice Ao50 t168.length co50) := (blk_cell BK171.out 1).trans rfl; have hfz52_0 := blk_frozen BK171.out 0; have hfz52_1 := blk_frozen BK171.out 1; have p172 : 0 ≤ (t166 : Int) := of_decide_eq_true (by first | (with_reducible assumption) | assumption); have q172 : t166 < (t168.length : Int) := of_decide_eq_true (by first | (with_reducible assumption) | assumption); obtain ⟨ad172, A172_0, c172_0, e172, hx172_0, hl172_0, hi172_0⟩ := at_L2 (Kd.S_reads' HO170.out).2.2 t166 p172 q172; cases e172; obtain ⟨ce172, hce172, hMe172, hcc172⟩ := Kd.S_get HO170.out [] t166 p172 (by first | exact q172 | exact of_decide_eq_true (by first | (with_reducible assumption) | assumption) | (have e_ := (Kd.S_reads' HO170.out).1; omega)); obtain ⟨ve172_0, rfl, ge172_0⟩ := hMe172; have hv172_0 := hcc172 0 _ rfl; rw [Nat.add_zero, show ((Kd.slice 30 k30)).sz = 1 from rfl, Nat.mul_one] at hv172_0; replace hv172_0 := Option.some.inj (hv172_0.symm.trans hx172_0); rw [hv172_0] at ge172_0; have HL172_0 := Aside0.mk (show Kd.R k30 30 _ _ _ _ (rd_L2 t168 t166) from ge172_0); clear hv172_0 ge172_0; have HX172_0 := Aside0.mk hx172_0; clear hcc172 hce172; have HR172_0 := Aside0.mk hi172_0; have HC172_0 := Aside0.mk hl172_0; clear hi172_0 hl172_0; replace p172 := eq_true p172; replace q172 := eq_true q172; have p173 : 0 ≤ ((ji11) : Int) := of_decide_eq_true (by first | (with_reducible assumption) | assumption); have q173 : (ji11) < ((rd_L2 t168 t166).length : Int) := of_decide_eq_true (by first | (with_reducible assumption) | assumption); obtain ⟨ad173, e173, hx173_0, hx173_1⟩ := at_T30 (by repeat (first | (with_reducible exact HR172_0.out) | (with_reducible refine Kd.C_alloc ?_ _) | (with_reducible refine Kd.C_drewN ?_ _) | (with_reducible refine Kd.C_drew ?_) | exact HR172_0.out)) (ji11) p173 q173; cases e173; replace p173 := eq_true p173; replace q173 := eq_true q173; have q53 : ((ji11) : Int) ≤ (((rd_L2 t168 t166).length : Int) : Int) := of_decide_eq_true (by first | (with_reducible assumption) | assumption); obtain ⟨i053, hi053, _, hsz53, _⟩ := info_parts info30; have hroom53 : (rd_L2 t168 t166).length ≤ c172_0 := HC172_0.out; have hC53 : Kd.C k30 _ (some ad173) (rd_L2 t168 t166).length (rd_L2 t168 t166) := (by repeat (first | (with_reducible exact HR172_0.out) | (with_reducible refine Kd.C_alloc ?_ _) | (with_reducible refine Kd.C_drewN ?_ _) | (with_reducible refine Kd.C_drew ?_) | exact HR172_0.out)); have hcut53 := cut_to (P := Try.prog) 28 30 .i64 Try.underlying28 hi053 (some ad173) (rd_L2 t168 t166).length c172_0 (ji11) (of_decide_eq_true (by first | (with_reducible assumption) | assumption)) q53 hroom53; have hr53 := Kd.C_take (m := ((ji11) : Int).toNat) hC53 (by omega); have hy53 : y174.length = ((ji11) : Int).toNat := (by rw [Ny174.out, List.length_take]; omega); rw [← Ny174.out] at hr53; rw [← hy53] at hcut53; have HR177 := Aside0.mk hr53; have HC177 := Aside0.mk (show y174.length ≤ c172_0 from by omega); clear hr53 hC53 hroom53 hi053 hsz53; have KY53 := Aside0.mk hy53; clear hy53; replace q53 := eq_true q53; have p15 : 0 ≤ (t166 : Int) := of_decide_eq_true (by first | (with_reducible assumption) | assumption); have q15 : (t166 : Int) < ((t168.length : Int) : Int) := of_decide_eq_true (by first | (with_reducible assumption) | assumption); obtain ⟨go15, co15, eo15, gb15, gl15, cl15, HG15⟩ := Kd.S_form HO170.out (by omega); (first | cases eo15 | (injection eo15 with ea_ en_ ec_; (first | subst ea_ | (injection ea_ with ea_; subst ea_)); subst ec_; clear en_)); have GB15 := Aside0.mk gb15; have GG15 := Aside0.mk HG15; clear gb15 gl15 HG15; (first | simp only [add_plain] at hx172_0 | skip); obtain ⟨_, ce15, hcl15, hM15, hcc15, hfr15, _, _⟩ := Kd.S_elem HO170.out [] (t166 : Int) p15 q15; obtain ⟨ve15_0, rfl, ge15_0⟩ := hM15; have hx15_0 := hcc15 0 _ rfl; have hf15_0 := hfr15 0; (try simp only [show ((Kd.slice 30 k30)).sz = 1 from rfl, Nat.mul_one, Nat.add_zero] at hx15_0); (try simp only [show ((Kd.slice 30 k30)).sz = 1 from rfl, Nat.mul_one, Nat.add_zero] at hf15_0); clear hcl15 hcc15 hfr15; (try clear hM15); replace p15 := eq_true p15; replace q15 := eq_true q15; have HX54 := Aside0.mk (show Kd.S (Kd.slice 30 k30) 28 w51 w.heap.size (fun k_ => ((fun _ => True)) k_ ∧ ¬ ((fun _ => False)) k_) (.slice (some ⟨go15, 0, none⟩) t168.length co50) t168 from (by (with_reducible repeat (first | apply Kd.S_alloc | apply Kd.S_drewN | apply Kd.S_drew)); exact Kd.S_mono HO170.out (fun k_ hk => ⟨trivial, fun e_ => e_⟩))); obtain ⟨oki54, ce54, hcl54, hM54, hcc54, hfr54, hoki54, hH54⟩ := Kd.S_elem HX54.out [] (t166 : Int) (of_decide_eq_true (by first | (with_reducible assumption) | assumption)) (by have h_ : (t166 : Int) < ((t168.length : Int) : Int) := of_decide_eq_true (by first | (with_reducible assumption) | assumption); first | exact h_ | (have e_ := (Kd.S_reads' HO170.out).1; omega) | simpa using h_); obtain ⟨ve54_0, rfl, ge54_0⟩ := hM54; have hv54 := hcc54 0 _ rfl; have hX54 := HX172_0.out; (try simp only [add_plain] at hX54); (try simp only [Nat.add_zero] at hv54); (try rw [show ((Kd.slice 30 k30)).sz = 1 from rfl, Nat.mul_one] at hv54); replace hv54 := Option.some.inj (hv54.symm.trans hX54); subst hv54; clear hX54; have PC54_0 := Aside0.mk (show Kd.R k30 30 w51 w.heap.size oki54 (.slice (some ad173) y174.length c172_0) y174 from by rw [KY53.out, Ny174.out]; exact Kd.R_take ge54_0 (by have h_ := of_eq_true q53; omega)); have HP54 := Kd.S_seg hH54 (of_decide_eq_true (by first | (with_reducible assumption) | assumption)) (by have h_ : (t166 : Int) < ((t168.length : Int) : Int) := of_decide_eq_true (by first | (with_reducible assumption) | assumption); first | exact h_ | (have e_ := (Kd.S_reads' HO170.out).1; omega) | simpa using h_) (seg := [.slice (some ad173) y174.length c172_0]) (j := 0) (show 1 ≤ 1 from by decide) (x' := y174) (Kd.M_row (Kd.R_mono PC54_0.out (fun _ h_ => Or.inl h_))) (fun _ hk => hk) (fun k_ hk_ => hk_.elim); have hx54_0 := hcc54 0 _ rfl; (try simp only [show ((Kd.slice 30 k30)).sz = 1 from rfl, Nat.mul_one, Nat.add_zero] at hx54_0); have hf54_0 := hfr54 0; (try simp only [show ((Kd.slice 30 k30)).sz = 1 from rfl, Nat.mul_one, Nat.add_zero] at hf54_0); clear hcl54 hcc54 hfr54 hoki54 hH54; (try clear hM54); (try simp only [show ((Kd.slice 30 k30)).sz = 1 from rfl, Nat.mul_one, Nat.add_zero] at HP54)) | (go_at_call 75; refine (pop_calls (b := gb171) (deep := t167) (g := go15) (n := t168.length) (cap := co50) (lane := t166) (H := (ji11)) (k := ((rd_L2 t168 t166).length)) (c := c172_0) (m := y174.length) _ (by (with_reducible repeat (first | refine blk_drewN ?_ _ | refine blk_drew ?_ | refine blk_alloc ?_ _)); exact BK171.out) (of_decide_eq_true (by first | (with_reducible assumption) | assumption)) (of_decide_eq_true (by first | (with_reducible assumption) | assumption)) (by first | exact hx54_0 | simpa using hx54_0) (by first | exact hf54_0 | simpa using hf54_0) (by first | rfl | assumption | exact Eq.symm (by assumption)) (of_decide_eq_true (by first | (with_reducible assumption) | assumption)) (of_decide_eq_true (by first | (with_reducible assumption) | assumption)) HC172_0.out (by first | exact hx173_0 | simpa using hx173_0) (by first | exact hx173_1 | simpa using hx173_1) KY53.out).mono ?_; rintro e w55 ⟨rfl, hg0_, hw0_⟩; have hg : w51.grownBy w55 (some go15) := hg0_; have hp_ : Kd.S (Kd.slice 30 k30) 28 w55 w.heap.size (fun _ => True) (.slice (some ⟨go15, 0, none⟩) t168.length co50) y178 := (by rw [Ny178.out]; exact Opens.pop_S HP54.1 hw0_); have hw := hw0_; clear hw0_ hg0_; clear HP54; have n0_ := Aside0.mk (blk_grown (g := gb164) (o := .cells #[.int .i64 a0_0, .slice A0_1 l0_1.length c0_1] 24 (0, 0)) (by (with_reducible repeat (first | refine blk_drewN ?_ _ | refine blk_drew ?_ | refine blk_alloc ?_ _)); exact BK164.out) hg (Kd.S_ne HO170.out BK164.out (by decide))); have n1_ := Aside0.mk (hp_); have n2_ := Aside0.mk (blk_grown (g := gb171) (o := .cells #[.int .i64 t167, .slice (some ⟨go15, 0, none⟩) t168.length co50] 24 (0, 0)) (by (with_reducible repeat (first | refine blk_drewN ?_ _ | refine blk_drew ?_ | refine blk_alloc ?_ _)); exact BK171.out) hg (Kd.S_ne HO170.out BK171.out (by decide))); have n3_ := Aside0.mk (Kd.R_after (v := (.slice (some ⟨go15, 0, none⟩) t168.length co50)) (v1 := (.slice (some ⟨go15, 0, none⟩) t168.length co50)) (ok := (fun _ => True)) (by (with_reducible repeat (first | apply Kd.R_alloc | apply Kd.R_drewN | apply Kd.R_drew)); exact HL172_0.out) hg (.inl rfl)); have n4_ := Aside0.mk ((Opens.below_of_grown (by repeat (first | (with_reducible first | exact HB.out | apply below_alloc | apply pw_below_drewN | apply below_drew1 | refine below_set ?_ GE164.out | refine below_set ?_ GE171.out) | exact HB.out)) hg GB15.out)); clear BK164; clear HO170; clear BK171; clear HL172_0; clear HB; have BK164 := n0_; have HO170 := n1_; have BK171 := n2_; have HL172_0 := n3_; have HB := n4_; clear n0_ n1_ n2_ n3_ n4_; clear hg hw hp_) | ((with_reducible refine gate_dst (N := 6) rfl ?_); (try (refine gate_guard (by rfl) ?_; dsimp only)); refine box_event ?hg (N := 6) ?hd (cs := #[.int .i64 0, .int .i64 0]) (t := 30) ?hr ?_; (case hd => rfl); (case hg => rfl); (case hr => first | (go_simp; done) | (go_simp; rfl)); intro gb179 hg w56 hbox hb; have n0_ := Aside0.mk (Kd.S_below (Kd.S_elderB (by (with_reducible repeat (first | apply Kd.S_alloc | apply Kd.S_drewN | apply Kd.S_drew)); exact HO170.out) gb179 (Nat.le_of_eq hg.symm)) hb); have n1_ := Aside0.mk (Kd.R_below (Kd.R_elderB (by (with_reducible repeat (first | apply Kd.R_alloc | apply Kd.R_drewN | apply Kd.R_drew)); exact HL172_0.out) gb179 (Nat.le_of_eq hg.symm)) hb); have n2_ := Aside0.mk (blk_below (g := gb164) (o := .cells #[.int .i64 a0_0, .slice A0_1 l0_1.length c0_1] 24 (0, 0)) (by (with_reducible repeat (first | refine blk_drewN ?_ _ | refine blk_drew ?_ | refine blk_alloc ?_ _)); exact BK164.out) hb); have n3_ := Aside0.mk (blk_below (g := gb171) (o := .cells #[.int .i64 t167, .slice (some ⟨go15, 0, none⟩) t168.length co50] 24 (0, 0)) (by (with_reducible repeat (first | refine blk_drewN ?_ _ | refine blk_drew ?_ | refine blk_alloc ?_ _)); exact BK171.out) hb); have n4_ := Aside0.mk (below_step (by repeat (first | (with_reducible first | exact HB.out | apply below_alloc | apply pw_below_drewN | apply below_drew1 | refine below_set ?_ GE164.out | refine below_set ?_ GE171.out) | exact HB.out)) hb); have n5_ := Aside0.mk (hbox); have n6_ := Aside0.mk ((by rw [hg]; exact (below_size (by repeat (first | (with_reducible first | exact HB.out | apply below_alloc | apply pw_below_drewN | apply below_drew1 | refine below_set ?_ GE164.out | refine below_set ?_ GE171.out) | exact HB.out))) : w.heap.size ≤ gb179)); have n7_ := Aside0.mk ((by rw [hg]; exact (below_size (by repeat (first | (with_reducible first | exact HB.out | apply below_alloc | apply pw_below_drewN | apply below_drew1 | refine below_set ?_ GE164.out | refine below_set ?_ GE171.out) | exact HB.out))) : w.heap.size ≤ gb179)); have n8_ := Aside0.mk ((by rw [hg]; exact Nat.ne_of_lt (blk_lt (g := gb164) (o := .cells #[.int .i64 a0_0, .slice A0_1 l0_1.length c0_1] 24 (0, 0)) (by (with_reducible repeat (first | refine blk_drewN ?_ _ | refine blk_drew ?_ | refine blk_alloc ?_ _)); exact BK164.out)) : gb164 ≠ gb179)); have n9_ := Aside0.mk ((by rw [hg]; exact Nat.ne_of_gt (blk_lt (g := gb164) (o := .cells #[.int .i64 a0_0, .slice A0_1 l0_1.length c0_1] 24 (0, 0)) (by (with_reducible repeat (first | refine blk_drewN ?_ _ | refine blk_drew ?_ | refine blk_alloc ?_ _)); exact BK164.out)) : gb179 ≠ gb164)); have n10_ := Aside0.mk ((by rw [hg]; exact Nat.ne_of_lt (blk_lt (g := gb171) (o := .cells #[.int .i64 t167, .slice (some ⟨go15, 0, none⟩) t168.length co50] 24 (0, 0)) (by (with_reducible repeat (first | refine blk_drewN ?_ _ | refine blk_drew ?_ | refine blk_alloc ?_ _)); exact BK171.out)) : gb171 ≠ gb179)); have n11_ := Aside0.mk ((by rw [hg]; exact Nat.ne_of_gt (blk_lt (g := gb171) (o := .cells #[.int .i64 t167, .slice (some ⟨go15, 0, none⟩) t168.length co50] 24 (0, 0)) (by (with_reducible repeat (first | refine blk_drewN ?_ _ | refine blk_drew ?_ | refine blk_alloc ?_ _)); exact BK171.out)) : gb179 ≠ gb171)); clear HO170; clear HL172_0; clear BK164; clear BK171; clear HB; have HO170 := n0_; have HL172_0 := n1_; have BK164 := n2_; have BK171 := n3_; have HB := n4_; have BK179 := n5_; have GW179 := n6_; have GE179 := n7_; have NB164_179 := n8_; have NB179_164 := n9_; have NB171_179 := n10_; have NB179_171 := n11_; clear n0_ n1_ n2_ n3_ n4_ n5_ n6_ n7_ n8_ n9_ n10_ n11_; clear hb hbox hg; have hnb57 := NB179_164.out; have hnc57 := NB164_179.out; have hnb58 := NB179_171.out; have hnc58 := NB171_179.out; have hcz59_0 : w56.cell? ⟨gb179, 0, none⟩ = some (.int .i64 0) := (blk_cell BK179.out 0).trans rfl; have hcz59_1 : w56.cell? ⟨gb179, 1, none⟩ = some (.int .i64 0) := (blk_cell BK179.out 1).trans rfl; have hfz59_0 := blk_frozen BK179.out 0; have hfz59_1 := blk_frozen BK179.out 1; have hcz60_0 : w56.cell? ⟨gb171, 0, none⟩ = some (.int .i64 t167) := (blk_cell BK171.out 0).trans rfl; have hcz60_1 : w56.cell? ⟨gb171, 1, none⟩ = some (.slice (some ⟨go15, 0, none⟩) t168.length co50) := (blk_cell BK171.out 1).trans rfl; have hfz60_0 := blk_frozen BK171.out 0; have hfz60_1 := blk_frozen BK171.out 1))
        go_loopg [7, 31] k (fun kq v7 v31 w' => ∃ (x7_1 : Int) (x31_1 : Int) (x172001_1 : List (List (S30))) (u172001 : Value), v7 = .int .i64 x7_1 ∧ v31 = .int .i64 x31_1 ∧ Aside0 (impl_leastHops.l0 kq t166 x7_1 (t168.length : Int) x31_1 a0_0 l0_1 t167 x172001_1 ((rd_T30 (rd_L2 t168 t166) (ji11)).f0) ((rd_T30 (rd_L2 t168 t166) (ji11)).f1) = some r) ∧ Aside0 (kq ≤ k) ∧ Aside0 (Kd.S (Kd.slice 30 k30) 28 w' w.heap.size (fun k_ => k_ ≠ gb179) u172001 x172001_1) ∧ Aside0 (w'.heap[gb164]? = some (.cells #[.int .i64 a0_0, (.slice A0_1 l0_1.length c0_1)] 24 (0, 0))) ∧ Aside0 (w'.heap[gb171]? = some (.cells #[.int .i64 t167, u172001] 24 (0, 0))) ∧ Aside0 (w'.heap[gb179]? = some (.cells #[.int .i64 ((rd_T30 (rd_L2 t168 t166) (ji11)).f0), .int .i64 ((rd_T30 (rd_L2 t168 t166) (ji11)).f1)] 30 (0, 0))) ∧ Aside0 (Below w.heap.size w w'))
        case atStart => exact ⟨((-1)), (0), (y178), (.slice (some ⟨go15, 0, none⟩) t168.length co50), (by first | rfl | (simp; done) | (simp [*]; done)), (by first | rfl | (simp; done) | (simp [*]; done)), H', ⟨Nat.le_refl _⟩, ⟨by (with_reducible repeat (first | apply Kd.S_alloc | apply Kd.S_drewN | apply Kd.S_drew)); exact Kd.S_mono (Kd.S_far (p := ⟨gb179, 1, none⟩) (Kd.S_far (p := ⟨gb179, 0, none⟩) (Kd.S_mono HO170.out (fun k_ hk => (⟨hk, hk.2⟩ : _ ∧ k_ ≠ gb179))) (fun _ hk => hk.2) (.int .i64 ((rd_T30 (rd_L2 t168 t166) (ji11)).f0))) (fun _ hk => hk.2) (.int .i64 ((rd_T30 (rd_L2 t168 t166) (ji11)).f1))) (fun _ hk => hk.1.2)⟩, ⟨by (with_reducible repeat (first | refine blk_drewN ?_ _ | refine blk_drew ?_ | refine blk_alloc ?_ _)); refine blk_far ?_ NB164_179.out _; (with_reducible repeat (first | refine blk_drewN ?_ _ | refine blk_drew ?_ | refine blk_alloc ?_ _)); refine blk_far ?_ NB164_179.out _; (with_reducible repeat (first | refine blk_drewN ?_ _ | refine blk_drew ?_ | refine blk_alloc ?_ _)); exact BK164.out⟩, ⟨by (with_reducible repeat (first | refine blk_drewN ?_ _ | refine blk_drew ?_ | refine blk_alloc ?_ _)); refine blk_far ?_ NB171_179.out _; (with_reducible repeat (first | refine blk_drewN ?_ _ | refine blk_drew ?_ | refine blk_alloc ?_ _)); refine blk_far ?_ NB171_179.out _; (with_reducible repeat (first | refine blk_drewN ?_ _ | refine blk_drew ?_ | refine blk_alloc ?_ _)); exact BK171.out⟩, ⟨by (with_reducible repeat (first | refine blk_drewN ?_ _ | refine blk_drew ?_ | refine blk_alloc ?_ _)); refine blk_put (cs := #[.int .i64 ((rd_T30 (rd_L2 t168 t166) (ji11)).f0), .int .i64 0]) ?_ 1 _ rfl; (with_reducible repeat (first | refine blk_drewN ?_ _ | refine blk_drew ?_ | refine blk_alloc ?_ _)); refine blk_put (cs := #[.int .i64 0, .int .i64 0]) ?_ 0 _ rfl; (with_reducible repeat (first | refine blk_drewN ?_ _ | refine blk_drew ?_ | refine blk_alloc ?_ _)); exact BK179.out⟩, ⟨by repeat (first | (with_reducible first | exact HB.out | apply below_alloc | apply pw_below_drewN | apply below_drew1 | refine below_set ?_ GE164.out | refine below_set ?_ GE171.out | refine below_set ?_ GE179.out) | exact HB.out)⟩⟩
        case round =>
         clear H'
         try clear c1
         try clear p1
         try clear q1
         try clear hx1
         try clear hf1
         try clear c2
         try clear p2
         try clear c3
         try clear c3b0
         try clear c3b1
         try clear q3
         try clear hx3
         try clear hf3
         try clear c4
         try clear c5
         try clear q5
         try clear hx5
         try clear hf5
         try clear c6
         try clear p6
         try clear c7
         try clear c9
         try clear c9b0
         try clear c10
         try clear c10b0
         try clear c12
         try clear c12b0
         try clear c13
         try clear c13b0
         try clear c14
         try clear c14b0
         try clear c14b1
         try clear c15
         try clear p15
         try clear q15
         try clear hx15
         try clear hf15
         try clear c16
         try clear c16b0
         try clear c16b1
         try clear c17
         try clear p17
         try clear q17
         try clear hx17
         try clear c26
         try clear q31
         try clear c32
         try clear hx32
         try clear hf32
         try clear c35
         try clear c36
         try clear c48
         try clear c51
         try clear q53
         try clear c54
         try clear hx54
         try clear hf54
         try clear c57
         try clear c58
         try clear c60
         try clear hcz19_0
         try clear hcz19_1
         try clear hcz21_0
         try clear hcz21_1
         try clear hcz23_0
         try clear hcz23_1
         try clear hcz27_0
         try clear hcz27_1
         try clear hcz30_0
         try clear hcz30_1
         try clear hcz37_0
         try clear hcz37_1
         try clear hcz38_0
         try clear hcz38_1
         try clear hcz41_0
         try clear hcz41_1
         try clear hcz43_0
         try clear hcz43_1
         try clear hcz45_0
         try clear hcz45_1
         try clear hcz49_0
         try clear hcz49_1
         try clear hcz52_0
         try clear hcz52_1
         try clear hcz59_0
         try clear hcz59_1
         try clear hcz5_0
         try clear hcz5_1
         try clear hcz60_0
         try clear hcz60_1
         try clear hfz19_0
         try clear hfz19_1
         try clear hfz21_0
         try clear hfz21_1
         try clear hfz23_0
         try clear hfz23_1
         try clear hfz27_0
         try clear hfz27_1
         try clear hfz30_0
         try clear hfz30_1
         try clear hfz37_0
         try clear hfz37_1
         try clear hfz38_0
         try clear hfz38_1
         try clear hfz41_0
         try clear hfz41_1
         try clear hfz43_0
         try clear hfz43_1
         try clear hfz45_0
         try clear hfz45_1
         try clear hfz49_0
         try clear hfz49_1
         try clear hfz52_0
         try clear hfz52_1
         try clear hfz59_0
         try clear hfz59_1
         try clear hfz5_0
         try clear hfz5_1
         try clear hfz60_0
         try clear hfz60_1
         try clear hx15_0
         try clear hx172_0
         try clear hx173_0
         try clear hx173_1
         try clear hx32_0
         try clear hx54_0
         try clear p15
         try clear p172
         try clear p173
         try clear q15
         try clear q172
         try clear q173
         try clear q31
         try clear q53
         obtain ⟨x7_1, x31_1, x172001_1, u172001, rfl, rfl, HA, HK1, HO_172001, BK164, BK171, BK179, HB⟩ := hrel
         cases gk with
         | zero => exact absurd HA.out (by simp [impl_leastHops.l0])
         | succ k1 =>
          have H := HA.out
          clear HA
          simp only [impl_leastHops.l0] at H
          by_cases c61 : x31_1 < (t168.length : Int)
          ·rw [if_pos c61] at H
           have c61b0 : decide (x31_1 < (t168.length : Int)) = true := decide_eq_true c61
           clear c61
           have HC62 := Aside0.mk H
           clear H
           go_upto_region 13 with (fail)
           go_cut [47] (fun v47 wc => ∃ (kq : Nat) (x47_61 : Bool), v47 = .bool x47_61 ∧ Aside0 (impl_leastHops.j1 kq t166 x7_1 x31_1 (t168.length : Int) x31_1 x47_61 a0_0 l0_1 t167 x172001_1 ((rd_T30 (rd_L2 t168 t166) (ji11)).f0) ((rd_T30 (rd_L2 t168 t166) (ji11)).f1) = some r) ∧ Aside0 (kq ≤ k1) ∧ Aside0 (Kd.S (Kd.slice 30 k30) 28 wc w.heap.size (fun k_ => k_ ≠ gb179) u172001 x172001_1) ∧ Aside0 (wc.heap[gb164]? = some (.cells #[.int .i64 a0_0, (.slice A0_1 l0_1.length c0_1)] 24 (0, 0))) ∧ Aside0 (wc.heap[gb171]? = some (.cells #[.int .i64 t167, u172001] 24 (0, 0))) ∧ Aside0 (wc.heap[gb179]? = some (.cells #[.int .i64 ((rd_T30 (rd_L2 t168 t166) (ji11)).f0), .int .i64 ((rd_T30 (rd_L2 t168 t166) (ji11)).f1)] 30 (0, 0))) ∧ Aside0 (Below w.heap.size w wc))
           case first =>
            have H := HC62.out
            clear HC62
            by_cases c63 : x31_1 = t166
            ·rw [if_pos c63] at H
             have c63b0 : (x31_1 == t166) = true := beq_iff_eq.mpr c63
             have c63b1 : (x31_1 != t166) = false := bne_eq_false_iff_eq.mpr c63
             clear c63
             (first | rw [c63b0] | (simp only [i64_w, i32_w]; rw [c63b0]) | skip)
             have H' := Aside0.mk H
             clear H
             try go_wp2
             have n0_ := Aside0.mk (Kd.S_drew HO_172001.out)
             have n1_ := Aside0.mk (blk_drew BK164.out)
             have n2_ := Aside0.mk (blk_drew BK171.out)
             have n3_ := Aside0.mk (blk_drew BK179.out)
             have n4_ := Aside0.mk (below_drew1 HB.out)
             clear HO_172001
             clear BK164
             clear BK171
             clear BK179
             clear HB
             have HO_172001 := n0_
             have BK164 := n1_
             have BK171 := n2_
             have BK179 := n3_
             have HB := n4_
             clear n0_ n1_ n2_ n3_ n4_
             refine start_ (n := 14) (S := fun w' => True) (ds := []) #[false, false, false, false, false, false, false, false, false, false, false, false, false, false] (by kernel_rfl) rfl rfl trivial (fun hHeld => ?_); refine with_tabW impl_leastHops.tab13 impl_leastHops.bits13 (fun HT_ HW_ => ?_)
             generalize wr.drew = w64 at HO_172001 BK164 BK171 BK179 HB hHeld ⊢
             refine pure_ (i := 0) (N := some 34) (v := ?_) (a' := ?_) #[true, false, false, false, false, false, false, false, false, false, false, false, false, false] rfl rfl (any_of HT_.out (by kernel_rfl)) (fun _ _ _ h => h) (Or.inl ⟨by rfl, ?_⟩) ?_ ?_
             rotate_left
             ·intro w'
              go_simp
              with_reducible rfl
             rotate_left
             ·simp only [Act.put, List.setIfInBounds_toArray, List.set_cons_zero, List.set_cons_succ, i64_w, i32_w]
              rfl
             refine pure_ (i := 1) (N := some 35) (v := ?_) (a' := ?_) #[true, true, false, false, false, false, false, false, false, false, false, false, false, false] rfl rfl (any_of HT_.out (by kernel_rfl)) (fun _ _ _ h => h) (Or.inl ⟨by rfl, ?_⟩) ?_ ?_
             rotate_left
             ·intro w'
              go_simp
              with_reducible rfl
             rotate_left
             ·simp only [Act.put, List.setIfInBounds_toArray, List.set_cons_zero, List.set_cons_succ, i64_w, i32_w]
              rfl
             refine pure_ (i := 2) (N := some 36) (v := ?_) (a' := ?_) #[true, true, true, false, false, false, false, false, false, false, false, false, false, false] rfl rfl (any_of HT_.out (by kernel_rfl)) (fun _ _ _ h => h) (Or.inl ⟨by rfl, ?_⟩) ?_ ?_
             rotate_left
             ·intro w'
              go_simp
              with_reducible rfl
             rotate_left
             ·simp only [Act.put, List.setIfInBounds_toArray, List.set_cons_zero, List.set_cons_succ, i64_w, i32_w]
              rfl
             refine pure_ (i := 3) (N := some 37) (v := ?_) (a' := ?_) #[true, true, true, true, false, false, false, false, false, false, false, false, false, false] rfl rfl (any_of HT_.out (by kernel_rfl)) (fun _ _ _ h => h) (Or.inl ⟨by rfl, ?_⟩) ?_ ?_
             rotate_left
             ·intro w'
              go_simp
              with_reducible rfl
             rotate_left
             ·simp only [Act.put, List.setIfInBounds_toArray, List.set_cons_zero, List.set_cons_succ, i64_w, i32_w]
              rfl
             refine pure_ (i := 4) (N := some 38) (v := undef) (a' := ?_) #[true, true, true, true, true, false, false, false, false, false, false, false, false, false] rfl rfl (any_of HT_.out (by kernel_rfl)) (fun _ _ _ h => h) (Or.inr ⟨by rfl, rfl⟩) ?_ ?_
             rotate_left
             ·simp only [Act.put, List.setIfInBounds_toArray, List.set_cons_zero, List.set_cons_succ, i64_w, i32_w]
              rfl
             refine pure_ (i := 5) (N := some 39) (v := undef) (a' := ?_) #[true, true, true, true, true, true, false, false, false, false, false, false, false, false] rfl rfl (any_of HT_.out (by kernel_rfl)) (fun _ _ _ h => h) (Or.inr ⟨by rfl, rfl⟩) ?_ ?_
             rotate_left
             ·simp only [Act.put, List.setIfInBounds_toArray, List.set_cons_zero, List.set_cons_succ, i64_w, i32_w]
              rfl
             refine pure_ (i := 6) (N := some 40) (v := undef) (a' := ?_) #[true, true, true, true, true, true, true, false, false, false, false, false, false, false] rfl rfl (any_of HT_.out (by kernel_rfl)) (fun _ _ _ h => h) (Or.inr ⟨by rfl, rfl⟩) ?_ ?_
             rotate_left
             ·simp only [Act.put, List.setIfInBounds_toArray, List.set_cons_zero, List.set_cons_succ, i64_w, i32_w]
              rfl
             refine pure_ (i := 7) (N := some 41) (v := undef) (a' := ?_) #[true, true, true, true, true, true, true, true, false, false, false, false, false, false] rfl rfl (any_of HT_.out (by kernel_rfl)) (fun _ _ _ h => h) (Or.inr ⟨by rfl, rfl⟩) ?_ ?_
             rotate_left
             ·simp only [Act.put, List.setIfInBounds_toArray, List.set_cons_zero, List.set_cons_succ, i64_w, i32_w]
              rfl
             refine pure_ (i := 8) (N := some 42) (v := undef) (a' := ?_) #[true, true, true, true, true, true, true, true, true, false, false, false, false, false] rfl rfl (any_of HT_.out (by kernel_rfl)) (fun _ _ _ h => h) (Or.inr ⟨by rfl, rfl⟩) ?_ ?_
             rotate_left
             ·simp only [Act.put, List.setIfInBounds_toArray, List.set_cons_zero, List.set_cons_succ, i64_w, i32_w]
              rfl
             refine pure_ (i := 9) (N := some 43) (v := undef) (a' := ?_) #[true, true, true, true, true, true, true, true, true, true, false, false, false, false] rfl rfl (any_of HT_.out (by kernel_rfl)) (fun _ _ _ h => h) (Or.inr ⟨by rfl, rfl⟩) ?_ ?_
             rotate_left
             ·simp only [Act.put, List.setIfInBounds_toArray, List.set_cons_zero, List.set_cons_succ, i64_w, i32_w]
              rfl
             refine pure_ (i := 10) (N := some 44) (v := undef) (a' := ?_) #[true, true, true, true, true, true, true, true, true, true, true, false, false, false] rfl rfl (any_of HT_.out (by kernel_rfl)) (fun _ _ _ h => h) (Or.inr ⟨by rfl, rfl⟩) ?_ ?_
             rotate_left
             ·simp only [Act.put, List.setIfInBounds_toArray, List.set_cons_zero, List.set_cons_succ, i64_w, i32_w]
              rfl
             refine pure_ (i := 11) (N := some 45) (v := undef) (a' := ?_) #[true, true, true, true, true, true, true, true, true, true, true, true, false, false] rfl rfl (any_of HT_.out (by kernel_rfl)) (fun _ _ _ h => h) (Or.inr ⟨by rfl, rfl⟩) ?_ ?_
             rotate_left
             ·simp only [Act.put, List.setIfInBounds_toArray, List.set_cons_zero, List.set_cons_succ, i64_w, i32_w]
              rfl
             refine pure_ (i := 12) (N := some 46) (v := undef) (a' := ?_) #[true, true, true, true, true, true, true, true, true, true, true, true, true, false] rfl rfl (any_of HT_.out (by kernel_rfl)) (fun _ _ _ h => h) (Or.inr ⟨by rfl, rfl⟩) ?_ ?_
             rotate_left
             ·simp only [Act.put, List.setIfInBounds_toArray, List.set_cons_zero, List.set_cons_succ, i64_w, i32_w]
              rfl
             refine pure_ (i := 13) (N := some 47) (v := ?_) (a' := ?_) #[true, true, true, true, true, true, true, true, true, true, true, true, true, true] rfl rfl (any_of HT_.out (by kernel_rfl)) (fun _ _ _ h => h) (Or.inl ⟨by rfl, ?_⟩) ?_ ?_
             rotate_left
             ·intro w'
              go_simp
              with_reducible rfl
             rotate_left
             ·simp only [Act.put, List.setIfInBounds_toArray, List.set_cons_zero, List.set_cons_succ, i64_w, i32_w]
              rfl
             refine done_ (done_of HT_.out (by kernel_rfl)) ?_
             try go_wp2
             go_meet
             case rel => exact ⟨_, (true), (by first | rfl | (simp; done) | (simp [*]; done)), H', ⟨by have := HK1.out; first | omega | exact Nat.le_refl _⟩, ⟨by (with_reducible repeat (first | apply Kd.S_alloc | apply Kd.S_drewN | apply Kd.S_drew)); exact HO_172001.out⟩, ⟨by (with_reducible repeat (first | refine blk_drewN ?_ _ | refine blk_drew ?_ | refine blk_alloc ?_ _)); exact BK164.out⟩, ⟨by (with_reducible repeat (first | refine blk_drewN ?_ _ | refine blk_drew ?_ | refine blk_alloc ?_ _)); exact BK171.out⟩, ⟨by (with_reducible repeat (first | refine blk_drewN ?_ _ | refine blk_drew ?_ | refine blk_alloc ?_ _)); exact BK179.out⟩, ⟨by repeat (first | (with_reducible first | exact HB.out | apply below_alloc | apply pw_below_drewN | apply below_drew1 | refine below_set ?_ GE164.out | refine below_set ?_ GE171.out | refine below_set ?_ GE179.out) | exact HB.out)⟩⟩
            ·rw [if_neg c63] at H
             have c63b0 : (x31_1 == t166) = false := beq_eq_false_iff_ne.mpr c63
             have c63b1 : (x31_1 != t166) = true := bne_iff_ne.mpr c63
             (first | rw [c63b0] | (simp only [i64_w, i32_w]; rw [c63b0]) | skip)
             by_cases c65 : 0 ≤ x31_1
             ·rw [if_pos c65] at H
              have c65b0 : decide (0 ≤ x31_1) = true := decide_eq_true c65
              clear c65
              by_cases c66 : x31_1 < (x172001_1.length : Int)
              ·rw [if_pos c66] at H
               have c66b0 : decide (x31_1 < (x172001_1.length : Int)) = true := decide_eq_true c66
               clear c66
               have H' := Aside0.mk H
               clear H
               try go_wp2
               have n0_ := Aside0.mk (Kd.S_drew HO_172001.out)
               have n1_ := Aside0.mk (blk_drew BK164.out)
               have n2_ := Aside0.mk (blk_drew BK171.out)
               have n3_ := Aside0.mk (blk_drew BK179.out)
               have n4_ := Aside0.mk (below_drew1 HB.out)
               clear HO_172001
               clear BK164
               clear BK171
               clear BK179
               clear HB
               have HO_172001 := n0_
               have BK164 := n1_
               have BK171 := n2_
               have BK179 := n3_
               have HB := n4_
               clear n0_ n1_ n2_ n3_ n4_
               obtain ⟨Ao68, co68, eo68⟩ := Kd.S_slice HO_172001.out
               (first | subst eo68 | (injection eo68 with f1_ f2_ f3_; have f4_ := f1_.symm; have f5_ := f3_.symm; clear f1_ f2_ f3_; subst f4_; subst f5_))
               have p181 : 0 ≤ (x31_1 : Int) := of_decide_eq_true (by first | (with_reducible assumption) | assumption)
               have q181 : x31_1 < (x172001_1.length : Int) := of_decide_eq_true (by first | (with_reducible assumption) | assumption)
               obtain ⟨ad181, A181_0, c181_0, e181, hx181_0, hl181_0, hi181_0⟩ := at_L2 (Kd.S_reads' HO_172001.out).2.2 x31_1 p181 q181
               cases e181
               obtain ⟨ce181, hce181, hMe181, hcc181⟩ := Kd.S_get HO_172001.out [] x31_1 p181 (by first | exact q181 | exact of_decide_eq_true (by first | (with_reducible assumption) | assumption) | (have e_ := (Kd.S_reads' HO_172001.out).1; omega))
               obtain ⟨ve181_0, rfl, ge181_0⟩ := hMe181
               have hv181_0 := hcc181 0 _ rfl
               rw [Nat.add_zero, show ((Kd.slice 30 k30)).sz = 1 from rfl, Nat.mul_one] at hv181_0
               replace hv181_0 := Option.some.inj (hv181_0.symm.trans hx181_0)
               rw [hv181_0] at ge181_0
               have HL181_0 := Aside0.mk (show Kd.R k30 30 _ _ _ _ (rd_L2 x172001_1 x31_1) from ge181_0)
               clear hv181_0 ge181_0
               have HX181_0 := Aside0.mk hx181_0
               clear hcc181 hce181
               have HR181_0 := Aside0.mk hi181_0
               have HC181_0 := Aside0.mk hl181_0
               clear hi181_0 hl181_0
               replace p181 := eq_true p181
               replace q181 := eq_true q181
               refine start_ (n := 14) (S := fun w' => w'.cell? ⟨gb171, 0, none⟩ = some (.int .i64 t167) ∧ w'.cell? ⟨gb171, 1, none⟩ = some (.slice (some ad181) x172001_1.length co68) ∧ w'.cell? ⟨gb164, 0, none⟩ = some (.int .i64 a0_0) ∧ w'.cell? ⟨gb164, 1, none⟩ = some (.slice A0_1 l0_1.length c0_1) ∧ w'.cell? (ad181.add (x31_1).toNat) = some (.slice A181_0 (rd_L2 x172001_1 x31_1).length c181_0)) (ds := []) #[false, false, false, false, false, false, false, false, false, false, false, false, false, false] (by kernel_rfl) rfl rfl ⟨(blk_cell BK171.out 0).trans rfl, (blk_cell BK171.out 1).trans rfl, (blk_cell BK164.out 0).trans rfl, (blk_cell BK164.out 1).trans rfl, hx181_0⟩ (fun hHeld => ?_); refine with_tabW impl_leastHops.tab13 impl_leastHops.bits13 (fun HT_ HW_ => ?_)
               generalize wr.drew = w67 at HO_172001 BK164 BK171 BK179 HB HL181_0 HR181_0 HX181_0 hx181_0 hHeld ⊢
               refine pure_ (i := 0) (N := some 34) (v := ?_) (a' := ?_) #[true, false, false, false, false, false, false, false, false, false, false, false, false, false] rfl rfl (any_of HT_.out (by kernel_rfl)) (fun _ _ _ h => h) (Or.inl ⟨by rfl, ?_⟩) ?_ ?_
               rotate_left
               ·intro w'
                go_simp
                with_reducible rfl
               rotate_left
               ·simp only [Act.put, List.setIfInBounds_toArray, List.set_cons_zero, List.set_cons_succ, i64_w, i32_w]
                rfl
               refine pure_ (i := 1) (N := some 35) (v := ?_) (a' := ?_) #[true, true, false, false, false, false, false, false, false, false, false, false, false, false] rfl rfl (any_of HT_.out (by kernel_rfl)) (fun _ _ _ h => h) (Or.inl ⟨by rfl, ?_⟩) ?_ ?_
               rotate_left
               ·intro w'
                go_simp
                with_reducible rfl
               rotate_left
               ·simp only [Act.put, List.setIfInBounds_toArray, List.set_cons_zero, List.set_cons_succ, i64_w, i32_w]
                rfl
               refine pure_ (i := 2) (N := some 36) (v := ?_) (a' := ?_) #[true, true, true, false, false, false, false, false, false, false, false, false, false, false] rfl rfl (any_of HT_.out (by kernel_rfl)) (fun _ _ _ h => h) (Or.inl ⟨by rfl, ?_⟩) ?_ ?_
               rotate_left
               ·intro w'
                go_simp
                with_reducible rfl
               rotate_left
               ·simp only [Act.put, List.setIfInBounds_toArray, List.set_cons_zero, List.set_cons_succ, i64_w, i32_w]
                rfl
               refine pure_ (i := 3) (N := some 37) (v := ?_) (a' := ?_) #[true, true, true, true, false, false, false, false, false, false, false, false, false, false] rfl rfl (any_of HT_.out (by kernel_rfl)) (fun _ _ _ h => h) (Or.inl ⟨by rfl, ?_⟩) ?_ ?_
               rotate_left
               ·intro w'
                go_simp
                with_reducible rfl
               rotate_left
               ·simp only [Act.put, List.setIfInBounds_toArray, List.set_cons_zero, List.set_cons_succ, i64_w, i32_w]
                rfl
               refine pure_ (i := 4) (N := some 38) (v := ?_) (a' := ?_) #[true, true, true, true, true, false, false, false, false, false, false, false, false, false] rfl rfl (any_of HT_.out (by kernel_rfl)) (fun _ _ _ h => h) (Or.inl ⟨by rfl, ?_⟩) ?_ ?_
               rotate_left
               ·intro w'
                go_simp
                with_reducible rfl
               rotate_left
               ·simp only [Act.put, List.setIfInBounds_toArray, List.set_cons_zero, List.set_cons_succ, i64_w, i32_w]
                rfl
               refine pure_ (i := 6) (N := some 40) (v := ?_) (a' := ?_) #[true, true, true, true, true, false, true, false, false, false, false, false, false, false] rfl rfl (any_of HT_.out (by kernel_rfl)) (fun _ _ _ h => h) (Or.inl ⟨by rfl, ?_⟩) ?_ ?_
               rotate_left
               ·intro w'
                go_simp
                with_reducible rfl
               rotate_left
               ·simp only [Act.put, List.setIfInBounds_toArray, List.set_cons_zero, List.set_cons_succ, i64_w, i32_w]
                rfl
               refine pure_ (i := 10) (N := some 44) (v := ?_) (a' := ?_) #[true, true, true, true, true, false, true, false, false, false, true, false, false, false] rfl rfl (any_of HT_.out (by kernel_rfl)) (fun _ _ _ h => h) (Or.inl ⟨by rfl, ?_⟩) ?_ ?_
               rotate_left
               ·intro w'
                go_simp
                with_reducible rfl
               rotate_left
               ·simp only [Act.put, List.setIfInBounds_toArray, List.set_cons_zero, List.set_cons_succ, i64_w, i32_w]
                rfl
               refine take_ (i := 5) (N := some 39) (v := ?_) (a' := ?_) #[true, true, true, true, true, true, true, false, false, false, true, false, false, false] rfl rfl (take_ofW HT_.out HW_.out (by kernel_rfl)) (fun _ _ _ h => h) (Or.inl ⟨by rfl, ?_⟩) hHeld ?_ ?_
               rotate_left
               ·rintro w' ⟨s0, s1, s2, s3, s4⟩
                go_simp
                with_reducible rfl
               rotate_left
               ·simp only [Act.put, List.setIfInBounds_toArray, List.set_cons_zero, List.set_cons_succ, i64_w, i32_w]
                rfl
               refine pure_ (i := 7) (N := some 41) (v := ?_) (a' := ?_) #[true, true, true, true, true, true, true, true, false, false, true, false, false, false] rfl rfl (any_of HT_.out (by kernel_rfl)) (fun _ _ _ h => h) (Or.inl ⟨by rfl, ?_⟩) ?_ ?_
               rotate_left
               ·intro w'
                go_simp
                with_reducible rfl
               rotate_left
               ·simp only [Act.put, List.setIfInBounds_toArray, List.set_cons_zero, List.set_cons_succ, i64_w, i32_w]
                rfl
               refine take_ (i := 8) (N := some 42) (v := ?_) (a' := ?_) #[true, true, true, true, true, true, true, true, true, false, true, false, false, false] rfl rfl (take_ofW HT_.out HW_.out (by kernel_rfl)) (fun _ _ _ h => h) (Or.inl ⟨by rfl, ?_⟩) hHeld ?_ ?_
               rotate_left
               ·rintro w' ⟨s0, s1, s2, s3, s4⟩
                go_simp
                with_reducible rfl
               rotate_left
               ·simp only [Act.put, List.setIfInBounds_toArray, List.set_cons_zero, List.set_cons_succ, i64_w, i32_w]
                rfl
               refine pure_ (i := 9) (N := some 43) (v := ?_) (a' := ?_) #[true, true, true, true, true, true, true, true, true, true, true, false, false, false] rfl rfl (any_of HT_.out (by kernel_rfl)) (fun _ _ _ h => h) (Or.inl ⟨by rfl, ?_⟩) ?_ ?_
               rotate_left
               ·intro w'
                go_simp
                with_reducible rfl
               rotate_left
               ·simp only [Act.put, List.setIfInBounds_toArray, List.set_cons_zero, List.set_cons_succ, i64_w, i32_w]
                rfl
               refine take_ (i := 11) (N := some 45) (v := ?_) (a' := ?_) #[true, true, true, true, true, true, true, true, true, true, true, true, false, false] rfl rfl (take_ofW HT_.out HW_.out (by kernel_rfl)) (fun _ _ _ h => h) (Or.inl ⟨by rfl, ?_⟩) hHeld ?_ ?_
               rotate_left
               ·rintro w' ⟨s0, s1, s2, s3, s4⟩
                go_simp
                with_reducible rfl
               rotate_left
               ·simp only [Act.put, List.setIfInBounds_toArray, List.set_cons_zero, List.set_cons_succ, i64_w, i32_w]
                rfl
               refine pure_ (i := 12) (N := some 46) (v := ?_) (a' := ?_) #[true, true, true, true, true, true, true, true, true, true, true, true, true, false] rfl rfl (any_of HT_.out (by kernel_rfl)) (fun _ _ _ h => h) (Or.inl ⟨by rfl, ?_⟩) ?_ ?_
               rotate_left
               ·intro w'
                go_simp
                with_reducible rfl
               rotate_left
               ·simp only [Act.put, List.setIfInBounds_toArray, List.set_cons_zero, List.set_cons_succ, i64_w, i32_w]
                rfl
               refine pure_ (i := 13) (N := some 47) (v := ?_) (a' := ?_) #[true, true, true, true, true, true, true, true, true, true, true, true, true, true] rfl rfl (any_of HT_.out (by kernel_rfl)) (fun _ _ _ h => h) (Or.inl ⟨by rfl, ?_⟩) ?_ ?_
               rotate_left
               ·intro w'
                go_simp
                with_reducible rfl
               rotate_left
               ·simp only [Act.put, List.setIfInBounds_toArray, List.set_cons_zero, List.set_cons_succ, i64_w, i32_w]
                rfl
               refine done_ (done_of HT_.out (by kernel_rfl)) ?_
               try go_wp2
               go_meet
               case rel => exact ⟨_, ((((rd_L2 x172001_1 x31_1).length : Int) == a0_0)), (by first | rfl | (simp; done) | (simp [*]; done)), H', ⟨by have := HK1.out; first | omega | exact Nat.le_refl _⟩, ⟨by (with_reducible repeat (first | apply Kd.S_alloc | apply Kd.S_drewN | apply Kd.S_drew)); exact HO_172001.out⟩, ⟨by (with_reducible repeat (first | refine blk_drewN ?_ _ | refine blk_drew ?_ | refine blk_alloc ?_ _)); exact BK164.out⟩, ⟨by (with_reducible repeat (first | refine blk_drewN ?_ _ | refine blk_drew ?_ | refine blk_alloc ?_ _)); exact BK171.out⟩, ⟨by (with_reducible repeat (first | refine blk_drewN ?_ _ | refine blk_drew ?_ | refine blk_alloc ?_ _)); exact BK179.out⟩, ⟨by repeat (first | (with_reducible first | exact HB.out | apply below_alloc | apply pw_below_drewN | apply below_drew1 | refine below_set ?_ GE164.out | refine below_set ?_ GE171.out | refine below_set ?_ GE179.out) | exact HB.out)⟩⟩
              ·rw [if_neg c66] at H
               exact absurd H (by simp)
             ·rw [if_neg c65] at H
              exact absurd H (by simp)
           case rest =>
            clear HC62
            try clear c1
            try clear p1
            try clear q1
            try clear hx1
            try clear hf1
            try clear c2
            try clear p2
            try clear c3
            try clear c3b0
            try clear c3b1
            try clear q3
            try clear hx3
            try clear hf3
            try clear c4
            try clear c5
            try clear q5
            try clear hx5
            try clear hf5
            try clear c6
            try clear p6
            try clear c7
            try clear c9
            try clear c9b0
            try clear c10
            try clear c10b0
            try clear c12
            try clear c12b0
            try clear c13
            try clear c13b0
            try clear c14
            try clear c14b0
            try clear c14b1
            try clear c15
            try clear p15
            try clear q15
            try clear hx15
            try clear hf15
            try clear c16
            try clear c16b0
            try clear c16b1
            try clear c17
            try clear p17
            try clear q17
            try clear hx17
            try clear c18
            try clear p18
            try clear q18
            try clear hx18
            try clear c26
            try clear q31
            try clear c32
            try clear hx32
            try clear hf32
            try clear c35
            try clear c36
            try clear c48
            try clear c51
            try clear q53
            try clear c54
            try clear hx54
            try clear hf54
            try clear c57
            try clear c58
            try clear c60
            try clear c61
            try clear c61b0
            try clear c63
            try clear c63b0
            try clear c63b1
            try clear p64
            try clear c65
            try clear c65b0
            try clear c66
            try clear c66b0
            try clear c67
            try clear hcz19_0
            try clear hcz19_1
            try clear hcz21_0
            try clear hcz21_1
            try clear hcz23_0
            try clear hcz23_1
            try clear hcz27_0
            try clear hcz27_1
            try clear hcz30_0
            try clear hcz30_1
            try clear hcz37_0
            try clear hcz37_1
            try clear hcz38_0
            try clear hcz38_1
            try clear hcz41_0
            try clear hcz41_1
            try clear hcz43_0
            try clear hcz43_1
            try clear hcz45_0
            try clear hcz45_1
            try clear hcz49_0
            try clear hcz49_1
            try clear hcz52_0
            try clear hcz52_1
            try clear hcz59_0
            try clear hcz59_1
            try clear hcz5_0
            try clear hcz5_1
            try clear hcz60_0
            try clear hcz60_1
            try clear hfz19_0
            try clear hfz19_1
            try clear hfz21_0
            try clear hfz21_1
            try clear hfz23_0
            try clear hfz23_1
            try clear hfz27_0
            try clear hfz27_1
            try clear hfz30_0
            try clear hfz30_1
            try clear hfz37_0
            try clear hfz37_1
            try clear hfz38_0
            try clear hfz38_1
            try clear hfz41_0
            try clear hfz41_1
            try clear hfz43_0
            try clear hfz43_1
            try clear hfz45_0
            try clear hfz45_1
            try clear hfz49_0
            try clear hfz49_1
            try clear hfz52_0
            try clear hfz52_1
            try clear hfz59_0
            try clear hfz59_1
            try clear hfz5_0
            try clear hfz5_1
            try clear hfz60_0
            try clear hfz60_1
            try clear hx15_0
            try clear hx172_0
            try clear hx173_0
            try clear hx173_1
            try clear hx181_0
            try clear hx32_0
            try clear hx54_0
            try clear p1
            try clear p15
            try clear p17
            try clear p172
            try clear p173
            try clear p181
            try clear p2
            try clear p6
            try clear q1
            try clear q15
            try clear q17
            try clear q172
            try clear q173
            try clear q181
            try clear q3
            try clear q31
            try clear q5
            try clear q53
            obtain ⟨kq, x47_61, rfl, HA, HJ61, HO_172001, BK164, BK171, BK179, HB⟩ := hcut
            cases kq with
            | zero => exact absurd HA.out (by simp [impl_leastHops.j1])
            | succ kj61 =>
             have H := HA.out
             clear HA
             simp only [impl_leastHops.j1] at H
             by_cases c69 : x47_61 = true
             ·subst c69
              have H1 : (impl_leastHops.l0 kj61 t166 x7_1 (t168.length : Int) (wrap64 (x31_1 + 1)) a0_0 l0_1 t167 x172001_1 ((rd_T30 (rd_L2 t168 t166) (ji11)).f0) ((rd_T30 (rd_L2 t168 t166) (ji11)).f1)) = some r := by rw [if_pos rfl] at H; exact H
              clear H
              have H := H1
              clear H1
              have H' := Aside0.mk H
              clear H
              go_wp2
              go_roundg kj61
              case measure => have := HK1.out; have := HJ61.out; omega
              case rel => exact ⟨(x7_1), (wrap64 (x31_1 + 1)), (x172001_1), (u172001), (by first | rfl | (simp; done) | (simp [*]; done)), (by first | rfl | (simp; done) | (simp [*]; done)), H', ⟨by have := HK1.out; have := HJ61.out; omega⟩, ⟨by (with_reducible repeat (first | apply Kd.S_alloc | apply Kd.S_drewN | apply Kd.S_drew)); exact HO_172001.out⟩, ⟨by (with_reducible repeat (first | refine blk_drewN ?_ _ | refine blk_drew ?_ | refine blk_alloc ?_ _)); exact BK164.out⟩, ⟨by (with_reducible repeat (first | refine blk_drewN ?_ _ | refine blk_drew ?_ | refine blk_alloc ?_ _)); exact BK171.out⟩, ⟨by (with_reducible repeat (first | refine blk_drewN ?_ _ | refine blk_drew ?_ | refine blk_alloc ?_ _)); exact BK179.out⟩, ⟨by repeat (first | (with_reducible first | exact HB.out | apply below_alloc | apply pw_below_drewN | apply below_drew1 | refine below_set ?_ GE164.out | refine below_set ?_ GE171.out | refine below_set ?_ GE179.out) | exact HB.out)⟩⟩
             ·replace c69 := Bool.eq_false_iff.mpr c69
              subst c69
              have H1 : ((impl_copyStore.f kj61 t167 x172001_1).bind fun bt182 => (if 0 ≤ x31_1 then (if x31_1 < (bt182.2.length : Int) then (if (rd_L2 bt182.2 x31_1).length < 8796093022208 then ((impl_leastHops.f kj61 bt182.1 (bt182.2.set (x31_1 : Int).toNat ((rd_L2 bt182.2 x31_1) ++ [(⟨((rd_T30 (rd_L2 t168 t166) (ji11)).f0), ((rd_T30 (rd_L2 t168 t166) (ji11)).f1)⟩ : S30)]))).bind fun t192 => (if t192 ≥ 0 then (if x7_1 < 0 then (impl_leastHops.j2 kj61 t166 x7_1 t192 (t168.length : Int) x31_1 true a0_0 l0_1 t167 x172001_1 ((rd_T30 (rd_L2 t168 t166) (ji11)).f0) ((rd_T30 (rd_L2 t168 t166) (ji11)).f1)) else (impl_leastHops.j2 kj61 t166 x7_1 t192 (t168.length : Int) x31_1 (decide ((wrap64 (t192 + 1)) < x7_1)) a0_0 l0_1 t167 x172001_1 ((rd_T30 (rd_L2 t168 t166) (ji11)).f0) ((rd_T30 (rd_L2 t168 t166) (ji11)).f1))) else (impl_leastHops.j2 kj61 t166 x7_1 t192 (t168.length : Int) x31_1 false a0_0 l0_1 t167 x172001_1 ((rd_T30 (rd_L2 t168 t166) (ji11)).f0) ((rd_T30 (rd_L2 t168 t166) (ji11)).f1)))) else (none)) else (none)) else (none))) = some r := by rw [if_neg (show ¬ (false = true) by decide)] at H; exact H
              clear H
              have H := H1
              clear H1
              replace H := Option.bind_eq_some_iff.mp H
              obtain ⟨⟨t182, t183⟩, A700, H⟩ := H
              replace H : (if 0 ≤ x31_1 then (if x31_1 < (t183.length : Int) then (if (rd_L2 t183 x31_1).length < 8796093022208 then ((impl_leastHops.f kj61 t182 (t183.set (x31_1 : Int).toNat ((rd_L2 t183 x31_1) ++ [(⟨((rd_T30 (rd_L2 t168 t166) (ji11)).f0), ((rd_T30 (rd_L2 t168 t166) (ji11)).f1)⟩ : S30)]))).bind fun t192 => (if t192 ≥ 0 then (if x7_1 < 0 then (impl_leastHops.j2 kj61 t166 x7_1 t192 (t168.length : Int) x31_1 true a0_0 l0_1 t167 x172001_1 ((rd_T30 (rd_L2 t168 t166) (ji11)).f0) ((rd_T30 (rd_L2 t168 t166) (ji11)).f1)) else (impl_leastHops.j2 kj61 t166 x7_1 t192 (t168.length : Int) x31_1 (decide ((wrap64 (t192 + 1)) < x7_1)) a0_0 l0_1 t167 x172001_1 ((rd_T30 (rd_L2 t168 t166) (ji11)).f0) ((rd_T30 (rd_L2 t168 t166) (ji11)).f1))) else (impl_leastHops.j2 kj61 t166 x7_1 t192 (t168.length : Int) x31_1 false a0_0 l0_1 t167 x172001_1 ((rd_T30 (rd_L2 t168 t166) (ji11)).f0) ((rd_T30 (rd_L2 t168 t166) (ji11)).f1)))) else (none)) else (none)) else (none)) = some r := H
              have A70 := Aside0.mk A700
              clear A700
              by_cases c71 : 0 ≤ x31_1
              ·rw [if_pos c71] at H
               have c71b0 : decide (0 ≤ x31_1) = true := decide_eq_true c71
               clear c71
               by_cases c72 : x31_1 < (t183.length : Int)
               ·rw [if_pos c72] at H
                have c72b0 : decide (x31_1 < (t183.length : Int)) = true := decide_eq_true c72
                clear c72
                by_cases c73 : (rd_L2 t183 x31_1).length < 8796093022208
                ·rw [if_pos c73] at H
                 have LMc73 := Aside0.mk c73
                 clear c73
                 obtain ⟨y188, hy188⟩ : ∃ y_ : List (S30), y_ = ((rd_L2 t183 x31_1) ++ [(⟨((rd_T30 (rd_L2 t168 t166) (ji11)).f0), ((rd_T30 (rd_L2 t168 t166) (ji11)).f1)⟩ : S30)]) := ⟨_, rfl⟩
                 replace H : ((impl_leastHops.f kj61 t182 (t183.set (x31_1 : Int).toNat y188)).bind fun t192 => (if t192 ≥ 0 then (if x7_1 < 0 then (impl_leastHops.j2 kj61 t166 x7_1 t192 (t168.length : Int) x31_1 true a0_0 l0_1 t167 x172001_1 ((rd_T30 (rd_L2 t168 t166) (ji11)).f0) ((rd_T30 (rd_L2 t168 t166) (ji11)).f1)) else (impl_leastHops.j2 kj61 t166 x7_1 t192 (t168.length : Int) x31_1 (decide ((wrap64 (t192 + 1)) < x7_1)) a0_0 l0_1 t167 x172001_1 ((rd_T30 (rd_L2 t168 t166) (ji11)).f0) ((rd_T30 (rd_L2 t168 t166) (ji11)).f1))) else (impl_leastHops.j2 kj61 t166 x7_1 t192 (t168.length : Int) x31_1 false a0_0 l0_1 t167 x172001_1 ((rd_T30 (rd_L2 t168 t166) (ji11)).f0) ((rd_T30 (rd_L2 t168 t166) (ji11)).f1)))) = some r := by first | (rw [hy188]; with_reducible exact H) | (have H2_ := (Option.bind_some _ _).symm.trans H; rw [hy188]; with_reducible exact H2_) | (have H2_ := (Option.bind_some _ _).symm.trans H; with_reducible exact H2_) | with_reducible exact H | (rw [hy188]; exact H) | exact H
                 have Ny188 := Aside0.mk hy188
                 clear hy188
                 obtain ⟨y191, hy191⟩ : ∃ y_ : List (List (S30)), y_ = (t183.set (x31_1 : Int).toNat y188) := ⟨_, rfl⟩
                 replace H : ((impl_leastHops.f kj61 t182 y191).bind fun t192 => (if t192 ≥ 0 then (if x7_1 < 0 then (impl_leastHops.j2 kj61 t166 x7_1 t192 (t168.length : Int) x31_1 true a0_0 l0_1 t167 x172001_1 ((rd_T30 (rd_L2 t168 t166) (ji11)).f0) ((rd_T30 (rd_L2 t168 t166) (ji11)).f1)) else (impl_leastHops.j2 kj61 t166 x7_1 t192 (t168.length : Int) x31_1 (decide ((wrap64 (t192 + 1)) < x7_1)) a0_0 l0_1 t167 x172001_1 ((rd_T30 (rd_L2 t168 t166) (ji11)).f0) ((rd_T30 (rd_L2 t168 t166) (ji11)).f1))) else (impl_leastHops.j2 kj61 t166 x7_1 t192 (t168.length : Int) x31_1 false a0_0 l0_1 t167 x172001_1 ((rd_T30 (rd_L2 t168 t166) (ji11)).f0) ((rd_T30 (rd_L2 t168 t166) (ji11)).f1)))) = some r := by first | (rw [hy191]; with_reducible exact H) | (have H2_ := (Option.bind_some _ _).symm.trans H; rw [hy191]; with_reducible exact H2_) | (have H2_ := (Option.bind_some _ _).symm.trans H; with_reducible exact H2_) | with_reducible exact H | (rw [hy191]; exact H) | exact H
                 have Ny191 := Aside0.mk hy191
                 clear hy191
                 replace H := Option.bind_eq_some_iff.mp H
                 obtain ⟨t192, A750, H⟩ := H
                 replace H : (if t192 ≥ 0 then (if x7_1 < 0 then (impl_leastHops.j2 kj61 t166 x7_1 t192 (t168.length : Int) x31_1 true a0_0 l0_1 t167 x172001_1 ((rd_T30 (rd_L2 t168 t166) (ji11)).f0) ((rd_T30 (rd_L2 t168 t166) (ji11)).f1)) else (impl_leastHops.j2 kj61 t166 x7_1 t192 (t168.length : Int) x31_1 (decide ((wrap64 (t192 + 1)) < x7_1)) a0_0 l0_1 t167 x172001_1 ((rd_T30 (rd_L2 t168 t166) (ji11)).f0) ((rd_T30 (rd_L2 t168 t166) (ji11)).f1))) else (impl_leastHops.j2 kj61 t166 x7_1 t192 (t168.length : Int) x31_1 false a0_0 l0_1 t167 x172001_1 ((rd_T30 (rd_L2 t168 t166) (ji11)).f0) ((rd_T30 (rd_L2 t168 t166) (ji11)).f1))) = some r := H
                 have A75 := Aside0.mk A750
                 clear A750
                 have HC76 := Aside0.mk H
                 clear H
                 have hnb77 := NB171_164.out
                 have hnc77 := NB164_171.out
                 have hnb78 := NB171_179.out
                 have hnc78 := NB179_171.out
                 have hcz79_0 : wc.cell? ⟨gb171, 0, none⟩ = some (.int .i64 t167) := (blk_cell BK171.out 0).trans rfl
                 have hcz79_1 : wc.cell? ⟨gb171, 1, none⟩ = some (u172001) := (blk_cell BK171.out 1).trans rfl
                 have hfz79_0 := blk_frozen BK171.out 0
                 have hfz79_1 := blk_frozen BK171.out 1
                 obtain ⟨Ao80, co80, eo80⟩ := Kd.S_slice HO_172001.out
                 subst eo80
                 try go_wp2_with (first | ((with_reducible refine gate_callee (f := 67) rfl ?_); refine goesL_ (some 49) rfl rfl Try.func67 (by kernel_rfl) rfl #[.agg #[.int .i64 t167, .slice Ao80 x172001_1.length co80]] rfl (by (try simp only [List.map_toArray, List.map_cons, List.map_nil]); first | done | rfl | (simp only [List.length_drop, List.length_take]; rfl)) ?_; (with_reducible refine (impl_copyStore.calls kj61 t167 _ _ x172001_1 t182 t183 _ ?side1 ?side2 A70.out).mono ?_); (case side1 => repeat (first | exact (Kd.S_reads' HO_172001.out).2.2 | (with_reducible refine Kd.C_alloc ?_ _) | (with_reducible refine Kd.C_drewN ?_ _) | (with_reducible refine Kd.C_drew ?_))); (case side2 => exact (Kd.S_reads' HO_172001.out).2.1); rintro e w81 ⟨v184, rfl, ho0, hb⟩; refine ⟨_, rfl, ?_⟩; obtain ⟨NT185, hNT185⟩ := Opens.size_of hb; have n0_ := Aside0.mk (Opens.S_elderN hNT185 (by (with_reducible repeat (first | apply Kd.S_alloc | apply Kd.S_drewN | apply Kd.S_drew)); exact HO_172001.out) (Kd.S_base ho0) hb); have n1_ := Aside0.mk (Kd.S_lower (Opens.S_floor hNT185 (Kd.S_newB (Kd.S_new' ho0 (Kd.S_lt (by (with_reducible repeat (first | apply Kd.S_alloc | apply Kd.S_drewN | apply Kd.S_drew)); exact HO_172001.out))) (g := gb179) (o := .cells #[.int .i64 ((rd_T30 (rd_L2 t168 t166) (ji11)).f0), .int .i64 ((rd_T30 (rd_L2 t168 t166) (ji11)).f1)] 30 (0, 0)) (by (with_reducible repeat (first | refine blk_drewN ?_ _ | refine blk_drew ?_ | refine blk_alloc ?_ _)); exact BK179.out))) (below_size (by repeat (first | (with_reducible first | exact HB.out | apply below_alloc | apply pw_below_drewN | apply below_drew1 | refine below_set ?_ GE164.out | refine below_set ?_ GE171.out | refine below_set ?_ GE179.out) | exact HB.out)))); have n2_ := Aside0.mk (blk_below (g := gb164) (o := .cells #[.int .i64 a0_0, .slice A0_1 l0_1.length c0_1] 24 (0, 0)) (by (with_reducible repeat (first | refine blk_drewN ?_ _ | refine blk_drew ?_ | refine blk_alloc ?_ _)); exact BK164.out) hb); have n3_ := Aside0.mk (blk_below (g := gb171) (o := .cells #[.int .i64 t167, .slice Ao80 x172001_1.length co80] 24 (0, 0)) (by (with_reducible repeat (first | refine blk_drewN ?_ _ | refine blk_drew ?_ | refine blk_alloc ?_ _)); exact BK171.out) hb); have n4_ := Aside0.mk (blk_below (g := gb179) (o := .cells #[.int .i64 ((rd_T30 (rd_L2 t168 t166) (ji11)).f0), .int .i64 ((rd_T30 (rd_L2 t168 t166) (ji11)).f1)] 30 (0, 0)) (by (with_reducible repeat (first | refine blk_drewN ?_ _ | refine blk_drew ?_ | refine blk_alloc ?_ _)); exact BK179.out) hb); have n5_ := Aside0.mk (below_step (by repeat (first | (with_reducible first | exact HB.out | apply below_alloc | apply pw_below_drewN | apply below_drew1 | refine below_set ?_ GE164.out | refine below_set ?_ GE171.out | refine below_set ?_ GE179.out) | exact HB.out)) hb); clear HO_172001; clear BK164; clear BK171; clear BK179; clear HB; have HO_172001 := n0_; have HO185 := n1_; have BK164 := n2_; have BK171 := n3_; have BK179 := n4_; have HB := n5_; clear n0_ n1_ n2_ n3_ n4_ n5_; (try clear hb); (try clear hb2); (try clear hk); (try clear hi); (try clear ho0)) | ((with_reducible refine gate_dst (N := 9) rfl ?_); (try (refine gate_guard (by rfl) ?_; dsimp only)); refine box_event ?hg (N := 9) ?hd (cs := #[.int .i64 0, .slice none 0 0]) (t := 24) ?hr ?_; (case hd => rfl); (case hg => rfl); (case hr => first | (go_simp; done) | (go_simp; rfl)); intro gb186 hg w82 hbox hb; have n0_ := Aside0.mk (Kd.S_below (by (with_reducible repeat (first | apply Kd.S_alloc | apply Kd.S_drewN | apply Kd.S_drew)); exact HO_172001.out) hb); have n1_ := Aside0.mk (Kd.S_below (by (with_reducible repeat (first | apply Kd.S_alloc | apply Kd.S_drewN | apply Kd.S_drew)); exact HO185.out) hb); have n2_ := Aside0.mk (blk_below (g := gb164) (o := .cells #[.int .i64 a0_0, .slice A0_1 l0_1.length c0_1] 24 (0, 0)) (by (with_reducible repeat (first | refine blk_drewN ?_ _ | refine blk_drew ?_ | refine blk_alloc ?_ _)); exact BK164.out) hb); have n3_ := Aside0.mk (blk_below (g := gb171) (o := .cells #[.int .i64 t167, .slice Ao80 x172001_1.length co80] 24 (0, 0)) (by (with_reducible repeat (first | refine blk_drewN ?_ _ | refine blk_drew ?_ | refine blk_alloc ?_ _)); exact BK171.out) hb); have n4_ := Aside0.mk (blk_below (g := gb179) (o := .cells #[.int .i64 ((rd_T30 (rd_L2 t168 t166) (ji11)).f0), .int .i64 ((rd_T30 (rd_L2 t168 t166) (ji11)).f1)] 30 (0, 0)) (by (with_reducible repeat (first | refine blk_drewN ?_ _ | refine blk_drew ?_ | refine blk_alloc ?_ _)); exact BK179.out) hb); have n5_ := Aside0.mk (below_step (by repeat (first | (with_reducible first | exact HB.out | apply below_alloc | apply pw_below_drewN | apply below_drew1 | refine below_set ?_ GE164.out | refine below_set ?_ GE171.out | refine below_set ?_ GE179.out) | exact HB.out)) hb); have n6_ := Aside0.mk (hbox); have n7_ := Aside0.mk ((by rw [hg]; exact (below_size (by repeat (first | (with_reducible first | exact HB.out | apply below_alloc | apply pw_below_drewN | apply below_drew1 | refine below_set ?_ GE164.out | refine below_set ?_ GE171.out | refine below_set ?_ GE179.out) | exact HB.out))) : w.heap.size ≤ gb186)); have n8_ := Aside0.mk ((by rw [hg]; exact (below_size (by repeat (first | (with_reducible first | exact HB.out | apply below_alloc | apply pw_below_drewN | apply below_drew1 | refine below_set ?_ GE164.out | refine below_set ?_ GE171.out | refine below_set ?_ GE179.out) | exact HB.out))) : w.heap.size ≤ gb186)); have n9_ := Aside0.mk ((by rw [hg]; exact Nat.ne_of_lt (blk_lt (g := gb164) (o := .cells #[.int .i64 a0_0, .slice A0_1 l0_1.length c0_1] 24 (0, 0)) (by (with_reducible repeat (first | refine blk_drewN ?_ _ | refine blk_drew ?_ | refine blk_alloc ?_ _)); exact BK164.out)) : gb164 ≠ gb186)); have n10_ := Aside0.mk ((by rw [hg]; exact Nat.ne_of_gt (blk_lt (g := gb164) (o := .cells #[.int .i64 a0_0, .slice A0_1 l0_1.length c0_1] 24 (0, 0)) (by (with_reducible repeat (first | refine blk_drewN ?_ _ | refine blk_drew ?_ | refine blk_alloc ?_ _)); exact BK164.out)) : gb186 ≠ gb164)); have n11_ := Aside0.mk ((by rw [hg]; exact Nat.ne_of_lt (blk_lt (g := gb171) (o := .cells #[.int .i64 t167, .slice Ao80 x172001_1.length co80] 24 (0, 0)) (by (with_reducible repeat (first | refine blk_drewN ?_ _ | refine blk_drew ?_ | refine blk_alloc ?_ _)); exact BK171.out)) : gb171 ≠ gb186)); have n12_ := Aside0.mk ((by rw [hg]; exact Nat.ne_of_gt (blk_lt (g := gb171) (o := .cells #[.int .i64 t167, .slice Ao80 x172001_1.length co80] 24 (0, 0)) (by (with_reducible repeat (first | refine blk_drewN ?_ _ | refine blk_drew ?_ | refine blk_alloc ?_ _)); exact BK171.out)) : gb186 ≠ gb171)); have n13_ := Aside0.mk ((by rw [hg]; exact Nat.ne_of_lt (blk_lt (g := gb179) (o := .cells #[.int .i64 ((rd_T30 (rd_L2 t168 t166) (ji11)).f0), .int .i64 ((rd_T30 (rd_L2 t168 t166) (ji11)).f1)] 30 (0, 0)) (by (with_reducible repeat (first | refine blk_drewN ?_ _ | refine blk_drew ?_ | refine blk_alloc ?_ _)); exact BK179.out)) : gb179 ≠ gb186)); have n14_ := Aside0.mk ((by rw [hg]; exact Nat.ne_of_gt (blk_lt (g := gb179) (o := .cells #[.int .i64 ((rd_T30 (rd_L2 t168 t166) (ji11)).f0), .int .i64 ((rd_T30 (rd_L2 t168 t166) (ji11)).f1)] 30 (0, 0)) (by (with_reducible repeat (first | refine blk_drewN ?_ _ | refine blk_drew ?_ | refine blk_alloc ?_ _)); exact BK179.out)) : gb186 ≠ gb179)); clear HO_172001; clear HO185; clear BK164; clear BK171; clear BK179; clear HB; have HO_172001 := n0_; have HO185 := n1_; have BK164 := n2_; have BK171 := n3_; have BK179 := n4_; have HB := n5_; have BK186 := n6_; have GW186 := n7_; have GE186 := n8_; have NB164_186 := n9_; have NB186_164 := n10_; have NB171_186 := n11_; have NB186_171 := n12_; have NB179_186 := n13_; have NB186_179 := n14_; clear n0_ n1_ n2_ n3_ n4_ n5_ n6_ n7_ n8_ n9_ n10_ n11_ n12_ n13_ n14_; clear hb hbox hg; have hnb83 := NB186_164.out; have hnc83 := NB164_186.out; have hnb84 := NB186_171.out; have hnc84 := NB171_186.out; have hnb85 := NB186_179.out; have hnc85 := NB179_186.out; have hcz86_0 : w82.cell? ⟨gb186, 0, none⟩ = some (.int .i64 0) := (blk_cell BK186.out 0).trans rfl; have hcz86_1 : w82.cell? ⟨gb186, 1, none⟩ = some (.slice none 0 0) := (blk_cell BK186.out 1).trans rfl; have hfz86_0 := blk_frozen BK186.out 0; have hfz86_1 := blk_frozen BK186.out 1; obtain ⟨Ao87, co87, eo87⟩ := Kd.S_slice HO185.out; subst eo87))
                 have n0_ : Aside0 (Kd.S (Kd.slice 30 k30) 28 ((w82.setCell ⟨gb186, 0, none⟩ (.int .i64 t182)).setCell ⟨gb186, 1, none⟩ (.slice Ao87 t183.length co87)) w.heap.size (fun k_ => ((fun k_ => some k_ ≠ (.slice Ao87 t183.length co87 : Value).ownBlock ∧ k_ ≠ gb179)) k_ ∧ k_ < NT185) (.slice Ao80 x172001_1.length co80) x172001_1) := ⟨by (with_reducible repeat (first | apply Kd.S_alloc | apply Kd.S_drewN | apply Kd.S_drew)); exact Kd.S_mono (Kd.S_far (p := ⟨gb186, 1, none⟩) (Kd.S_far (p := ⟨gb186, 0, none⟩) (Kd.S_types HO_172001.out BK186.out (by decide)) (fun _ hk => hk.2) (.int .i64 t182)) (fun _ hk => hk.2) (.slice Ao87 t183.length co87)) (fun _ hk => ⟨⟨hk.1.1.2, hk.1.1.1⟩, hk.1.2⟩)⟩
                 have n1_ : Aside0 (Kd.S (Kd.slice 30 k30) 28 ((w82.setCell ⟨gb186, 0, none⟩ (.int .i64 t182)).setCell ⟨gb186, 1, none⟩ (.slice Ao87 t183.length co87)) w.heap.size (fun k_ => ((fun k_ => some k_ ≠ (.slice Ao80 x172001_1.length co80 : Value).ownBlock ∧ k_ ≠ gb179)) k_ ∧ NT185 ≤ k_) (.slice Ao87 t183.length co87) t183) := ⟨by (with_reducible repeat (first | apply Kd.S_alloc | apply Kd.S_drewN | apply Kd.S_drew)); exact Kd.S_mono (Kd.S_far (p := ⟨gb186, 1, none⟩) (Kd.S_far (p := ⟨gb186, 0, none⟩) (Kd.S_types HO185.out BK186.out (by decide)) (fun _ hk => hk.2) (.int .i64 t182)) (fun _ hk => hk.2) (.slice Ao87 t183.length co87)) (fun _ hk => ⟨⟨hk.1.1.1.2, hk.1.1.2⟩, hk.1.2⟩)⟩
                 have n2_ : Aside0 (((w82.setCell ⟨gb186, 0, none⟩ (.int .i64 t182)).setCell ⟨gb186, 1, none⟩ (.slice Ao87 t183.length co87)).heap[gb164]? = some (.cells #[.int .i64 a0_0, .slice A0_1 l0_1.length c0_1] 24 (0, 0))) := ⟨by (with_reducible repeat (first | refine blk_drewN ?_ _ | refine blk_drew ?_ | refine blk_alloc ?_ _)); refine blk_far ?_ NB164_186.out _; (with_reducible repeat (first | refine blk_drewN ?_ _ | refine blk_drew ?_ | refine blk_alloc ?_ _)); refine blk_far ?_ NB164_186.out _; (with_reducible repeat (first | refine blk_drewN ?_ _ | refine blk_drew ?_ | refine blk_alloc ?_ _)); exact BK164.out⟩
                 have n3_ : Aside0 (((w82.setCell ⟨gb186, 0, none⟩ (.int .i64 t182)).setCell ⟨gb186, 1, none⟩ (.slice Ao87 t183.length co87)).heap[gb171]? = some (.cells #[.int .i64 t167, .slice Ao80 x172001_1.length co80] 24 (0, 0))) := ⟨by (with_reducible repeat (first | refine blk_drewN ?_ _ | refine blk_drew ?_ | refine blk_alloc ?_ _)); refine blk_far ?_ NB171_186.out _; (with_reducible repeat (first | refine blk_drewN ?_ _ | refine blk_drew ?_ | refine blk_alloc ?_ _)); refine blk_far ?_ NB171_186.out _; (with_reducible repeat (first | refine blk_drewN ?_ _ | refine blk_drew ?_ | refine blk_alloc ?_ _)); exact BK171.out⟩
                 have n4_ : Aside0 (((w82.setCell ⟨gb186, 0, none⟩ (.int .i64 t182)).setCell ⟨gb186, 1, none⟩ (.slice Ao87 t183.length co87)).heap[gb179]? = some (.cells #[.int .i64 ((rd_T30 (rd_L2 t168 t166) (ji11)).f0), .int .i64 ((rd_T30 (rd_L2 t168 t166) (ji11)).f1)] 30 (0, 0))) := ⟨by (with_reducible repeat (first | refine blk_drewN ?_ _ | refine blk_drew ?_ | refine blk_alloc ?_ _)); refine blk_far ?_ NB179_186.out _; (with_reducible repeat (first | refine blk_drewN ?_ _ | refine blk_drew ?_ | refine blk_alloc ?_ _)); refine blk_far ?_ NB179_186.out _; (with_reducible repeat (first | refine blk_drewN ?_ _ | refine blk_drew ?_ | refine blk_alloc ?_ _)); exact BK179.out⟩
                 have n5_ : Aside0 (((w82.setCell ⟨gb186, 0, none⟩ (.int .i64 t182)).setCell ⟨gb186, 1, none⟩ (.slice Ao87 t183.length co87)).heap[gb186]? = some (.cells #[.int .i64 t182, .slice Ao87 t183.length co87] 24 (0, 0))) := ⟨by (with_reducible repeat (first | refine blk_drewN ?_ _ | refine blk_drew ?_ | refine blk_alloc ?_ _)); refine blk_put (cs := #[.int .i64 t182, .slice none 0 0]) ?_ 1 _ rfl; (with_reducible repeat (first | refine blk_drewN ?_ _ | refine blk_drew ?_ | refine blk_alloc ?_ _)); refine blk_put (cs := #[.int .i64 0, .slice none 0 0]) ?_ 0 _ rfl; (with_reducible repeat (first | refine blk_drewN ?_ _ | refine blk_drew ?_ | refine blk_alloc ?_ _)); exact BK186.out⟩
                 have n6_ : Aside0 (Below w.heap.size w ((w82.setCell ⟨gb186, 0, none⟩ (.int .i64 t182)).setCell ⟨gb186, 1, none⟩ (.slice Ao87 t183.length co87))) := ⟨by repeat (first | (with_reducible first | exact HB.out | apply below_alloc | apply pw_below_drewN | apply below_drew1 | refine below_set ?_ GE164.out | refine below_set ?_ GE171.out | refine below_set ?_ GE179.out | refine below_set ?_ GE186.out) | exact HB.out)⟩
                 (try clear HO_172001)
                 (try clear HO185)
                 (try clear BK164)
                 (try clear BK171)
                 (try clear BK179)
                 (try clear BK186)
                 (try clear HB)
                 generalize ((w82.setCell ⟨gb186, 0, none⟩ (.int .i64 t182)).setCell ⟨gb186, 1, none⟩ (.slice Ao87 t183.length co87)) = w88 at n0_ n1_ n2_ n3_ n4_ n5_ n6_ ⊢
                 have HO_172001 := n0_
                 have HO185 := n1_
                 have BK164 := n2_
                 have BK171 := n3_
                 have BK179 := n4_
                 have BK186 := n5_
                 have HB := n6_
                 clear n0_ n1_ n2_ n3_ n4_ n5_ n6_
                 have n0_ := Aside0.mk (Kd.S_drew HO_172001.out)
                 have n1_ := Aside0.mk (Kd.S_drew HO185.out)
                 have n2_ := Aside0.mk (blk_drew BK164.out)
                 have n3_ := Aside0.mk (blk_drew BK171.out)
                 have n4_ := Aside0.mk (blk_drew BK179.out)
                 have n5_ := Aside0.mk (blk_drew BK186.out)
                 have n6_ := Aside0.mk (below_drew1 HB.out)
                 clear HO_172001
                 clear HO185
                 clear BK164
                 clear BK171
                 clear BK179
                 clear BK186
                 clear HB
                 have HO_172001 := n0_
                 have HO185 := n1_
                 have BK164 := n2_
                 have BK171 := n3_
                 have BK179 := n4_
                 have BK186 := n5_
                 have HB := n6_
                 clear n0_ n1_ n2_ n3_ n4_ n5_ n6_
                 have p187 : 0 ≤ (x31_1 : Int) := of_decide_eq_true (by first | (with_reducible assumption) | assumption)
                 have q187 : x31_1 < (t183.length : Int) := of_decide_eq_true (by first | (with_reducible assumption) | assumption)
                 obtain ⟨ad187, A187_0, c187_0, e187, hx187_0, hl187_0, hi187_0⟩ := at_L2 (Kd.S_reads' HO185.out).2.2 x31_1 p187 q187
                 cases e187
                 obtain ⟨ce187, hce187, hMe187, hcc187⟩ := Kd.S_get HO185.out [] x31_1 p187 (by first | exact q187 | exact of_decide_eq_true (by first | (with_reducible assumption) | assumption) | (have e_ := (Kd.S_reads' HO185.out).1; omega))
                 obtain ⟨ve187_0, rfl, ge187_0⟩ := hMe187
                 have hv187_0 := hcc187 0 _ rfl
                 rw [Nat.add_zero, show ((Kd.slice 30 k30)).sz = 1 from rfl, Nat.mul_one] at hv187_0
                 replace hv187_0 := Option.some.inj (hv187_0.symm.trans hx187_0)
                 rw [hv187_0] at ge187_0
                 have HL187_0 := Aside0.mk (show Kd.R k30 30 _ _ _ _ (rd_L2 t183 x31_1) from ge187_0)
                 clear hv187_0 ge187_0
                 have HX187_0 := Aside0.mk hx187_0
                 clear hcc187 hce187
                 have HR187_0 := Aside0.mk hi187_0
                 have HC187_0 := Aside0.mk hl187_0
                 clear hi187_0 hl187_0
                 replace p187 := eq_true p187
                 replace q187 := eq_true q187
                 have hGK90 := HO185
                 have n_ := Aside0.mk (Kd.S_mono (ok' := (fun k_ => some k_ ≠ (.slice Ao80 x172001_1.length co80 : Value).ownBlock ∧ k_ ≠ gb179)) HO185.out (fun k_ hk => ⟨hk.1.1, hk.1.2⟩))
                 clear HO185
                 have HO185 := n_
                 clear n_
                 obtain ⟨go90, co90, eo90, gb90, gl90, cl90, HG90⟩ := Kd.S_form HO185.out (by have h_ : (x31_1 : Int) < ((t183.length : Int) : Int) := of_decide_eq_true (by first | (with_reducible assumption) | assumption); have h2_ : 0 ≤ (x31_1 : Int) := (of_decide_eq_true (by first | (with_reducible assumption) | assumption)); omega)
                 (first | cases eo90 | (injection eo90 with ea_ en_ ec_; (first | subst ea_ | (injection ea_ with ea_; subst ea_)); subst ec_; clear en_))
                 have GB90 := Aside0.mk gb90
                 have GG90 := Aside0.mk HG90
                 clear gb90 gl90 HG90
                 (first | simp only [add_plain] at hx187_0 | skip)
                 obtain ⟨oki90, ce90, hcl90, hM90, hcc90, _, _, hH90⟩ := Kd.S_elem HO185.out [] (x31_1 : Int) (of_decide_eq_true (by first | (with_reducible assumption) | assumption)) (by have h_ : (x31_1 : Int) < ((t183.length : Int) : Int) := of_decide_eq_true (by first | (with_reducible assumption) | assumption); first | exact h_ | (have e_ := (Kd.S_reads' HO185.out).1; omega) | simpa using h_)
                 obtain ⟨ve90_0, rfl, ge90_0⟩ := hM90
                 have hv90 := hcc90 0 _ rfl
                 have hX90 := HX187_0.out
                 (try simp only [add_plain] at hX90)
                 (try simp only [Nat.add_zero] at hv90)
                 (try rw [show ((Kd.slice 30 k30)).sz = 1 from rfl, Nat.mul_one] at hv90)
                 replace hv90 := Option.some.inj (hv90.symm.trans hX90)
                 subst hv90
                 clear hX90 hcc90 hcl90
                 have UU90 := Aside0.mk (show Kd.R k30 30 _ w.heap.size oki90 (.slice A187_0 (rd_L2 t183 x31_1).length c187_0) (rd_L2 t183 x31_1) from ge90_0)
                 have HH90 := Aside0.mk hH90
                 have HN90 := Aside0.mk (Kd.S_reads' HO185.out).1
                 clear hH90 ge90_0
                 have hGi90 := HX187_0.out
                 (try simp only [add_plain] at hGi90)
                 have hG90 := Aside0.mk (Opens.S_floor_at hGK90.out (fun k_ hk => hk.2) (of_decide_eq_true (by first | (with_reducible assumption) | assumption)) (by have h_ : (x31_1 : Int) < ((t183.length : Int) : Int) := of_decide_eq_true (by first | (with_reducible assumption) | assumption); first | exact h_ | (have e_ := (Kd.S_reads' HO185.out).1; omega) | simpa using h_) hGi90)
                 clear hGi90 hGK90
                 refine start_ (n := 13) (S := fun w' => w'.cell? ⟨gb186, 0, none⟩ = some (.int .i64 t182) ∧ w'.cell? ⟨gb186, 1, none⟩ = some (.slice (some ⟨go90, 0, none⟩) t183.length co87) ∧ w'.cell? ⟨gb179, 0, none⟩ = some (.int .i64 ((rd_T30 (rd_L2 t168 t166) (ji11)).f0)) ∧ w'.cell? ⟨gb179, 1, none⟩ = some (.int .i64 ((rd_T30 (rd_L2 t168 t166) (ji11)).f1)) ∧ w'.cell? ⟨go90, (x31_1).toNat, none⟩ = some (.slice A187_0 (rd_L2 t183 x31_1).length c187_0)) (ds := [12]) #[false, false, false, false, false, false, false, false, false, false, false, false, false] (by kernel_rfl) rfl rfl ⟨(blk_cell BK186.out 0).trans rfl, (blk_cell BK186.out 1).trans rfl, (blk_cell BK179.out 0).trans rfl, (blk_cell BK179.out 1).trans rfl, hx187_0⟩ (fun hHeld => ?_); refine with_tabW impl_leastHops.tab15 impl_leastHops.bits15 (fun HT_ HW_ => ?_)
                 generalize w88.drew = w89 at HO_172001 HO185 BK164 BK171 BK179 BK186 HB GG90 HH90 HL187_0 HR187_0 HX187_0 UU90 hx187_0 hHeld ⊢
                 refine pure_ (i := 0) (N := some 50) (v := ?_) (a' := ?_) #[true, false, false, false, false, false, false, false, false, false, false, false, false] rfl rfl (any_of HT_.out (by kernel_rfl)) (fun _ _ _ h => h) (Or.inl ⟨by rfl, ?_⟩) ?_ ?_
                 rotate_left
                 ·intro w'
                  go_simp
                  with_reducible rfl
                 rotate_left
                 ·simp only [Act.put, List.setIfInBounds_toArray, List.set_cons_zero, List.set_cons_succ, i64_w, i32_w]
                  rfl
                 refine pure_ (i := 2) (N := some 52) (v := ?_) (a' := ?_) #[true, false, true, false, false, false, false, false, false, false, false, false, false] rfl rfl (any_of HT_.out (by kernel_rfl)) (fun _ _ _ h => h) (Or.inl ⟨by rfl, ?_⟩) ?_ ?_
                 rotate_left
                 ·intro w'
                  go_simp
                  with_reducible rfl
                 rotate_left
                 ·simp only [Act.put, List.setIfInBounds_toArray, List.set_cons_zero, List.set_cons_succ, i64_w, i32_w]
                  rfl
                 refine pure_ (i := 3) (N := some 53) (v := ?_) (a' := ?_) #[true, false, true, true, false, false, false, false, false, false, false, false, false] rfl rfl (any_of HT_.out (by kernel_rfl)) (fun _ _ _ h => h) (Or.inl ⟨by rfl, ?_⟩) ?_ ?_
                 rotate_left
                 ·intro w'
                  go_simp
                  with_reducible rfl
                 rotate_left
                 ·simp only [Act.put, List.setIfInBounds_toArray, List.set_cons_zero, List.set_cons_succ, i64_w, i32_w]
                  rfl
                 refine pure_ (i := 5) (N := some 55) (v := ?_) (a' := ?_) #[true, false, true, true, false, true, false, false, false, false, false, false, false] rfl rfl (any_of HT_.out (by kernel_rfl)) (fun _ _ _ h => h) (Or.inl ⟨by rfl, ?_⟩) ?_ ?_
                 rotate_left
                 ·intro w'
                  go_simp
                  with_reducible rfl
                 rotate_left
                 ·simp only [Act.put, List.setIfInBounds_toArray, List.set_cons_zero, List.set_cons_succ, i64_w, i32_w]
                  rfl
                 refine take_ (i := 1) (N := some 51) (v := ?_) (a' := ?_) #[true, true, true, true, false, true, false, false, false, false, false, false, false] rfl rfl (take_ofW HT_.out HW_.out (by kernel_rfl)) (fun _ _ _ h => h) (Or.inl ⟨by rfl, ?_⟩) hHeld ?_ ?_
                 rotate_left
                 ·rintro w' ⟨s0, s1, s2, s3, s4⟩
                  go_simp
                  with_reducible rfl
                 rotate_left
                 ·simp only [Act.put, List.setIfInBounds_toArray, List.set_cons_zero, List.set_cons_succ, i64_w, i32_w]
                  rfl
                 refine take_ (i := 4) (N := some 54) (v := ?_) (a' := ?_) #[true, true, true, true, true, true, false, false, false, false, false, false, false] rfl rfl (take_ofW HT_.out HW_.out (by kernel_rfl)) (fun _ _ _ h => h) (Or.inl ⟨by rfl, ?_⟩) hHeld ?_ ?_
                 rotate_left
                 ·rintro w' ⟨s0, s1, s2, s3, s4⟩
                  go_simp
                  with_reducible rfl
                 rotate_left
                 ·simp only [Act.put, List.setIfInBounds_toArray, List.set_cons_zero, List.set_cons_succ, i64_w, i32_w]
                  rfl
                 refine pure_ (i := 6) (N := some 56) (v := ?_) (a' := ?_) #[true, true, true, true, true, true, true, false, false, false, false, false, false] rfl rfl (any_of HT_.out (by kernel_rfl)) (fun _ _ _ h => h) (Or.inl ⟨by rfl, ?_⟩) ?_ ?_
                 rotate_left
                 ·intro w'
                  go_simp
                  with_reducible rfl
                 rotate_left
                 ·simp only [Act.put, List.setIfInBounds_toArray, List.set_cons_zero, List.set_cons_succ, i64_w, i32_w]
                  rfl
                 refine take_ (i := 7) (N := some 57) (v := ?_) (a' := ?_) #[true, true, true, true, true, true, true, true, false, false, false, false, false] rfl rfl (take_ofW HT_.out HW_.out (by kernel_rfl)) (fun _ _ _ h => h) (Or.inl ⟨by rfl, ?_⟩) hHeld ?_ ?_
                 rotate_left
                 ·rintro w' ⟨s0, s1, s2, s3, s4⟩
                  go_simp
                  with_reducible rfl
                 rotate_left
                 ·simp only [Act.put, List.setIfInBounds_toArray, List.set_cons_zero, List.set_cons_succ, i64_w, i32_w]
                  rfl
                 refine take_ (i := 8) (N := some 58) (v := ?_) (a' := ?_) #[true, true, true, true, true, true, true, true, true, false, false, false, false] rfl rfl (take_ofW HT_.out HW_.out (by kernel_rfl)) (fun _ _ _ h => h) (Or.inl ⟨by rfl, ?_⟩) hHeld ?_ ?_
                 rotate_left
                 ·rintro w' ⟨s0, s1, s2, s3, s4⟩
                  go_simp
                  with_reducible rfl
                 rotate_left
                 ·simp only [Act.put, List.setIfInBounds_toArray, List.set_cons_zero, List.set_cons_succ, i64_w, i32_w]
                  rfl
                 refine one_ (i := 9) (N := some 59) #[true, true, true, true, true, true, true, true, true, true, false, false, false] rfl rfl (one_of HT_.out (by kernel_rfl)) (by decide) (fun K hK => ?_)
                 refine value_ (w1 := ?_) (v := ?_) (by rfl) rfl ?_ ?_
                 rotate_left 2
                 ·go_simp
                  constructor
                  ·rfl
                  ·rfl
                 refine hK.out _ _ ⟨(blk_cell (blk_alloc BK186.out _) 0).trans rfl, (blk_cell (blk_alloc BK186.out _) 1).trans rfl, (blk_cell (blk_alloc BK179.out _) 0).trans rfl, (blk_cell (blk_alloc BK179.out _) 1).trans rfl, (World.cell?_alloc_lt _ _ _ (World.block_lt_of_cell? _ _ (hHeld.2.2.2.2))).trans (hHeld.2.2.2.2)⟩ (fun hHeld => ?_)
                 clear hK K
                 refine norm_ (a' := ?_) ?_ ?_
                 rotate_left
                 ·show Act.put _ (some 59) _ = _
                  simp only [Act.put, List.setIfInBounds_toArray, List.set_cons_zero, List.set_cons_succ, i64_w, i32_w]
                  rfl
                 refine one_ (i := 10) (N := some 60) #[true, true, true, true, true, true, true, true, true, true, true, false, false] rfl rfl (one_of HT_.out (by kernel_rfl)) (by decide) (fun K hK => ?_)
                 refine Kd.R_append_step k30 (w0 := w) w.heap.size (by rfl) (.tmp 57) (.tmp 59) 28 30 (.agg #[(.int .i64 0), (.int .i64 0)]) 16 rfl Try.underlying28 info30 rfl (by decide) (by omega) (.slice A187_0 (rd_L2 t183 x31_1).length c187_0) (rd_L2 t183 x31_1) (⟨((rd_T30 (rd_L2 t168 t166) (ji11)).f0), ((rd_T30 (rd_L2 t168 t166) (ji11)).f1)⟩ : S30) [.int .i64 ((rd_T30 (rd_L2 t168 t166) (ji11)).f0), .int .i64 ((rd_T30 (rd_L2 t168 t166) (ji11)).f1)] (fun k_ => oki90 k_ ∨ ((fun k_ => some k_ ≠ (.slice Ao80 x172001_1.length co80 : Value).ownBlock ∧ k_ ≠ gb179)) k_ ∧ w89.heap.size ≤ k_) (fun _ => False) rfl rfl ?aP (fun _ hk => hk.elim) ?aF ?aO ?aB ?aS ?aL ?_
                 (case aP => exact k30_mkM _ _ _ (⟨((rd_T30 (rd_L2 t168 t166) (ji11)).f0), ((rd_T30 (rd_L2 t168 t166) (ji11)).f1)⟩ : S30))
                 (case aB => exact (by repeat (first | (with_reducible first | exact HB.out | apply below_alloc | apply pw_below_drewN | apply below_drew1 | refine below_set ?_ GE164.out | refine below_set ?_ GE171.out | refine below_set ?_ GE179.out | refine below_set ?_ GE186.out) | exact HB.out)))
                 (case aF => exact (fun k_ hk => .inr ⟨⟨Kd.fresh' (Kd.S_lt (by (with_reducible repeat (first | apply Kd.S_alloc | apply Kd.S_drewN | apply Kd.S_drew)); exact HO_172001.out)) k_ hk, Kd.freshB (g := gb179) (o := .cells #[.int .i64 ((rd_T30 (rd_L2 t168 t166) (ji11)).f0), .int .i64 ((rd_T30 (rd_L2 t168 t166) (ji11)).f1)] 30 (0, 0)) (by (with_reducible repeat (first | refine blk_drewN ?_ _ | refine blk_drew ?_ | refine blk_alloc ?_ _)); exact BK179.out) k_ hk⟩, hk⟩))
                 (case aO => exact (by (with_reducible repeat (first | apply Kd.R_alloc | apply Kd.R_drewN | apply Kd.R_drew)); exact Kd.R_mono UU90.out (fun _ hk => .inl hk)))
                 (case aS => exact (below_size (by repeat (first | (with_reducible first | exact HB.out | apply below_alloc | apply pw_below_drewN | apply below_drew1 | refine below_set ?_ GE164.out | refine below_set ?_ GE171.out | refine below_set ?_ GE179.out | refine below_set ?_ GE186.out) | exact HB.out))))
                 (case aL => have := LMc73.out; omega)
                 intro v189 w91 ho hb hg hat
                 (first | have HS4_ := cell_grown hg (hHeld.2.2.2.2) (by first | (rw [add_block]; exact (fun e_ => ((HL187_0.out.1 _ e_.symm).2) rfl)) | (show some (Addr.add _ _).block ≠ _; rw [add_block]; exact (fun e_ => ((HL187_0.out.1 _ e_.symm).2) rfl)) | exact (fun e_ => ((HL187_0.out.1 _ e_.symm).2) rfl)) | have HS4_ := cell_grown hg (cell_unalloc (hHeld.2.2.2.2) (by first | (rw [add_block]; exact Kd.S_lt HO185.out _ rfl) | (show (Addr.add _ _).block < _; rw [add_block]; exact Kd.S_lt HO185.out _ rfl) | exact Kd.S_lt HO185.out _ rfl)) (by first | (rw [add_block]; exact (fun e_ => ((HL187_0.out.1 _ e_.symm).2) rfl)) | (show some (Addr.add _ _).block ≠ _; rw [add_block]; exact (fun e_ => ((HL187_0.out.1 _ e_.symm).2) rfl)) | exact (fun e_ => ((HL187_0.out.1 _ e_.symm).2) rfl)))
                 rw [← Ny188.out] at ho
                 have n0_ := Aside0.mk (Kd.S_grown (by (with_reducible repeat (first | apply Kd.S_alloc | apply Kd.S_drewN | apply Kd.S_drew)); exact HO_172001.out) hg (by intro k_ hk_ e_; exact Nat.lt_irrefl _ (Nat.lt_of_lt_of_le hk_.2 (hG90.out k_ e_.symm))))
                 have n1_ := Aside0.mk (blk_grown (g := gb164) (o := .cells #[.int .i64 a0_0, .slice A0_1 l0_1.length c0_1] 24 (0, 0)) (by (with_reducible repeat (first | refine blk_drewN ?_ _ | refine blk_drew ?_ | refine blk_alloc ?_ _)); exact BK164.out) hg (Kd.R_ne HL187_0.out BK164.out (by decide)))
                 have n2_ := Aside0.mk (blk_grown (g := gb171) (o := .cells #[.int .i64 t167, .slice Ao80 x172001_1.length co80] 24 (0, 0)) (by (with_reducible repeat (first | refine blk_drewN ?_ _ | refine blk_drew ?_ | refine blk_alloc ?_ _)); exact BK171.out) hg (Kd.R_ne HL187_0.out BK171.out (by decide)))
                 have n3_ := Aside0.mk (blk_grown (g := gb179) (o := .cells #[.int .i64 ((rd_T30 (rd_L2 t168 t166) (ji11)).f0), .int .i64 ((rd_T30 (rd_L2 t168 t166) (ji11)).f1)] 30 (0, 0)) (by (with_reducible repeat (first | refine blk_drewN ?_ _ | refine blk_drew ?_ | refine blk_alloc ?_ _)); exact BK179.out) hg (Kd.R_away HL187_0.out (fun _ hk => hk.1.1.2)))
                 have n4_ := Aside0.mk (blk_grown (g := gb186) (o := .cells #[.int .i64 t182, .slice (some ⟨go90, 0, none⟩) t183.length co87] 24 (0, 0)) (by (with_reducible repeat (first | refine blk_drewN ?_ _ | refine blk_drew ?_ | refine blk_alloc ?_ _)); exact BK186.out) hg (Kd.R_ne HL187_0.out BK186.out (by decide)))
                 have n5_ := Aside0.mk (hb)
                 have n6_ := Aside0.mk (Kd.H_grown (Kd.H_widen (by repeat (first | exact HH90.out | refine Kd.H_alloc ?_ _ | refine Kd.H_drewN ?_ _ | refine Kd.H_drew ?_))) hg (fun k_ e_ => .inl (UU90.out.1 k_ e_)))
                 have n7_ := Aside0.mk (ho)
                 clear HO_172001
                 clear BK164
                 clear BK171
                 clear BK179
                 clear BK186
                 clear HB
                 clear HH90
                 clear HO185
                 clear UU90
                 clear HL187_0
                 have HO_172001 := n0_
                 have BK164 := n1_
                 have BK171 := n2_
                 have BK179 := n3_
                 have BK186 := n4_
                 have HB := n5_
                 have HH90 := n6_
                 have HO190 := n7_
                 clear n0_ n1_ n2_ n3_ n4_ n5_ n6_ n7_
                 clear ho hb hg hat
                 have p74 : 0 ≤ (x31_1 : Int) := of_decide_eq_true (by first | (with_reducible assumption) | assumption)
                 have q74 : (x31_1 : Int) < ((t183.length : Int) : Int) := of_decide_eq_true (by first | (with_reducible assumption) | assumption)
                 replace p74 := eq_true p74
                 replace q74 := eq_true q74
                 obtain ⟨Ao94, co94, eo94⟩ := Kd.R_slice HO190.out
                 (first | subst eo94 | (injection eo94 with f1_ f2_ f3_; have f4_ := f1_.symm; have f5_ := f3_.symm; clear f1_ f2_ f3_; subst f4_; subst f5_))
                 obtain ⟨_, _, hraw92, _, _, hcc92, _⟩ := Kd.H_raw HH90.out (of_decide_eq_true (by first | (with_reducible assumption) | assumption)) (by have h_ : (x31_1 : Int) < ((t183.length : Int) : Int) := of_decide_eq_true (by first | (with_reducible assumption) | assumption); first | exact h_ | (have e_ := (HN90.out); omega) | simpa using h_)
                 obtain ⟨_, hfr92⟩ := Kd.H_at HH90.out (of_decide_eq_true (by first | (with_reducible assumption) | assumption)) (by have h_ : (x31_1 : Int) < ((t183.length : Int) : Int) := of_decide_eq_true (by first | (with_reducible assumption) | assumption); first | exact h_ | (have e_ := (HN90.out); omega) | simpa using h_)
                 have hx92_0 := hcc92 0 _ rfl
                 have hf92_0 := hfr92 0
                 (try simp only [Nat.add_zero] at hx92_0 hf92_0)
                 (try rw [show ((Kd.slice 30 k30)).sz = 1 from rfl, Nat.mul_one] at hx92_0)
                 (try rw [show ((Kd.slice 30 k30)).sz = 1 from rfl, Nat.mul_one] at hf92_0)
                 have HP92 := Kd.S_seg0 HH90.out (of_decide_eq_true (by first | (with_reducible assumption) | assumption)) (by have h_ : (x31_1 : Int) < ((t183.length : Int) : Int) := of_decide_eq_true (by first | (with_reducible assumption) | assumption); first | exact h_ | (have e_ := (HN90.out); omega) | simpa using h_) (seg := [.slice Ao94 y188.length co94]) (j := 0) (show 1 ≤ 1 from by decide) (x' := y188) (Kd.M_row HO190.out) (fun _ hk => hk)
                 (try simp only [show ((Kd.slice 30 k30)).sz = 1 from rfl, Nat.mul_one, Nat.add_zero] at HP92)
                 clear hcc92 hfr92
                 have HNB164_go90 := Aside0.mk (show gb164 ≠ go90 from by have h_ := Kd.R_ne hraw92 BK164.out (by decide); intro e_; exact h_ (by rw [e_]; rfl))
                 have HNB171_go90 := Aside0.mk (show gb171 ≠ go90 from by have h_ := Kd.R_ne hraw92 BK171.out (by decide); intro e_; exact h_ (by rw [e_]; rfl))
                 have HNB179_go90 := Aside0.mk (show gb179 ≠ go90 from by have h_ := Kd.R_ne hraw92 BK179.out (by decide); intro e_; exact h_ (by rw [e_]; rfl))
                 have HNB186_go90 := Aside0.mk (show gb186 ≠ go90 from by have h_ := Kd.R_ne hraw92 BK186.out (by decide); intro e_; exact h_ (by rw [e_]; rfl))
                 have HS92 := HP92.1
                 rw [← Ny191.out] at HS92
                 have HQ92 := Aside0.mk HS92
                 obtain ⟨_, hgg92⟩ := Kd.R_typed hraw92 go90 rfl
                 have GG92_ := Aside0.mk hgg92
                 clear HP92 HS92 hgg92
                 refine hK.out _ _ ⟨(blk_cell BK186.out 0).trans rfl, (blk_cell BK186.out 1).trans rfl, (blk_cell BK179.out 0).trans rfl, (blk_cell BK179.out 1).trans rfl, HS4_⟩ (fun hHeld => ?_)
                 clear hK K
                 refine norm_ (a' := ?_) ?_ ?_
                 rotate_left
                 ·show Act.put _ (some 60) _ = _
                  simp only [Act.put, List.setIfInBounds_toArray, List.set_cons_zero, List.set_cons_succ, i64_w, i32_w]
                  rfl
                 refine pure_ (i := 11) (N := some 61) (v := ?_) (a' := ?_) #[true, true, true, true, true, true, true, true, true, true, true, true, false] rfl rfl (any_of HT_.out (by kernel_rfl)) (fun _ _ _ h => h) (Or.inl ⟨by rfl, ?_⟩) ?_ ?_
                 rotate_left
                 ·intro w'
                  go_simp
                  with_reducible rfl
                 rotate_left
                 ·simp only [Act.put, List.setIfInBounds_toArray, List.set_cons_zero, List.set_cons_succ, i64_w, i32_w]
                  rfl
                 refine last_ (i := 12) (N := none) #[true, true, true, true, true, true, true, true, true, true, true, true, true] rfl rfl (one_of HT_.out (by kernel_rfl)) (by decide) (fun K hK => ?_)
                 refine skip_ (w1 := ?_) (by rfl) rfl ?_ ?_
                 rotate_left
                 ·go_simp
                  rfl
                 refine hK.out _ _ ?_
                 clear hK K
                 refine done_ (done_of HT_.out (by kernel_rfl)) ?_
                 have n0_ : Aside0 (Kd.S (Kd.slice 30 k30) 28 (w91.setCell ⟨go90, (x31_1 : Int).toNat, none⟩ (.slice Ao94 y188.length co94)) w.heap.size (fun k_ => ((fun k_ => some k_ ≠ (.slice (some ⟨go90, 0, none⟩) t183.length co87 : Value).ownBlock ∧ k_ ≠ gb179)) k_ ∧ k_ < NT185) (.slice Ao80 x172001_1.length co80) x172001_1) := ⟨by (with_reducible repeat (first | apply Kd.S_alloc | apply Kd.S_drewN | apply Kd.S_drew)); exact Kd.S_mono (Kd.S_far (p := ⟨go90, (x31_1 : Int).toNat, none⟩) (Kd.S_mono HO_172001.out (fun k_ hk => (⟨hk, fun e_ => hk.1.1 (by rw [e_]; rfl)⟩ : _ ∧ k_ ≠ go90))) (fun _ hk => hk.2) (.slice Ao94 y188.length co94)) (fun _ hk => ⟨⟨hk.1.1.1, hk.1.1.2⟩, hk.1.2⟩)⟩
                 have n1_ : Aside0 (Kd.S (Kd.slice 30 k30) 28 (w91.setCell ⟨go90, (x31_1 : Int).toNat, none⟩ (.slice Ao94 y188.length co94)) w.heap.size (fun k_ => some k_ ≠ (.slice Ao80 x172001_1.length co80 : Value).ownBlock ∧ k_ ≠ gb179) (.slice (some ⟨go90, 0, none⟩) t183.length co87) y191) := ⟨by (with_reducible repeat (first | apply Kd.S_alloc | apply Kd.S_drewN | apply Kd.S_drew)); exact HQ92.out⟩
                 have n2_ : Aside0 ((w91.setCell ⟨go90, (x31_1 : Int).toNat, none⟩ (.slice Ao94 y188.length co94)).heap[gb164]? = some (.cells #[.int .i64 a0_0, .slice A0_1 l0_1.length c0_1] 24 (0, 0))) := ⟨by (with_reducible repeat (first | refine blk_drewN ?_ _ | refine blk_drew ?_ | refine blk_alloc ?_ _)); refine blk_far ?_ HNB164_go90.out _; (with_reducible repeat (first | refine blk_drewN ?_ _ | refine blk_drew ?_ | refine blk_alloc ?_ _)); exact BK164.out⟩
                 have n3_ : Aside0 ((w91.setCell ⟨go90, (x31_1 : Int).toNat, none⟩ (.slice Ao94 y188.length co94)).heap[gb171]? = some (.cells #[.int .i64 t167, .slice Ao80 x172001_1.length co80] 24 (0, 0))) := ⟨by (with_reducible repeat (first | refine blk_drewN ?_ _ | refine blk_drew ?_ | refine blk_alloc ?_ _)); refine blk_far ?_ HNB171_go90.out _; (with_reducible repeat (first | refine blk_drewN ?_ _ | refine blk_drew ?_ | refine blk_alloc ?_ _)); exact BK171.out⟩
                 have n4_ : Aside0 ((w91.setCell ⟨go90, (x31_1 : Int).toNat, none⟩ (.slice Ao94 y188.length co94)).heap[gb179]? = some (.cells #[.int .i64 ((rd_T30 (rd_L2 t168 t166) (ji11)).f0), .int .i64 ((rd_T30 (rd_L2 t168 t166) (ji11)).f1)] 30 (0, 0))) := ⟨by (with_reducible repeat (first | refine blk_drewN ?_ _ | refine blk_drew ?_ | refine blk_alloc ?_ _)); refine blk_far ?_ HNB179_go90.out _; (with_reducible repeat (first | refine blk_drewN ?_ _ | refine blk_drew ?_ | refine blk_alloc ?_ _)); exact BK179.out⟩
                 have n5_ : Aside0 ((w91.setCell ⟨go90, (x31_1 : Int).toNat, none⟩ (.slice Ao94 y188.length co94)).heap[gb186]? = some (.cells #[.int .i64 t182, .slice (some ⟨go90, 0, none⟩) t183.length co87] 24 (0, 0))) := ⟨by (with_reducible repeat (first | refine blk_drewN ?_ _ | refine blk_drew ?_ | refine blk_alloc ?_ _)); refine blk_far ?_ HNB186_go90.out _; (with_reducible repeat (first | refine blk_drewN ?_ _ | refine blk_drew ?_ | refine blk_alloc ?_ _)); exact BK186.out⟩
                 have n6_ : Aside0 (Below w.heap.size w (w91.setCell ⟨go90, (x31_1 : Int).toNat, none⟩ (.slice Ao94 y188.length co94))) := ⟨by repeat (first | (with_reducible first | exact HB.out | apply below_alloc | apply pw_below_drewN | apply below_drew1 | refine below_set ?_ GB90.out | refine below_set ?_ GE164.out | refine below_set ?_ GE171.out | refine below_set ?_ GE179.out | refine below_set ?_ GE186.out) | exact HB.out)⟩
                 (try clear HO_172001)
                 (try clear HO185)
                 (try clear BK164)
                 (try clear BK171)
                 (try clear BK179)
                 (try clear BK186)
                 (try clear HB)
                 generalize (w91.setCell ⟨go90, (x31_1 : Int).toNat, none⟩ (.slice Ao94 y188.length co94)) = w95 at n0_ n1_ n2_ n3_ n4_ n5_ n6_ ⊢
                 have HO_172001 := n0_
                 have HO185 := n1_
                 have BK164 := n2_
                 have BK171 := n3_
                 have BK179 := n4_
                 have BK186 := n5_
                 have HB := n6_
                 clear n0_ n1_ n2_ n3_ n4_ n5_ n6_
                 have hcz96_0 : w95.cell? ⟨gb186, 0, none⟩ = some (.int .i64 t182) := (blk_cell BK186.out 0).trans rfl
                 have hcz96_1 : w95.cell? ⟨gb186, 1, none⟩ = some (.slice (some ⟨go90, 0, none⟩) t183.length co87) := (blk_cell BK186.out 1).trans rfl
                 have hfz96_0 := blk_frozen BK186.out 0
                 have hfz96_1 := blk_frozen BK186.out 1
                 go_upto_region 17 with (first | ((with_reducible refine gate_callee (f := 51) rfl ?_); refine goesL_ (some 63) rfl rfl Try.func51 (by kernel_rfl) rfl #[.agg #[.int .i64 t182, .slice (some ⟨go90, 0, none⟩) y191.length co87]] rfl (by (try simp only [List.map_toArray, List.map_cons, List.map_nil]); first | done | (rw [show y191.length = t183.length from (Kd.S_reads' HO185.out).1.symm] <;> rfl) | rfl | (simp only [List.length_drop, List.length_take]; rfl)) ?_; (with_reducible refine (ih kj61 (by have := HK1.out; have := HJ61.out; omega) t182 _ _ y191 t192 _ ?side1 ?side2 A75.out).mono ?_); (case side1 => repeat (first | exact (Kd.S_reads' HO185.out).2.2 | (with_reducible refine Kd.C_alloc ?_ _) | (with_reducible refine Kd.C_drewN ?_ _) | (with_reducible refine Kd.C_drew ?_))); (case side2 => rw [show y191.length = t183.length from (Kd.S_reads' HO185.out).1.symm]; exact (Kd.S_reads' HO185.out).2.1); rintro e w97 ⟨rfl, hb⟩; refine ⟨_, rfl, ?_⟩; have n0_ := Aside0.mk (Kd.S_below (by (with_reducible repeat (first | apply Kd.S_alloc | apply Kd.S_drewN | apply Kd.S_drew)); exact HO_172001.out) hb); have n1_ := Aside0.mk (Kd.S_below (by (with_reducible repeat (first | apply Kd.S_alloc | apply Kd.S_drewN | apply Kd.S_drew)); exact HO185.out) hb); have n2_ := Aside0.mk (blk_below (g := gb164) (o := .cells #[.int .i64 a0_0, .slice A0_1 l0_1.length c0_1] 24 (0, 0)) (by (with_reducible repeat (first | refine blk_drewN ?_ _ | refine blk_drew ?_ | refine blk_alloc ?_ _)); exact BK164.out) hb); have n3_ := Aside0.mk (blk_below (g := gb171) (o := .cells #[.int .i64 t167, .slice Ao80 x172001_1.length co80] 24 (0, 0)) (by (with_reducible repeat (first | refine blk_drewN ?_ _ | refine blk_drew ?_ | refine blk_alloc ?_ _)); exact BK171.out) hb); have n4_ := Aside0.mk (blk_below (g := gb179) (o := .cells #[.int .i64 ((rd_T30 (rd_L2 t168 t166) (ji11)).f0), .int .i64 ((rd_T30 (rd_L2 t168 t166) (ji11)).f1)] 30 (0, 0)) (by (with_reducible repeat (first | refine blk_drewN ?_ _ | refine blk_drew ?_ | refine blk_alloc ?_ _)); exact BK179.out) hb); have n5_ := Aside0.mk (blk_below (g := gb186) (o := .cells #[.int .i64 t182, .slice (some ⟨go90, 0, none⟩) t183.length co87] 24 (0, 0)) (by (with_reducible repeat (first | refine blk_drewN ?_ _ | refine blk_drew ?_ | refine blk_alloc ?_ _)); exact BK186.out) hb); have n6_ := Aside0.mk (below_step (by repeat (first | (with_reducible first | exact HB.out | apply below_alloc | apply pw_below_drewN | apply below_drew1 | refine below_set ?_ GE164.out | refine below_set ?_ GE171.out | refine below_set ?_ GE179.out | refine below_set ?_ GE186.out) | exact HB.out)) hb); clear HO_172001; clear HO185; clear BK164; clear BK171; clear BK179; clear BK186; clear HB; have HO_172001 := n0_; have HO185 := n1_; have BK164 := n2_; have BK171 := n3_; have BK179 := n4_; have BK186 := n5_; have HB := n6_; clear n0_ n1_ n2_ n3_ n4_ n5_ n6_; (try clear hb); (try clear hb2); (try clear hk); (try clear hi)))
                 (try simp only [Act.put, List.setIfInBounds_toArray, List.set_cons_zero, List.set_cons_succ])
                 go_cut [75] (fun v75 wc => ∃ (kq : Nat) (x75_75 : Bool), v75 = .bool x75_75 ∧ Aside0 (impl_leastHops.j2 kq t166 x7_1 t192 (t168.length : Int) x31_1 x75_75 a0_0 l0_1 t167 x172001_1 ((rd_T30 (rd_L2 t168 t166) (ji11)).f0) ((rd_T30 (rd_L2 t168 t166) (ji11)).f1) = some r) ∧ Aside0 (kq ≤ kj61) ∧ Aside0 (Kd.S (Kd.slice 30 k30) 28 wc w.heap.size (fun k_ => some k_ ≠ ((.slice (some ⟨go90, 0, none⟩) t183.length co87) : Value).ownBlock ∧ k_ ≠ gb179) (.slice Ao80 x172001_1.length co80) x172001_1) ∧ Aside0 (Kd.S (Kd.slice 30 k30) 28 wc w.heap.size (fun k_ => some k_ ≠ ((.slice Ao80 x172001_1.length co80) : Value).ownBlock ∧ k_ ≠ gb179) (.slice (some ⟨go90, 0, none⟩) t183.length co87) y191) ∧ Aside0 (wc.heap[gb164]? = some (.cells #[.int .i64 a0_0, (.slice A0_1 l0_1.length c0_1)] 24 (0, 0))) ∧ Aside0 (wc.heap[gb171]? = some (.cells #[.int .i64 t167, (.slice Ao80 x172001_1.length co80)] 24 (0, 0))) ∧ Aside0 (wc.heap[gb179]? = some (.cells #[.int .i64 ((rd_T30 (rd_L2 t168 t166) (ji11)).f0), .int .i64 ((rd_T30 (rd_L2 t168 t166) (ji11)).f1)] 30 (0, 0))) ∧ Aside0 (wc.heap[gb186]? = some (.cells #[.int .i64 t182, (.slice (some ⟨go90, 0, none⟩) t183.length co87)] 24 (0, 0))) ∧ Aside0 (Below w.heap.size w wc))
                 case first =>
                  have H := HC76.out
                  clear HC76
                  by_cases c98 : t192 ≥ 0
                  ·rw [if_pos c98] at H
                   have c98b0 : decide (0 ≤ t192) = true := decide_eq_true c98
                   clear c98
                   (first | rw [c98b0] | (simp only [i64_w, i32_w]; rw [c98b0]) | skip)
                   by_cases c99 : x7_1 < 0
                   ·rw [if_pos c99] at H
                    have c99b0 : decide (x7_1 < 0) = true := decide_eq_true c99
                    clear c99
                    have H' := Aside0.mk H
                    clear H
                    go_wp2
                    go_meet
                    case rel => exact ⟨_, (true), (by first | rfl | (simp; done) | (simp [*]; done)), H', ⟨by have := HK1.out; have := HJ61.out; first | omega | exact Nat.le_refl _⟩, ⟨by (with_reducible repeat (first | apply Kd.S_alloc | apply Kd.S_drewN | apply Kd.S_drew)); exact Kd.S_mono HO_172001.out (fun _ hk => ⟨hk.1.1, hk.1.2⟩)⟩, ⟨by (with_reducible repeat (first | apply Kd.S_alloc | apply Kd.S_drewN | apply Kd.S_drew)); exact HO185.out⟩, ⟨by (with_reducible repeat (first | refine blk_drewN ?_ _ | refine blk_drew ?_ | refine blk_alloc ?_ _)); exact BK164.out⟩, ⟨by (with_reducible repeat (first | refine blk_drewN ?_ _ | refine blk_drew ?_ | refine blk_alloc ?_ _)); exact BK171.out⟩, ⟨by (with_reducible repeat (first | refine blk_drewN ?_ _ | refine blk_drew ?_ | refine blk_alloc ?_ _)); exact BK179.out⟩, ⟨by (with_reducible repeat (first | refine blk_drewN ?_ _ | refine blk_drew ?_ | refine blk_alloc ?_ _)); exact BK186.out⟩, ⟨by repeat (first | (with_reducible first | exact HB.out | apply below_alloc | apply pw_below_drewN | apply below_drew1 | refine below_set ?_ GE164.out | refine below_set ?_ GE171.out | refine below_set ?_ GE179.out | refine below_set ?_ GE186.out) | exact HB.out)⟩⟩
                   ·rw [if_neg c99] at H
                    have c99b0 : decide (x7_1 < 0) = false := decide_eq_false c99
                    clear c99
                    have H' := Aside0.mk H
                    clear H
                    go_wp2
                    go_meet
                    case rel => exact ⟨_, (decide ((wrap64 (t192 + 1)) < x7_1)), (by first | rfl | (simp; done) | (simp [*]; done)), H', ⟨by have := HK1.out; have := HJ61.out; first | omega | exact Nat.le_refl _⟩, ⟨by (with_reducible repeat (first | apply Kd.S_alloc | apply Kd.S_drewN | apply Kd.S_drew)); exact Kd.S_mono HO_172001.out (fun _ hk => ⟨hk.1.1, hk.1.2⟩)⟩, ⟨by (with_reducible repeat (first | apply Kd.S_alloc | apply Kd.S_drewN | apply Kd.S_drew)); exact HO185.out⟩, ⟨by (with_reducible repeat (first | refine blk_drewN ?_ _ | refine blk_drew ?_ | refine blk_alloc ?_ _)); exact BK164.out⟩, ⟨by (with_reducible repeat (first | refine blk_drewN ?_ _ | refine blk_drew ?_ | refine blk_alloc ?_ _)); exact BK171.out⟩, ⟨by (with_reducible repeat (first | refine blk_drewN ?_ _ | refine blk_drew ?_ | refine blk_alloc ?_ _)); exact BK179.out⟩, ⟨by (with_reducible repeat (first | refine blk_drewN ?_ _ | refine blk_drew ?_ | refine blk_alloc ?_ _)); exact BK186.out⟩, ⟨by repeat (first | (with_reducible first | exact HB.out | apply below_alloc | apply pw_below_drewN | apply below_drew1 | refine below_set ?_ GE164.out | refine below_set ?_ GE171.out | refine below_set ?_ GE179.out | refine below_set ?_ GE186.out) | exact HB.out)⟩⟩
                  ·rw [if_neg c98] at H
                   have c98b0 : decide (0 ≤ t192) = false := decide_eq_false c98
                   clear c98
                   (first | rw [c98b0] | (simp only [i64_w, i32_w]; rw [c98b0]) | skip)
                   have H' := Aside0.mk H
                   clear H
                   go_wp2
                   go_meet
                   case rel => exact ⟨_, (false), (by first | rfl | (simp; done) | (simp [*]; done)), H', ⟨by have := HK1.out; have := HJ61.out; first | omega | exact Nat.le_refl _⟩, ⟨by (with_reducible repeat (first | apply Kd.S_alloc | apply Kd.S_drewN | apply Kd.S_drew)); exact Kd.S_mono HO_172001.out (fun _ hk => ⟨hk.1.1, hk.1.2⟩)⟩, ⟨by (with_reducible repeat (first | apply Kd.S_alloc | apply Kd.S_drewN | apply Kd.S_drew)); exact HO185.out⟩, ⟨by (with_reducible repeat (first | refine blk_drewN ?_ _ | refine blk_drew ?_ | refine blk_alloc ?_ _)); exact BK164.out⟩, ⟨by (with_reducible repeat (first | refine blk_drewN ?_ _ | refine blk_drew ?_ | refine blk_alloc ?_ _)); exact BK171.out⟩, ⟨by (with_reducible repeat (first | refine blk_drewN ?_ _ | refine blk_drew ?_ | refine blk_alloc ?_ _)); exact BK179.out⟩, ⟨by (with_reducible repeat (first | refine blk_drewN ?_ _ | refine blk_drew ?_ | refine blk_alloc ?_ _)); exact BK186.out⟩, ⟨by repeat (first | (with_reducible first | exact HB.out | apply below_alloc | apply pw_below_drewN | apply below_drew1 | refine below_set ?_ GE164.out | refine below_set ?_ GE171.out | refine below_set ?_ GE179.out | refine below_set ?_ GE186.out) | exact HB.out)⟩⟩
                 case rest =>
                  clear HC76
                  try clear c1
                  try clear p1
                  try clear q1
                  try clear hx1
                  try clear hf1
                  try clear c2
                  try clear p2
                  try clear c3
                  try clear c3b0
                  try clear c3b1
                  try clear q3
                  try clear hx3
                  try clear hf3
                  try clear c4
                  try clear c5
                  try clear q5
                  try clear hx5
                  try clear hf5
                  try clear c6
                  try clear p6
                  try clear c7
                  try clear p7
                  try clear q7
                  try clear c8
                  try clear c9
                  try clear c9b0
                  try clear hx9
                  try clear hf9
                  try clear c10
                  try clear c10b0
                  try clear c12
                  try clear c12b0
                  try clear c13
                  try clear c13b0
                  try clear c14
                  try clear c14b0
                  try clear c14b1
                  try clear c15
                  try clear p15
                  try clear q15
                  try clear hx15
                  try clear hf15
                  try clear c16
                  try clear c16b0
                  try clear c16b1
                  try clear c17
                  try clear p17
                  try clear q17
                  try clear hx17
                  try clear c18
                  try clear p18
                  try clear q18
                  try clear hx18
                  try clear c26
                  try clear q31
                  try clear c32
                  try clear hx32
                  try clear hf32
                  try clear c35
                  try clear c36
                  try clear c48
                  try clear c51
                  try clear q53
                  try clear c54
                  try clear hx54
                  try clear hf54
                  try clear c57
                  try clear c58
                  try clear c60
                  try clear c61
                  try clear c61b0
                  try clear c63
                  try clear c63b0
                  try clear c63b1
                  try clear p64
                  try clear c65
                  try clear c65b0
                  try clear c66
                  try clear c66b0
                  try clear c67
                  try clear c69
                  try clear c71
                  try clear c71b0
                  try clear c72
                  try clear c72b0
                  try clear c73
                  try clear p74
                  try clear q74
                  try clear c77
                  try clear c78
                  try clear c83
                  try clear c84
                  try clear c85
                  try clear c90
                  try clear c92
                  try clear hx92
                  try clear hf92
                  try clear c98
                  try clear c98b0
                  try clear c99
                  try clear c99b0
                  try clear hcz19_0
                  try clear hcz19_1
                  try clear hcz21_0
                  try clear hcz21_1
                  try clear hcz23_0
                  try clear hcz23_1
                  try clear hcz27_0
                  try clear hcz27_1
                  try clear hcz30_0
                  try clear hcz30_1
                  try clear hcz37_0
                  try clear hcz37_1
                  try clear hcz38_0
                  try clear hcz38_1
                  try clear hcz41_0
                  try clear hcz41_1
                  try clear hcz43_0
                  try clear hcz43_1
                  try clear hcz45_0
                  try clear hcz45_1
                  try clear hcz49_0
                  try clear hcz49_1
                  try clear hcz52_0
                  try clear hcz52_1
                  try clear hcz59_0
                  try clear hcz59_1
                  try clear hcz5_0
                  try clear hcz5_1
                  try clear hcz60_0
                  try clear hcz60_1
                  try clear hcz79_0
                  try clear hcz79_1
                  try clear hcz86_0
                  try clear hcz86_1
                  try clear hcz96_0
                  try clear hcz96_1
                  try clear hfz19_0
                  try clear hfz19_1
                  try clear hfz21_0
                  try clear hfz21_1
                  try clear hfz23_0
                  try clear hfz23_1
                  try clear hfz27_0
                  try clear hfz27_1
                  try clear hfz30_0
                  try clear hfz30_1
                  try clear hfz37_0
                  try clear hfz37_1
                  try clear hfz38_0
                  try clear hfz38_1
                  try clear hfz41_0
                  try clear hfz41_1
                  try clear hfz43_0
                  try clear hfz43_1
                  try clear hfz45_0
                  try clear hfz45_1
                  try clear hfz49_0
                  try clear hfz49_1
                  try clear hfz52_0
                  try clear hfz52_1
                  try clear hfz59_0
                  try clear hfz59_1
                  try clear hfz5_0
                  try clear hfz5_1
                  try clear hfz60_0
                  try clear hfz60_1
                  try clear hfz79_0
                  try clear hfz79_1
                  try clear hfz86_0
                  try clear hfz86_1
                  try clear hfz96_0
                  try clear hfz96_1
                  try clear hx15_0
                  try clear hx172_0
                  try clear hx173_0
                  try clear hx173_1
                  try clear hx181_0
                  try clear hx187_0
                  try clear hx32_0
                  try clear hx54_0
                  try clear hx92_0
                  try clear p1
                  try clear p15
                  try clear p17
                  try clear p172
                  try clear p173
                  try clear p18
                  try clear p181
                  try clear p187
                  try clear p2
                  try clear p6
                  try clear p64
                  try clear p74
                  try clear q1
                  try clear q15
                  try clear q17
                  try clear q172
                  try clear q173
                  try clear q18
                  try clear q181
                  try clear q187
                  try clear q3
                  try clear q31
                  try clear q5
                  try clear q53
                  try clear q74
                  obtain ⟨kq, x75_75, rfl, HA, HJ75, HO_172001, HO_187001, BK164, BK171, BK179, BK186, HB⟩ := hcut
                  have hl187001_75 := (Kd.S_reads' HO_187001.out).1
                  rw [hl187001_75] at HO_187001
                  (try simp only [hl187001_75])
                  (try simp only [hl187001_75] at BK164)
                  (try simp only [hl187001_75] at BK171)
                  (try simp only [hl187001_75] at BK179)
                  (try simp only [hl187001_75] at BK186)
                  (try simp only [hl187001_75] at HO_172001)
                  cases kq with
                  | zero => exact absurd HA.out (by simp [impl_leastHops.j2])
                  | succ kj75 =>
                   have H := HA.out
                   clear HA
                   simp only [impl_leastHops.j2] at H
                   by_cases c100 : x75_75 = true
                   ·subst c100
                    have H1 : (impl_leastHops.l0 kj75 t166 (wrap64 (t192 + 1)) (t168.length : Int) (wrap64 (x31_1 + 1)) a0_0 l0_1 t167 x172001_1 ((rd_T30 (rd_L2 t168 t166) (ji11)).f0) ((rd_T30 (rd_L2 t168 t166) (ji11)).f1)) = some r := by rw [if_pos rfl] at H; exact H
                    clear H
                    have H := H1
                    clear H1
                    have H' := Aside0.mk H
                    clear H
                    go_wp2
                    (try simp only [← hl187001_75])
                    go_roundg kj75
                    case measure => have := HK1.out; have := HJ61.out; have := HJ75.out; omega
                    case rel => exact ⟨(wrap64 (t192 + 1)), (wrap64 (x31_1 + 1)), (x172001_1), (.slice Ao80 x172001_1.length co80), (by first | rfl | (simp; done) | (simp [*]; done)), (by first | rfl | (simp; done) | (simp [*]; done)), H', ⟨by have := HK1.out; have := HJ61.out; have := HJ75.out; omega⟩, ⟨by (try simp only [hl187001_75]); (with_reducible repeat (first | apply Kd.S_alloc | apply Kd.S_drewN | apply Kd.S_drew)); exact Kd.S_mono HO_172001.out (fun _ hk => hk.2)⟩, ⟨by (try simp only [hl187001_75]); (with_reducible repeat (first | refine blk_drewN ?_ _ | refine blk_drew ?_ | refine blk_alloc ?_ _)); exact BK164.out⟩, ⟨by (try simp only [hl187001_75]); (with_reducible repeat (first | refine blk_drewN ?_ _ | refine blk_drew ?_ | refine blk_alloc ?_ _)); exact BK171.out⟩, ⟨by (try simp only [hl187001_75]); (with_reducible repeat (first | refine blk_drewN ?_ _ | refine blk_drew ?_ | refine blk_alloc ?_ _)); exact BK179.out⟩, ⟨by repeat (first | (with_reducible first | exact HB.out | apply below_alloc | apply pw_below_drewN | apply below_drew1 | refine below_set ?_ GE164.out | refine below_set ?_ GE171.out | refine below_set ?_ GE179.out | refine below_set ?_ GE186.out) | exact HB.out)⟩⟩
                   ·replace c100 := Bool.eq_false_iff.mpr c100
                    subst c100
                    have H1 : (impl_leastHops.l0 kj75 t166 x7_1 (t168.length : Int) (wrap64 (x31_1 + 1)) a0_0 l0_1 t167 x172001_1 ((rd_T30 (rd_L2 t168 t166) (ji11)).f0) ((rd_T30 (rd_L2 t168 t166) (ji11)).f1)) = some r := by rw [if_neg (show ¬ (false = true) by decide)] at H; exact H
                    clear H
                    have H := H1
                    clear H1
                    have H' := Aside0.mk H
                    clear H
                    go_wp2
                    (try simp only [← hl187001_75])
                    go_roundg kj75
                    case measure => have := HK1.out; have := HJ61.out; have := HJ75.out; omega
                    case rel => exact ⟨(x7_1), (wrap64 (x31_1 + 1)), (x172001_1), (.slice Ao80 x172001_1.length co80), (by first | rfl | (simp; done) | (simp [*]; done)), (by first | rfl | (simp; done) | (simp [*]; done)), H', ⟨by have := HK1.out; have := HJ61.out; have := HJ75.out; omega⟩, ⟨by (try simp only [hl187001_75]); (with_reducible repeat (first | apply Kd.S_alloc | apply Kd.S_drewN | apply Kd.S_drew)); exact Kd.S_mono HO_172001.out (fun _ hk => hk.2)⟩, ⟨by (try simp only [hl187001_75]); (with_reducible repeat (first | refine blk_drewN ?_ _ | refine blk_drew ?_ | refine blk_alloc ?_ _)); exact BK164.out⟩, ⟨by (try simp only [hl187001_75]); (with_reducible repeat (first | refine blk_drewN ?_ _ | refine blk_drew ?_ | refine blk_alloc ?_ _)); exact BK171.out⟩, ⟨by (try simp only [hl187001_75]); (with_reducible repeat (first | refine blk_drewN ?_ _ | refine blk_drew ?_ | refine blk_alloc ?_ _)); exact BK179.out⟩, ⟨by repeat (first | (with_reducible first | exact HB.out | apply below_alloc | apply pw_below_drewN | apply below_drew1 | refine below_set ?_ GE164.out | refine below_set ?_ GE171.out | refine below_set ?_ GE179.out | refine below_set ?_ GE186.out) | exact HB.out)⟩⟩
                ·rw [if_neg c73] at H
                 exact absurd H (by simp)
               ·rw [if_neg c72] at H
                exact absurd H (by simp)
              ·rw [if_neg c71] at H
               exact absurd H (by simp)
          ·rw [if_neg c61] at H
           have c61b0 : decide (x31_1 < (t168.length : Int)) = false := decide_eq_false c61
           clear c61
           obtain rfl := Option.some.inj H
           go_wp2
           go_ret
           exact ⟨by first | rfl | (simp [errW_none, errW_some] <;> rfl) | (simp only [← hji11]; first | rfl | (simp [errW_none, errW_some] <;> rfl)) | (simp [*, errW_none, errW_some] <;> rfl), by repeat (first | (with_reducible first | exact HB.out | apply below_alloc | apply pw_below_drewN | apply below_drew1 | refine below_set ?_ GE164.out | refine below_set ?_ GE171.out | refine below_set ?_ GE179.out) | exact HB.out)⟩
      ·rw [if_neg c14] at H
       exact absurd H (by simp)
     ·rw [if_neg c13] at H
      exact absurd H (by simp)
    ·rw [if_neg c12] at H
     exact absurd H (by simp)
   ·rw [if_neg c10] at H
    exact absurd H (by simp)
  ·rw [if_neg c9] at H
   exact absurd H (by simp)

def impl_LeastHops.j0 : Nat → Bool → Int → List (List (S30)) → Option (Int × Bool)
 | 0, _, _, _ => none
 | k + 1, x13, x194000, x194001 => if x13 = true then (some (0, false)) else ((impl_leastHops.f k x194000 x194001).bind fun t198 => (if t198 < 0 then (some (0, false)) else (some (t198, true))))
def impl_LeastHops.f (k : Nat) (a0_0 : Int) (l0_1 : List (List (S30))) : Option (Int × Bool) := (impl_StoreOk.f k a0_0 l0_1).bind fun t194 => (if t194 = true then ((impl_bagsIn.f k a0_0 l0_1).bind fun t195 => (impl_LeastHops.j0 k (decide ((t195.length : Int) > 5)) a0_0 l0_1)) else (impl_LeastHops.j0 k true a0_0 l0_1))
set_option maxHeartbeats 8000000 in
set_option maxRecDepth 100000 in
theorem impl_LeastHops.calls (k : Nat) (a0_0 : Int) (A0_1 : Option Addr) (c0_1 : Nat) (l0_1 : List (List (S30))) (r1 : Int) (r2 : Bool) (w : World) (hr0_1 : Kd.C (Kd.slice 30 k30) w A0_1 l0_1.length l0_1) (hc0_1 : l0_1.length ≤ c0_1) (h : impl_LeastHops.f k a0_0 l0_1 = some (r1, r2)) :
  Calls Try.prog 18 #[.agg #[.int .i64 a0_0, .slice A0_1 l0_1.length c0_1]] w fun e w' => e = .returned (.tuple #[.int .i64 r1, .bool r2]) ∧ Below w.heap.size w w' := by
 have hu24 := Try.underlying24
 have HR0_1 := Aside0.mk hr0_1
 have HC0_1 := Aside0.mk hc0_1
 clear hr0_1 hc0_1
 have HB := Aside0.mk (Below.refl w.heap.size w)
 have H : ((impl_StoreOk.f k a0_0 l0_1).bind fun t194 => (if t194 = true then ((impl_bagsIn.f k a0_0 l0_1).bind fun t195 => (impl_LeastHops.j0 k (decide ((t195.length : Int) > 5)) a0_0 l0_1)) else (impl_LeastHops.j0 k true a0_0 l0_1))) = some (r1, r2) := h
 clear h
 have HC2 := Aside0.mk H
 clear H
 go_enter Try.func18, Try.ntmps18
 go_upto_region 1 with (first | ((with_reducible refine gate_dst (N := 1) rfl ?_); (try (refine gate_guard (by rfl) ?_; dsimp only)); refine box_event ?hg (N := 1) ?hd (cs := #[.int .i64 a0_0, .slice A0_1 l0_1.length c0_1]) (t := 24) ?hr ?_; (case hd => rfl); (case hg => rfl); (case hr => first | (go_simp; done) | (go_simp; rfl)); intro gb193 hg w3 hbox hb; have n0_ := Aside0.mk (below_step (by repeat (first | (with_reducible first | exact HB.out | apply below_alloc | apply pw_below_drewN | apply below_drew1) | exact HB.out)) hb); have n1_ := Aside0.mk (hbox); have n2_ := Aside0.mk ((by rw [hg]; exact (below_size (by repeat (first | (with_reducible first | exact HB.out | apply below_alloc | apply pw_below_drewN | apply below_drew1) | exact HB.out))) : w.heap.size ≤ gb193)); have n3_ := Aside0.mk ((by rw [hg]; exact (below_size (by repeat (first | (with_reducible first | exact HB.out | apply below_alloc | apply pw_below_drewN | apply below_drew1) | exact HB.out))) : w.heap.size ≤ gb193)); clear HB; have HB := n0_; have BK193 := n1_; have GW193 := n2_; have GE193 := n3_; clear n0_ n1_ n2_ n3_; clear hb hbox hg))
 (try simp only [Act.put, List.setIfInBounds_toArray, List.set_cons_zero, List.set_cons_succ])
 go_cut [13] (fun v13 wc => ∃ (kq : Nat) (x13_1 : Bool), v13 = .bool x13_1 ∧ Aside0 (impl_LeastHops.j0 kq x13_1 a0_0 l0_1 = some (r1, r2)) ∧ Aside0 (kq ≤ k) ∧ Aside0 (wc.heap[gb193]? = some (.cells #[.int .i64 a0_0, (.slice A0_1 l0_1.length c0_1)] 24 (0, 0))) ∧ Aside0 (Below w.heap.size w wc))
 case first =>
  have H := HC2.out
  clear HC2
  replace H := Option.bind_eq_some_iff.mp H
  obtain ⟨t194, A40, H⟩ := H
  replace H : (if t194 = true then ((impl_bagsIn.f k a0_0 l0_1).bind fun t195 => (impl_LeastHops.j0 k (decide ((t195.length : Int) > 5)) a0_0 l0_1)) else (impl_LeastHops.j0 k true a0_0 l0_1)) = some (r1, r2) := H
  have A4 := Aside0.mk A40
  clear A40
  by_cases c5 : t194 = true
  ·subst c5
   have H1 : ((impl_bagsIn.f k a0_0 l0_1).bind fun t195 => (impl_LeastHops.j0 k (decide ((t195.length : Int) > 5)) a0_0 l0_1)) = some (r1, r2) := by rw [if_pos rfl] at H; exact H
   clear H
   have H := H1
   clear H1
   replace H := Option.bind_eq_some_iff.mp H
   obtain ⟨t195, A60, H⟩ := H
   replace H : (impl_LeastHops.j0 k (decide ((t195.length : Int) > 5)) a0_0 l0_1) = some (r1, r2) := H
   have A6 := Aside0.mk A60
   clear A60
   have H' := Aside0.mk H
   clear H
   have hcz7_0 : w3.cell? ⟨gb193, 0, none⟩ = some (.int .i64 a0_0) := (blk_cell BK193.out 0).trans rfl
   have hcz7_1 : w3.cell? ⟨gb193, 1, none⟩ = some (.slice A0_1 l0_1.length c0_1) := (blk_cell BK193.out 1).trans rfl
   have hfz7_0 := blk_frozen BK193.out 0
   have hfz7_1 := blk_frozen BK193.out 1
   go_wp2_with (first | ((with_reducible refine gate_callee (f := 22) rfl ?_); refine goesL_ (some 6) rfl rfl Try.func22 (by kernel_rfl) rfl #[.agg #[.int .i64 a0_0, .slice A0_1 l0_1.length c0_1]] rfl (by (try simp only [List.map_toArray, List.map_cons, List.map_nil]); first | done | rfl | (simp only [List.length_drop, List.length_take]; rfl)) ?_; (with_reducible refine (impl_StoreOk.calls k a0_0 _ _ l0_1 true _ ?side1 ?side2 A4.out).mono ?_); (case side1 => repeat (first | exact (Kd.C_below HR0_1.out HB.out) | (with_reducible refine Kd.C_alloc ?_ _) | (with_reducible refine Kd.C_drewN ?_ _) | (with_reducible refine Kd.C_drew ?_))); (case side2 => exact HC0_1.out); rintro e w8 ⟨rfl, hb⟩; refine ⟨_, rfl, ?_⟩; have n0_ := Aside0.mk (blk_below (g := gb193) (o := .cells #[.int .i64 a0_0, .slice A0_1 l0_1.length c0_1] 24 (0, 0)) (by (with_reducible repeat (first | refine blk_drewN ?_ _ | refine blk_drew ?_ | refine blk_alloc ?_ _)); exact BK193.out) hb); have n1_ := Aside0.mk (below_step (by repeat (first | (with_reducible first | exact HB.out | apply below_alloc | apply pw_below_drewN | apply below_drew1 | refine below_set ?_ GE193.out) | exact HB.out)) hb); clear BK193; clear HB; have BK193 := n0_; have HB := n1_; clear n0_ n1_; (try clear hb); (try clear hb2); (try clear hk); (try clear hi); have hcz9_0 : w8.cell? ⟨gb193, 0, none⟩ = some (.int .i64 a0_0) := (blk_cell BK193.out 0).trans rfl; have hcz9_1 : w8.cell? ⟨gb193, 1, none⟩ = some (.slice A0_1 l0_1.length c0_1) := (blk_cell BK193.out 1).trans rfl; have hfz9_0 := blk_frozen BK193.out 0; have hfz9_1 := blk_frozen BK193.out 1) | (go_at_call 50; (with_reducible refine (impl_bagsIn.calls k a0_0 _ _ l0_1 t195 _ ?side1 ?side2 A6.out).mono ?_); (case side1 => repeat (first | exact (Kd.C_below HR0_1.out HB.out) | (with_reducible refine Kd.C_alloc ?_ _) | (with_reducible refine Kd.C_drewN ?_ _) | (with_reducible refine Kd.C_drew ?_))); (case side2 => exact HC0_1.out); rintro e w10 ⟨v196, rfl, ho0, hb⟩; have n0_ := Aside0.mk (Kd.R_lower ho0 (below_size (by repeat (first | (with_reducible first | exact HB.out | apply below_alloc | apply pw_below_drewN | apply below_drew1 | refine below_set ?_ GE193.out) | exact HB.out)))); have n1_ := Aside0.mk (blk_below (g := gb193) (o := .cells #[.int .i64 a0_0, .slice A0_1 l0_1.length c0_1] 24 (0, 0)) (by (with_reducible repeat (first | refine blk_drewN ?_ _ | refine blk_drew ?_ | refine blk_alloc ?_ _)); exact BK193.out) hb); have n2_ := Aside0.mk (below_step (by repeat (first | (with_reducible first | exact HB.out | apply below_alloc | apply pw_below_drewN | apply below_drew1 | refine below_set ?_ GE193.out) | exact HB.out)) hb); clear BK193; clear HB; have HO197 := n0_; have BK193 := n1_; have HB := n2_; clear n0_ n1_ n2_; (try clear hb); (try clear hb2); (try clear hk); (try clear hi); (try clear ho0); obtain ⟨Ao11, co11, eo11⟩ := Kd.R_slice HO197.out; subst eo11))
   go_meet
   case rel => exact ⟨_, (decide ((t195.length : Int) > 5)), (by first | rfl | (simp; done) | (simp [*]; done)), H', ⟨by first | omega | exact Nat.le_refl _⟩, ⟨by (with_reducible repeat (first | refine blk_drewN ?_ _ | refine blk_drew ?_ | refine blk_alloc ?_ _)); exact BK193.out⟩, ⟨by repeat (first | (with_reducible first | exact HB.out | apply below_alloc | apply pw_below_drewN | apply below_drew1 | refine below_set ?_ GE193.out) | exact HB.out)⟩⟩
  ·replace c5 := Bool.eq_false_iff.mpr c5
   subst c5
   have H1 : (impl_LeastHops.j0 k true a0_0 l0_1) = some (r1, r2) := by rw [if_neg (show ¬ (false = true) by decide)] at H; exact H
   clear H
   have H := H1
   clear H1
   have H' := Aside0.mk H
   clear H
   have hcz12_0 : w3.cell? ⟨gb193, 0, none⟩ = some (.int .i64 a0_0) := (blk_cell BK193.out 0).trans rfl
   have hcz12_1 : w3.cell? ⟨gb193, 1, none⟩ = some (.slice A0_1 l0_1.length c0_1) := (blk_cell BK193.out 1).trans rfl
   have hfz12_0 := blk_frozen BK193.out 0
   have hfz12_1 := blk_frozen BK193.out 1
   go_wp2_with (first | ((with_reducible refine gate_callee (f := 22) rfl ?_); refine goesL_ (some 6) rfl rfl Try.func22 (by kernel_rfl) rfl #[.agg #[.int .i64 a0_0, .slice A0_1 l0_1.length c0_1]] rfl (by (try simp only [List.map_toArray, List.map_cons, List.map_nil]); first | done | rfl | (simp only [List.length_drop, List.length_take]; rfl)) ?_; (with_reducible refine (impl_StoreOk.calls k a0_0 _ _ l0_1 false _ ?side1 ?side2 A4.out).mono ?_); (case side1 => repeat (first | exact (Kd.C_below HR0_1.out HB.out) | (with_reducible refine Kd.C_alloc ?_ _) | (with_reducible refine Kd.C_drewN ?_ _) | (with_reducible refine Kd.C_drew ?_))); (case side2 => exact HC0_1.out); rintro e w13 ⟨rfl, hb⟩; refine ⟨_, rfl, ?_⟩; have n0_ := Aside0.mk (blk_below (g := gb193) (o := .cells #[.int .i64 a0_0, .slice A0_1 l0_1.length c0_1] 24 (0, 0)) (by (with_reducible repeat (first | refine blk_drewN ?_ _ | refine blk_drew ?_ | refine blk_alloc ?_ _)); exact BK193.out) hb); have n1_ := Aside0.mk (below_step (by repeat (first | (with_reducible first | exact HB.out | apply below_alloc | apply pw_below_drewN | apply below_drew1 | refine below_set ?_ GE193.out) | exact HB.out)) hb); clear BK193; clear HB; have BK193 := n0_; have HB := n1_; clear n0_ n1_; (try clear hb); (try clear hb2); (try clear hk); (try clear hi)))
   go_meet
   case rel => exact ⟨_, (true), (by first | rfl | (simp; done) | (simp [*]; done)), H', ⟨by first | omega | exact Nat.le_refl _⟩, ⟨by (with_reducible repeat (first | refine blk_drewN ?_ _ | refine blk_drew ?_ | refine blk_alloc ?_ _)); exact BK193.out⟩, ⟨by repeat (first | (with_reducible first | exact HB.out | apply below_alloc | apply pw_below_drewN | apply below_drew1 | refine below_set ?_ GE193.out) | exact HB.out)⟩⟩
 case rest =>
  clear HC2
  try clear c1
  try clear c2
  try clear p2
  try clear c5
  try clear hcz12_0
  try clear hcz12_1
  try clear hcz7_0
  try clear hcz7_1
  try clear hcz9_0
  try clear hcz9_1
  try clear hfz12_0
  try clear hfz12_1
  try clear hfz7_0
  try clear hfz7_1
  try clear hfz9_0
  try clear hfz9_1
  obtain ⟨kq, x13_1, rfl, HA, HJ1, BK193, HB⟩ := hcut
  cases kq with
  | zero => exact absurd HA.out (by simp [impl_LeastHops.j0])
  | succ kj1 =>
   have H := HA.out
   clear HA
   simp only [impl_LeastHops.j0] at H
   by_cases c14 : x13_1 = true
   ·subst c14
    have H1 : (some (0, false)) = some (r1, r2) := by rw [if_pos rfl] at H; exact H
    clear H
    have H := H1
    clear H1
    simp only [Option.some.injEq, Prod.mk.injEq] at H
    obtain ⟨rfl, rfl⟩ := H
    go_wp2
    go_ret2
    exact ⟨by first | rfl | (simp [errW_none, errW_some] <;> rfl) | (simp [*, errW_none, errW_some] <;> rfl), by repeat (first | (with_reducible first | exact HB.out | apply below_alloc | apply pw_below_drewN | apply below_drew1 | refine below_set ?_ GE193.out) | exact HB.out)⟩
   ·replace c14 := Bool.eq_false_iff.mpr c14
    subst c14
    have H1 : ((impl_leastHops.f kj1 a0_0 l0_1).bind fun t198 => (if t198 < 0 then (some (0, false)) else (some (t198, true)))) = some (r1, r2) := by rw [if_neg (show ¬ (false = true) by decide)] at H; exact H
    clear H
    have H := H1
    clear H1
    replace H := Option.bind_eq_some_iff.mp H
    obtain ⟨t198, A150, H⟩ := H
    replace H : (if t198 < 0 then (some (0, false)) else (some (t198, true))) = some (r1, r2) := H
    have A15 := Aside0.mk A150
    clear A150
    by_cases c16 : t198 < 0
    ·rw [if_pos c16] at H
     have c16b0 : decide (t198 < 0) = true := decide_eq_true c16
     clear c16
     simp only [Option.some.injEq, Prod.mk.injEq] at H
     obtain ⟨rfl, rfl⟩ := H
     have hcz17_0 : wc.cell? ⟨gb193, 0, none⟩ = some (.int .i64 a0_0) := (blk_cell BK193.out 0).trans rfl
     have hcz17_1 : wc.cell? ⟨gb193, 1, none⟩ = some (.slice A0_1 l0_1.length c0_1) := (blk_cell BK193.out 1).trans rfl
     have hfz17_0 := blk_frozen BK193.out 0
     have hfz17_1 := blk_frozen BK193.out 1
     go_wp2_with (first | ((with_reducible refine gate_callee (f := 51) rfl ?_); refine goesL_ (some 15) rfl rfl Try.func51 (by kernel_rfl) rfl #[.agg #[.int .i64 a0_0, .slice A0_1 l0_1.length c0_1]] rfl (by (try simp only [List.map_toArray, List.map_cons, List.map_nil]); first | done | rfl | (simp only [List.length_drop, List.length_take]; rfl)) ?_; (with_reducible refine (impl_leastHops.calls kj1 a0_0 _ _ l0_1 t198 _ ?side1 ?side2 A15.out).mono ?_); (case side1 => repeat (first | exact (Kd.C_below HR0_1.out HB.out) | (with_reducible refine Kd.C_alloc ?_ _) | (with_reducible refine Kd.C_drewN ?_ _) | (with_reducible refine Kd.C_drew ?_))); (case side2 => exact HC0_1.out); rintro e w18 ⟨rfl, hb⟩; refine ⟨_, rfl, ?_⟩; have n0_ := Aside0.mk (blk_below (g := gb193) (o := .cells #[.int .i64 a0_0, .slice A0_1 l0_1.length c0_1] 24 (0, 0)) (by (with_reducible repeat (first | refine blk_drewN ?_ _ | refine blk_drew ?_ | refine blk_alloc ?_ _)); exact BK193.out) hb); have n1_ := Aside0.mk (below_step (by repeat (first | (with_reducible first | exact HB.out | apply below_alloc | apply pw_below_drewN | apply below_drew1 | refine below_set ?_ GE193.out) | exact HB.out)) hb); clear BK193; clear HB; have BK193 := n0_; have HB := n1_; clear n0_ n1_; (try clear hb); (try clear hb2); (try clear hk); (try clear hi)))
     go_ret2
     exact ⟨by first | rfl | (simp [errW_none, errW_some] <;> rfl) | (simp [*, errW_none, errW_some] <;> rfl), by repeat (first | (with_reducible first | exact HB.out | apply below_alloc | apply pw_below_drewN | apply below_drew1 | refine below_set ?_ GE193.out) | exact HB.out)⟩
    ·rw [if_neg c16] at H
     have c16b0 : decide (t198 < 0) = false := decide_eq_false c16
     clear c16
     simp only [Option.some.injEq, Prod.mk.injEq] at H
     obtain ⟨rfl, rfl⟩ := H
     have hcz19_0 : wc.cell? ⟨gb193, 0, none⟩ = some (.int .i64 a0_0) := (blk_cell BK193.out 0).trans rfl
     have hcz19_1 : wc.cell? ⟨gb193, 1, none⟩ = some (.slice A0_1 l0_1.length c0_1) := (blk_cell BK193.out 1).trans rfl
     have hfz19_0 := blk_frozen BK193.out 0
     have hfz19_1 := blk_frozen BK193.out 1
     go_wp2_with (first | ((with_reducible refine gate_callee (f := 51) rfl ?_); refine goesL_ (some 15) rfl rfl Try.func51 (by kernel_rfl) rfl #[.agg #[.int .i64 a0_0, .slice A0_1 l0_1.length c0_1]] rfl (by (try simp only [List.map_toArray, List.map_cons, List.map_nil]); first | done | rfl | (simp only [List.length_drop, List.length_take]; rfl)) ?_; (with_reducible refine (impl_leastHops.calls kj1 a0_0 _ _ l0_1 t198 _ ?side1 ?side2 A15.out).mono ?_); (case side1 => repeat (first | exact (Kd.C_below HR0_1.out HB.out) | (with_reducible refine Kd.C_alloc ?_ _) | (with_reducible refine Kd.C_drewN ?_ _) | (with_reducible refine Kd.C_drew ?_))); (case side2 => exact HC0_1.out); rintro e w20 ⟨rfl, hb⟩; refine ⟨_, rfl, ?_⟩; have n0_ := Aside0.mk (blk_below (g := gb193) (o := .cells #[.int .i64 a0_0, .slice A0_1 l0_1.length c0_1] 24 (0, 0)) (by (with_reducible repeat (first | refine blk_drewN ?_ _ | refine blk_drew ?_ | refine blk_alloc ?_ _)); exact BK193.out) hb); have n1_ := Aside0.mk (below_step (by repeat (first | (with_reducible first | exact HB.out | apply below_alloc | apply pw_below_drewN | apply below_drew1 | refine below_set ?_ GE193.out) | exact HB.out)) hb); clear BK193; clear HB; have BK193 := n0_; have HB := n1_; clear n0_ n1_; (try clear hb); (try clear hb2); (try clear hk); (try clear hi)))
     go_ret2
     exact ⟨by first | rfl | (simp [errW_none, errW_some] <;> rfl) | (simp [*, errW_none, errW_some] <;> rfl), by repeat (first | (with_reducible first | exact HB.out | apply below_alloc | apply pw_below_drewN | apply below_drew1 | refine below_set ?_ GE193.out) | exact HB.out)⟩

end Go.Proofs.Ytheckjlldkkceaa.Px
