import Derived.Test.YtheckjlldkkceaaZnPx0
import Derived.Test.YtheckjlldkkceaaZnPx3
import Derived.Test.YtheckjlldkkceaaZnPx8
import Derived.Test.YtheckjlldkkceaaZnPx9
import Derived.Test.YtheckjlldkkceaaZnPx13
namespace Go.Proofs.Ytheckjlldkkceaa.Px
open Go.RowKit Go.Proofs.YtheckjlldkkceaaW.PrintWords Go.Proofs.YtheckjlldkkceaaW.PrintLast Go.Proofs.YtheckjlldkkceaaW.PrintMore
attribute [local go_sem] max2_int min2_int max_two min_two max_three min_three max_four min_four   
set_option linter.unusedVariables false
set_option linter.unusedSimpArgs false
mutual
def spec_l06Few.l0 : Nat → Int → Int → Int → Int → List (List (S30)) → Option (Int)
 | 0, _, _, _, _, _ => none
 | k + 1, x6, x9, x10, x450000, x450001 => if x10 < (x450001.length : Int) then (if x10 = x6 then (spec_l06Few.j1 k x6 x9 x10 false x450000 x450001) else (if 0 ≤ x10 then (spec_l06Few.j1 k x6 x9 x10 (decide (((rd_L2 x450001 x10).length : Int) < x450000)) x450000 x450001) else (none))) else (some x9)
def spec_l06Few.j1 : Nat → Int → Int → Int → Bool → Int → List (List (S30)) → Option (Int)
 | 0, _, _, _, _, _, _ => none
 | k + 1, x6, x9, x10, x78, x450000, x450001 => if x78 = true then ((spec_l06Hop.f k x450000 x450001 x6 x10).bind fun bt468 => ((spec_l06Few.f k bt468.1 bt468.2 (wrap64 (x9 - 2))).bind fun t472 => (spec_l06Few.l0 k x6 (mn x9 (wrap64 (1 + t472))) (wrap64 (x10 + 1)) x450000 x450001))) else (spec_l06Few.l0 k x6 x9 (wrap64 (x10 + 1)) x450000 x450001)
def spec_l06Few.f : Nat → Int → List (List (S30)) → Int → Option (Int)
 | 0, _, _, _ => none
 | k + 1, a0_0, l0_1, a1 => (spec_NextOut.f k a0_0 l0_1).bind fun t450 => (if t450 = 0 then (some 0) else ((spec_l06Find.f k a0_0 l0_1 t450).bind fun t451 => (if 0 ≤ t451 then (if t451 < (l0_1.length : Int) then (if 0 ≤ (wrap64 (((rd_L2 l0_1 t451).length : Int) - 1)) then (if (wrap64 (((rd_L2 l0_1 t451).length : Int) - 1)) < ((rd_L2 l0_1 t451).length : Int) then (if ((rd_T30 (rd_L2 l0_1 t451) (wrap64 (((rd_L2 l0_1 t451).length : Int) - 1))).f0) = t450 then ((spec_l06Copy.f k a0_0 l0_1).bind fun bt455 => (if t451 < (bt455.2.length : Int) then (if (wrap64 (((rd_L2 l0_1 t451).length : Int) - 1)) ≤ ((rd_L2 bt455.2 t451).length : Int) then ((spec_l06Few.f k bt455.1 (bt455.2.set (t451 : Int).toNat ((rd_L2 bt455.2 t451).take ((wrap64 (((rd_L2 l0_1 t451).length : Int) - 1)) : Int).toNat)) a1).bind fun t466 => (some t466)) else (none)) else (none))) else (if a1 ≤ 0 then (some (wrap64 (a1 + 1))) else (spec_l06Few.l0 k t451 (wrap64 (a1 + 1)) 0 a0_0 l0_1))) else (none)) else (none)) else (none)) else (none))))
end
def spec_l06Few.T8 : Bool × List (List Nat × List Nat) := (true, [([], []), ([0], [0]), ([], []), ([], []), ([3], [3]), ([], []), ([4, 5], [4, 5]), ([6], [6]), ([], []), ([7, 8], [7, 8]), ([1, 2, 0, 1, 2, 3, 4, 5, 6, 7, 8, 9], [1, 2]), ([10, 9, 0, 1, 2, 3, 4, 5, 6, 7, 8, 9], [9, 10])])
def spec_l06Few.B8 : List Nat := [0, 1, 0, 0, 8, 0, 56, 120, 0, 504, 1023, 2047]
theorem spec_l06Few.tab8 : rtab .any (opsOf Try.f63 8) = spec_l06Few.T8 := by kernel_rfl
theorem spec_l06Few.bits8 : waitsOk spec_l06Few.T8.2 spec_l06Few.B8 = true := by kernel_rfl
def spec_l06Few.T16 : Bool × List (List Nat × List Nat) := (true, [([], []), ([], []), ([0, 1], [0, 1]), ([2], [2]), ([3], [3]), ([4, 3], [3, 4]), ([3], [3]), ([5, 6, 3], [3, 5, 6]), ([7, 3], [3, 7]), ([8, 3], [3, 8]), ([3], [3]), ([10, 3], [3, 10]), ([9, 11, 3], [3, 9, 11]), ([3, 12], [3, 12])])
def spec_l06Few.B16 : List Nat := [0, 0, 3, 7, 15, 31, 15, 127, 255, 511, 15, 1039, 4095, 8191]
theorem spec_l06Few.tab16 : rtab .any (opsOf Try.f63 16) = spec_l06Few.T16 := by kernel_rfl
theorem spec_l06Few.bits16 : waitsOk spec_l06Few.T16.2 spec_l06Few.B16 = true := by kernel_rfl
set_option maxHeartbeats 8000000 in
set_option maxRecDepth 100000 in
theorem spec_l06Few.calls (k : Nat) : ∀ (a0_0 : Int) (av : Option Addr) (ae : Nat) (ac : List (List (S30))) (a1 : Int) (r : Int) (w : World) (cb : Kd.C (Kd.slice 30 k30) w av ac.length ac) (hc0_1 : ac.length ≤ ae) (h : spec_l06Few.f k a0_0 ac a1 = some r),
  Calls Try.prog 63 #[.agg #[.int .i64 a0_0, .slice av ac.length ae], .int .i64 a1] w fun e w' => e = .returned (.int .i64 r) ∧ Below w.heap.size w w' := by
 induction k using Nat.strongRecOn with
 | _ k ih =>
 intro a0_0 av ae ac a1 r w cb hc0_1 h
 cases k with
 | zero => exact absurd h (by simp [spec_l06Few.f])
 | succ k =>
 simp only [spec_l06Few.f] at h
 have hu24 := Try.underlying24; have ax := zK cb; have aL := zK hc0_1; clear cb hc0_1
 have HB := zK (Below.refl w.heap.size w)
 have H : ((spec_NextOut.f k a0_0 ac).bind fun aw => (if aw = 0 then (some 0) else ((spec_l06Find.f k a0_0 ac aw).bind fun ab => (if 0 ≤ ab then (if ab < (ac.length : Int) then (if 0 ≤ (wrap64 (((rd_L2 ac ab).length : Int) - 1)) then (if (wrap64 (((rd_L2 ac ab).length : Int) - 1)) < ((rd_L2 ac ab).length : Int) then (if ((rd_T30 (rd_L2 ac ab) (wrap64 (((rd_L2 ac ab).length : Int) - 1))).f0) = aw then ((spec_l06Copy.f k a0_0 ac).bind fun bt455 => (if ab < (bt455.2.length : Int) then (if (wrap64 (((rd_L2 ac ab).length : Int) - 1)) ≤ ((rd_L2 bt455.2 ab).length : Int) then ((spec_l06Few.f k bt455.1 (bt455.2.set (ab : Int).toNat ((rd_L2 bt455.2 ab).take ((wrap64 (((rd_L2 ac ab).length : Int) - 1)) : Int).toNat)) a1).bind fun aI => (some aI)) else (none)) else (none))) else (if a1 ≤ 0 then (some (wrap64 (a1 + 1))) else (spec_l06Few.l0 k ab (wrap64 (a1 + 1)) 0 a0_0 ac))) else (none)) else (none)) else (none)) else (none))))) = some r := h
 clear h; replace H := Option.bind_eq_some_iff.mp H
 obtain ⟨aw, A30, H⟩ := H
 replace H : (if aw = 0 then (some 0) else ((spec_l06Find.f k a0_0 ac aw).bind fun ab => (if 0 ≤ ab then (if ab < (ac.length : Int) then (if 0 ≤ (wrap64 (((rd_L2 ac ab).length : Int) - 1)) then (if (wrap64 (((rd_L2 ac ab).length : Int) - 1)) < ((rd_L2 ac ab).length : Int) then (if ((rd_T30 (rd_L2 ac ab) (wrap64 (((rd_L2 ac ab).length : Int) - 1))).f0) = aw then ((spec_l06Copy.f k a0_0 ac).bind fun bt455 => (if ab < (bt455.2.length : Int) then (if (wrap64 (((rd_L2 ac ab).length : Int) - 1)) ≤ ((rd_L2 bt455.2 ab).length : Int) then ((spec_l06Few.f k bt455.1 (bt455.2.set (ab : Int).toNat ((rd_L2 bt455.2 ab).take ((wrap64 (((rd_L2 ac ab).length : Int) - 1)) : Int).toNat)) a1).bind fun aI => (some aI)) else (none)) else (none))) else (if a1 ≤ 0 then (some (wrap64 (a1 + 1))) else (spec_l06Few.l0 k ab (wrap64 (a1 + 1)) 0 a0_0 ac))) else (none)) else (none)) else (none)) else (none)))) = some r := H
 have A3 := zK A30; clear A30
 by_cases c4 : aw = 0
 ·rw [if_pos c4] at H
  have c0 : (aw == 0) = true := beq_iff_eq.mpr c4
  have da : (aw != 0) = false := bne_eq_false_iff_eq.mpr c4
  clear c4; obtain rfl := Option.some.inj H
  go_enter Try.func63, Try.ntmps63
  go_wp2_with (first | ((with_reducible refine gate_dst (N := 2) rfl ?_); (try (refine gate_guard (by rfl) ?_; dsimp only)); refine box_event ?hg (N := 2) ?hd (cs := #[.int .i64 a0_0, .slice av ac.length ae]) (t := 24) ?hr ?_; (case hd => rfl); (case hg => rfl); (case hr => first | (go_simp; done) | (go_simp; rfl)); intro ad hg w5 hbox hb; have ar := zK (below_step (zb HB) hb); have au := zK (hbox); have aF := zK ((by rw [hg]; exact (below_size (zb HB)) : w.heap.size ≤ ad)); have aO := zK ((by rw [hg]; exact (below_size (zb HB)) : w.heap.size ≤ ad)); clear HB; have HB := ar; have aa := au; have cc := aF; have af := aO; clear ar au aF aO; clear hb hbox hg; have cd : w5.cell? ⟨ad, 0, none⟩ = some (.int .i64 a0_0) := (blk_cell aa.out 0).trans rfl; have ce : w5.cell? ⟨ad, 1, none⟩ = some (.slice av ac.length ae) := (blk_cell aa.out 1).trans rfl; have cf := blk_frozen aa.out 0; have cg := blk_frozen aa.out 1) | ((with_reducible refine gate_callee (f := 17) rfl ?_); refine goesL_ (some 12) rfl rfl Try.func17 (by kernel_rfl) rfl #[.agg #[.int .i64 a0_0, .slice av ac.length ae]] rfl (by (try simp only [List.map_toArray, List.map_cons, List.map_nil]); first | done | rfl | (simp only [List.length_drop, List.length_take]; rfl)) ?_; (with_reducible refine (spec_NextOut.calls k a0_0 _ _ ac aw _ ?side1 ?side2 A3.out).mono ?_); (case side1 => repeat (first | exact (Kd.C_below ax.out HB.out) | (with_reducible refine Kd.C_alloc ?_ _) | (with_reducible refine Kd.C_drewN ?_ _) | (with_reducible refine Kd.C_drew ?_))); (case side2 => exact aL.out); rintro e w7 ⟨rfl, hb⟩; refine ⟨_, rfl, ?_⟩; have ar := zK (blk_below (g := ad) (o := .cells #[.int .i64 a0_0, .slice av ac.length ae] 24 (0, 0)) (zk aa) hb); have au := zK (below_step (zb HB) hb); clear aa; clear HB; have aa := ar; have HB := au; clear ar au; (try clear hb)))
  go_ret
  exact ⟨by first | rfl | (simp [errW_none, errW_some] <;> rfl) | (simp [*, errW_none, errW_some] <;> rfl), by repeat (first | (with_reducible first | exact HB.out | apply zB | apply zC | apply zE | refine zS ?_ af.out) | exact HB.out)⟩
 ·rw [if_neg c4] at H
  have c0 : (aw == 0) = false := beq_eq_false_iff_ne.mpr c4
  have da : (aw != 0) = true := bne_iff_ne.mpr c4
  replace H := Option.bind_eq_some_iff.mp H
  obtain ⟨ab, A80, H⟩ := H
  replace H : (if 0 ≤ ab then (if ab < (ac.length : Int) then (if 0 ≤ (wrap64 (((rd_L2 ac ab).length : Int) - 1)) then (if (wrap64 (((rd_L2 ac ab).length : Int) - 1)) < ((rd_L2 ac ab).length : Int) then (if ((rd_T30 (rd_L2 ac ab) (wrap64 (((rd_L2 ac ab).length : Int) - 1))).f0) = aw then ((spec_l06Copy.f k a0_0 ac).bind fun bt455 => (if ab < (bt455.2.length : Int) then (if (wrap64 (((rd_L2 ac ab).length : Int) - 1)) ≤ ((rd_L2 bt455.2 ab).length : Int) then ((spec_l06Few.f k bt455.1 (bt455.2.set (ab : Int).toNat ((rd_L2 bt455.2 ab).take ((wrap64 (((rd_L2 ac ab).length : Int) - 1)) : Int).toNat)) a1).bind fun aI => (some aI)) else (none)) else (none))) else (if a1 ≤ 0 then (some (wrap64 (a1 + 1))) else (spec_l06Few.l0 k ab (wrap64 (a1 + 1)) 0 a0_0 ac))) else (none)) else (none)) else (none)) else (none)) = some r := H
  have A8 := zK A80; clear A80
  by_cases c9 : 0 ≤ ab
  ·rw [if_pos c9] at H
   have dy : decide (0 ≤ ab) = true := decide_eq_true c9
   clear c9
   by_cases c10 : ab < (ac.length : Int)
   ·rw [if_pos c10] at H
    have cJ : decide (ab < (ac.length : Int)) = true := decide_eq_true c10
    clear c10
    obtain ⟨ao, aY⟩ : ∃ j_ : Int, (wrap64 (((rd_L2 ac ab).length : Int) - 1)) = j_ := ⟨_, rfl⟩
    replace H : (if 0 ≤ (ao) then (if (ao) < ((rd_L2 ac ab).length : Int) then (if ((rd_T30 (rd_L2 ac ab) (ao)).f0) = aw then ((spec_l06Copy.f k a0_0 ac).bind fun bt455 => (if ab < (bt455.2.length : Int) then (if (ao) ≤ ((rd_L2 bt455.2 ab).length : Int) then ((spec_l06Few.f k bt455.1 (bt455.2.set (ab : Int).toNat ((rd_L2 bt455.2 ab).take ((ao) : Int).toNat)) a1).bind fun aI => (some aI)) else (none)) else (none))) else (if a1 ≤ 0 then (some (wrap64 (a1 + 1))) else (spec_l06Few.l0 k ab (wrap64 (a1 + 1)) 0 a0_0 ac))) else (none)) else (none)) = some r := by first | (rw [aY] at H; exact H) | (simp only [aY] at H ⊢; exact H)
    (try rw [aY] at A3); (try rw [aY] at A8)
    have hji11w : (IntKind.i64.wrap (((rd_L2 ac ab).length : Int) - 1)) = ao := (i64_w _).trans aY
    by_cases dv : 0 ≤ (ao)
    ·rw [if_pos dv] at H
     have cK : decide (0 ≤ (ao)) = true := decide_eq_true dv
     clear dv
     by_cases dw : (ao) < ((rd_L2 ac ab).length : Int)
     ·rw [if_pos dw] at H
      have cL : decide ((ao) < ((rd_L2 ac ab).length : Int)) = true := decide_eq_true dw
      clear dw
      by_cases cw : ((rd_T30 (rd_L2 ac ab) (ao)).f0) = aw
      ·rw [if_pos cw] at H
       have ch : (((rd_T30 (rd_L2 ac ab) (ao)).f0) == aw) = true := beq_iff_eq.mpr cw
       have ci : (((rd_T30 (rd_L2 ac ab) (ao)).f0) != aw) = false := bne_eq_false_iff_eq.mpr cw
       clear cw; replace H := Option.bind_eq_some_iff.mp H
       obtain ⟨⟨aG, ak⟩, dz, H⟩ := H
       replace H : (if ab < (ak.length : Int) then (if (ao) ≤ ((rd_L2 ak ab).length : Int) then ((spec_l06Few.f k aG (ak.set (ab : Int).toNat ((rd_L2 ak ab).take ((ao) : Int).toNat)) a1).bind fun aI => (some aI)) else (none)) else (none)) = some r := H
       have A15 := zK dz; clear dz
       by_cases dx : ab < (ak.length : Int)
       ·rw [if_pos dx] at H
        have cM : decide (ab < (ak.length : Int)) = true := decide_eq_true dx
        clear dx
        have cN := eq_true (zd : 0 ≤ (ao))
        by_cases db : (ao) ≤ ((rd_L2 ak ab).length : Int)
        ·rw [if_pos db] at H
         have cO := eq_true db
         have cP : decide ((ao) ≤ ((rd_L2 ak ab).length : Int)) = true := decide_eq_true db
         clear db
         obtain ⟨aP, a8⟩ : ∃ y_ : List (S30), y_ = ((rd_L2 ak ab).take ((ao) : Int).toNat) := ⟨_, rfl⟩
         replace H : ((spec_l06Few.f k aG (ak.set (ab : Int).toNat aP) a1).bind fun aI => (some aI)) = some r := by first | (rw [a8]; with_reducible exact H) | (have H2_ := (Option.bind_some _ _).symm.trans H; rw [a8]; with_reducible exact H2_) | (have H2_ := (Option.bind_some _ _).symm.trans H; with_reducible exact H2_) | with_reducible exact H | (rw [a8]; exact H) | exact H
         have Ny461 := zK a8; clear a8
         obtain ⟨b7, a9⟩ : ∃ y_ : List (List (S30)), y_ = (ak.set (ab : Int).toNat aP) := ⟨_, rfl⟩
         replace H : ((spec_l06Few.f k aG b7 a1).bind fun aI => (some aI)) = some r := by first | (rw [a9]; with_reducible exact H) | (have H2_ := (Option.bind_some _ _).symm.trans H; rw [a9]; with_reducible exact H2_) | (have H2_ := (Option.bind_some _ _).symm.trans H; with_reducible exact H2_) | with_reducible exact H | (rw [a9]; exact H) | exact H
         have Ny465 := zK a9; clear a9; replace H := Option.bind_eq_some_iff.mp H
         obtain ⟨aI, dA, H⟩ := H
         replace H : (some aI) = some r := H
         have A20 := zK dA; clear dA; obtain rfl := Option.some.inj H
         go_enter Try.func63, Try.ntmps63
         try go_wp2_with (first | ((with_reducible refine gate_dst (N := 2) rfl ?_); (try (refine gate_guard (by rfl) ?_; dsimp only)); refine box_event ?hg (N := 2) ?hd (cs := #[.int .i64 a0_0, .slice av ac.length ae]) (t := 24) ?hr ?_; (case hd => rfl); (case hg => rfl); (case hr => first | (go_simp; done) | (go_simp; rfl)); intro ad hg w21 hbox hb; have ar := zK (below_step (zb HB) hb); have au := zK (hbox); have aF := zK ((by rw [hg]; exact (below_size (zb HB)) : w.heap.size ≤ ad)); have aO := zK ((by rw [hg]; exact (below_size (zb HB)) : w.heap.size ≤ ad)); clear HB; have HB := ar; have aa := au; have cc := aF; have af := aO; clear ar au aF aO; clear hb hbox hg; have bc : w21.cell? ⟨ad, 0, none⟩ = some (.int .i64 a0_0) := (blk_cell aa.out 0).trans rfl; have bd : w21.cell? ⟨ad, 1, none⟩ = some (.slice av ac.length ae) := (blk_cell aa.out 1).trans rfl; have be := blk_frozen aa.out 0; have bf := blk_frozen aa.out 1) | ((with_reducible refine gate_callee (f := 17) rfl ?_); refine goesL_ (some 12) rfl rfl Try.func17 (by kernel_rfl) rfl #[.agg #[.int .i64 a0_0, .slice av ac.length ae]] rfl (by (try simp only [List.map_toArray, List.map_cons, List.map_nil]); first | done | rfl | (simp only [List.length_drop, List.length_take]; rfl)) ?_; (with_reducible refine (spec_NextOut.calls k a0_0 _ _ ac aw _ ?side1 ?side2 A3.out).mono ?_); (case side1 => repeat (first | exact (Kd.C_below ax.out HB.out) | (with_reducible refine Kd.C_alloc ?_ _) | (with_reducible refine Kd.C_drewN ?_ _) | (with_reducible refine Kd.C_drew ?_))); (case side2 => exact aL.out); rintro e w23 ⟨rfl, hb⟩; refine ⟨_, rfl, ?_⟩; have ar := zK (blk_below (g := ad) (o := .cells #[.int .i64 a0_0, .slice av ac.length ae] 24 (0, 0)) (zk aa) hb); have au := zK (below_step (zb HB) hb); clear aa; clear HB; have aa := ar; have HB := au; clear ar au; (try clear hb); have bg : w23.cell? ⟨ad, 0, none⟩ = some (.int .i64 a0_0) := (blk_cell aa.out 0).trans rfl; have bh : w23.cell? ⟨ad, 1, none⟩ = some (.slice av ac.length ae) := (blk_cell aa.out 1).trans rfl; have bi := blk_frozen aa.out 0; have bj := blk_frozen aa.out 1) | ((with_reducible refine gate_callee (f := 70) rfl ?_); refine goesL_ (some 17) rfl rfl Try.func70 (by kernel_rfl) rfl #[.agg #[.int .i64 a0_0, .slice av ac.length ae], .int .i64 aw] rfl (by (try simp only [List.map_toArray, List.map_cons, List.map_nil]); first | done | rfl | (simp only [List.length_drop, List.length_take]; rfl)) ?_; (with_reducible refine (spec_l06Find.calls k a0_0 _ _ ac aw ab _ ?side1 ?side2 A8.out).mono ?_); (case side1 => repeat (first | exact (Kd.C_below ax.out HB.out) | (with_reducible refine Kd.C_alloc ?_ _) | (with_reducible refine Kd.C_drewN ?_ _) | (with_reducible refine Kd.C_drew ?_))); (case side2 => exact aL.out); rintro e w25 ⟨rfl, hb⟩; refine ⟨_, rfl, ?_⟩; have ar := zK (blk_below (g := ad) (o := .cells #[.int .i64 a0_0, .slice av ac.length ae] 24 (0, 0)) (zk aa) hb); have au := zK (below_step (zb HB) hb); clear aa; clear HB; have aa := ar; have HB := au; clear ar au; (try clear hb); have bk : w25.cell? ⟨ad, 0, none⟩ = some (.int .i64 a0_0) := (blk_cell aa.out 0).trans rfl; have bl : w25.cell? ⟨ad, 1, none⟩ = some (.slice av ac.length ae) := (blk_cell aa.out 1).trans rfl; have bm := blk_frozen aa.out 0; have bn := blk_frozen aa.out 1; have aQ : 0 ≤ (ab : Int) := zd; have aR : ab < (ac.length : Int) := zd; obtain ⟨an, cj, ck, cl, ai, az, aA⟩ := at_L2 ax.out ab aQ aR; cases cl; replace ai := (HB.out.cell (World.block_lt_of_cell? w _ ai)).trans ai; have bo := zK aA; have bp := zK az; clear aA az; replace aQ := eq_true aQ; replace aR := eq_true aR; have aS : 0 ≤ (ab : Int) := zd; have aT : ab < (ac.length : Int) := zd; obtain ⟨ba, cm, cn, co, aj, aB, aC⟩ := at_L2 ax.out ab aS aT; obtain rfl : an = ba := (by injection co); replace aj := (HB.out.cell (World.block_lt_of_cell? w _ aj)).trans aj; have aM := zK aC; have bq := zK aB; clear aC aB; replace aS := eq_true aS; replace aT := eq_true aT; have ea_ := Option.some.inj (ai.symm.trans aj); injection ea_ with ea_ en_ ec_; subst ea_; subst ec_; clear en_; have aU : 0 ≤ ((ao) : Int) := zd; have aV : (ao) < ((rd_L2 ac ab).length : Int) := zd; obtain ⟨cQ, cp, ap, aq⟩ := at_T30 aM.out (ao) aU aV; cases cp; replace ap := (HB.out.cell (World.block_lt_of_cell? w _ ap)).trans ap; replace aq := (HB.out.cell (World.block_lt_of_cell? w _ aq)).trans aq; replace aU := eq_true aU; replace aV := eq_true aV) | ((with_reducible refine gate_callee (f := 69) rfl ?_); refine goesL_ (some 37) rfl rfl Try.func69 (by kernel_rfl) rfl #[.agg #[.int .i64 a0_0, .slice (some an) ac.length ae]] rfl (by (try simp only [List.map_toArray, List.map_cons, List.map_nil]); first | done | rfl | (simp only [List.length_drop, List.length_take]; rfl)) ?_; (with_reducible refine (spec_l06Copy.calls k a0_0 _ _ ac aG ak _ ?side1 ?side2 A15.out).mono ?_); (case side1 => repeat (first | exact (Kd.C_below ax.out HB.out) | (with_reducible refine Kd.C_alloc ?_ _) | (with_reducible refine Kd.C_drewN ?_ _) | (with_reducible refine Kd.C_drew ?_))); (case side2 => exact aL.out); rintro e w27 ⟨v457, rfl, ho0, hb⟩; refine ⟨_, rfl, ?_⟩; have ar := zK (Kd.S_lower ho0 (below_size (zb HB))); have au := zK (blk_below (g := ad) (o := .cells #[.int .i64 a0_0, .slice (some an) ac.length ae] 24 (0, 0)) (zk aa) hb); have aF := zK (below_step (zb HB) hb); clear aa; clear HB; have ag := ar; have aa := au; have HB := aF; clear ar au aF; (try clear hb); (try clear ho0)) | ((with_reducible refine gate_dst (N := 8) rfl ?_); (try (refine gate_guard (by rfl) ?_; dsimp only)); refine box_event ?hg (N := 8) ?hd (cs := #[.int .i64 0, .slice none 0 0]) (t := 24) ?hr ?_; (case hd => rfl); (case hg => rfl); (case hr => first | (go_simp; done) | (go_simp; rfl)); intro al hg dc hbox hb; have ar := zK (Kd.S_below (zT ag) hb); have au := zK (blk_below (g := ad) (o := .cells #[.int .i64 a0_0, .slice (some an) ac.length ae] 24 (0, 0)) (zk aa) hb); have aF := zK (below_step (zb HB) hb); have aO := zK (hbox); have n4_ := zK ((by rw [hg]; exact (below_size (zb HB)) : w.heap.size ≤ al)); have n5_ := zK ((by rw [hg]; exact (below_size (zb HB)) : w.heap.size ≤ al)); have n6_ := zK ((by rw [hg]; exact Nat.ne_of_lt (blk_lt (g := ad) (o := .cells #[.int .i64 a0_0, .slice (some an) ac.length ae] 24 (0, 0)) (zk aa)) : ad ≠ al)); have n7_ := zK ((by rw [hg]; exact Nat.ne_of_gt (blk_lt (g := ad) (o := .cells #[.int .i64 a0_0, .slice (some an) ac.length ae] 24 (0, 0)) (zk aa)) : al ≠ ad)); clear ag; clear aa; clear HB; have ag := ar; have aa := au; have HB := aF; have am := aO; have GW459 := n4_; have br := n5_; have aW := n6_; have b8 := n7_; clear ar au aF aO n4_ n5_ n6_ n7_; clear hb hbox hg; have hnb29 := b8.out; have hnc29 := aW.out; have bs : dc.cell? ⟨al, 0, none⟩ = some (.int .i64 0) := (blk_cell am.out 0).trans rfl; have bt : dc.cell? ⟨al, 1, none⟩ = some (.slice none 0 0) := (blk_cell am.out 1).trans rfl; have bv := blk_frozen am.out 0; have bw := blk_frozen am.out 1; obtain ⟨bb, aK, eo31⟩ := Kd.S_slice ag.out; subst eo31))
         have ar : Aside0 (Kd.S (Kd.slice 30 k30) 28 ((dc.setCell ⟨al, 0, none⟩ (.int .i64 aG)).setCell ⟨al, 1, none⟩ (.slice bb ak.length aK)) w.heap.size (fun _ => True) (.slice bb ak.length aK) ak) := ⟨by (with_reducible repeat (first | apply Kd.S_alloc | apply Kd.S_drewN | apply Kd.S_drew)); exact Kd.S_mono (Kd.S_far (p := ⟨al, 1, none⟩) (Kd.S_far (p := ⟨al, 0, none⟩) (Kd.S_types ag.out am.out (by decide)) (fun _ hk => hk.2) (.int .i64 aG)) (fun _ hk => hk.2) (.slice bb ak.length aK)) (fun _ hk => trivial)⟩
         have au : Aside0 (((dc.setCell ⟨al, 0, none⟩ (.int .i64 aG)).setCell ⟨al, 1, none⟩ (.slice bb ak.length aK)).heap[ad]? = some (.cells #[.int .i64 a0_0, .slice (some an) ac.length ae] 24 (0, 0))) := ⟨by (with_reducible repeat (first | refine zN ?_ _ | refine zD ?_ | refine zA ?_ _)); refine blk_far ?_ aW.out _; (with_reducible repeat (first | refine zN ?_ _ | refine zD ?_ | refine zA ?_ _)); refine blk_far ?_ aW.out _; (with_reducible repeat (first | refine zN ?_ _ | refine zD ?_ | refine zA ?_ _)); exact aa.out⟩
         have aF : Aside0 (((dc.setCell ⟨al, 0, none⟩ (.int .i64 aG)).setCell ⟨al, 1, none⟩ (.slice bb ak.length aK)).heap[al]? = some (.cells #[.int .i64 aG, .slice bb ak.length aK] 24 (0, 0))) := ⟨by (with_reducible repeat (first | refine zN ?_ _ | refine zD ?_ | refine zA ?_ _)); refine blk_put (cs := #[.int .i64 aG, .slice none 0 0]) ?_ 1 _ rfl; (with_reducible repeat (first | refine zN ?_ _ | refine zD ?_ | refine zA ?_ _)); refine blk_put (cs := #[.int .i64 0, .slice none 0 0]) ?_ 0 _ rfl; (with_reducible repeat (first | refine zN ?_ _ | refine zD ?_ | refine zA ?_ _)); exact am.out⟩
         have aO : Aside0 (Below w.heap.size w ((dc.setCell ⟨al, 0, none⟩ (.int .i64 aG)).setCell ⟨al, 1, none⟩ (.slice bb ak.length aK))) := ⟨zb HB⟩
         (try clear ag); (try clear aa); (try clear am); (try clear HB)
         generalize ((dc.setCell ⟨al, 0, none⟩ (.int .i64 aG)).setCell ⟨al, 1, none⟩ (.slice bb ak.length aK)) = w32 at ar au aF aO ⊢
         have ag := ar; have aa := au; have am := aF; have HB := aO; clear ar au aF aO
         have ar := zK (Kd.S_drew ag.out)
         have au := zK (zD aa.out)
         have aF := zK (zD am.out)
         have aO := zK (zE HB.out)
         clear ag aa am HB; have ag := ar; have aa := au; have am := aF; have HB := aO; clear ar au aF aO
         have b9 : 0 ≤ (ab : Int) := zd
         have ca : ab < (ak.length : Int) := zd
         obtain ⟨ad460, aD, ay, e460, aE, bx, bz⟩ := at_L2 (Kd.S_reads' ag.out).2.2 ab b9 ca
         cases e460
         obtain ⟨ce460, dd, de, cq⟩ := Kd.S_get ag.out [] ab b9 (by first | exact ca | exact zd | (have e_ := (Kd.S_reads' ag.out).1; omega))
         obtain ⟨ve460_0, rfl, a3⟩ := de
         have aN := cq 0 _ rfl
         rw [Nat.add_zero, show ((Kd.slice 30 k30)).sz = 1 from rfl, Nat.mul_one] at aN
         replace aN := Option.some.inj (aN.symm.trans aE)
         rw [aN] at a3
         have cx := zK (show Kd.R k30 30 _ _ _ _ (rd_L2 ak ab) from a3)
         clear aN a3; have bA := zK aE; clear cq dd; have a4 := zK bz; have cy := zK bx; clear bz bx; replace b9 := eq_true b9; replace ca := eq_true ca
         have cR : ((ao) : Int) ≤ (((rd_L2 ak ab).length : Int) : Int) := zd
         obtain ⟨i034, cS, _, dB, _⟩ := info_parts info30
         have bB : (rd_L2 ak ab).length ≤ ay := cy.out
         have dC : Kd.C k30 _ aD (rd_L2 ak ab).length (rd_L2 ak ab) := (by repeat (first | (with_reducible exact a4.out) | (with_reducible refine Kd.C_alloc ?_ _) | (with_reducible refine Kd.C_drewN ?_ _) | (with_reducible refine Kd.C_drew ?_) | exact a4.out))
         have df := cut_to (P := Try.prog) 28 30 .i64 Try.underlying28 cS aD (rd_L2 ak ab).length ay (ao) (zd) cR bB
         have dg := Kd.C_take (m := ((ao) : Int).toNat) dC (by omega)
         have dh : aP.length = ((ao) : Int).toNat := (by rw [Ny461.out, List.length_take]; omega)
         rw [← Ny461.out] at dg
         rw [← dh] at df
         have dD := zK dg
         have HC464 := zK (show aP.length ≤ ay from by omega)
         clear dg dC bB cS dB; have KY34 := zK dh; clear dh; replace cR := eq_true cR
         have di : 0 ≤ (ab : Int) := zd
         have dj : (ab : Int) < ((ak.length : Int) : Int) := zd
         obtain ⟨aX, co19, dE, dF, gl19, cl19, dG⟩ := Kd.S_form ag.out (by omega)
         (first | cases dE | (injection dE with ea_ en_ ec_; (first | subst ea_ | (injection ea_ with ea_; subst ea_)); subst ec_; clear en_))
         have GB19 := zK dF; have GG19 := zK dG; clear dF gl19 dG
         (first | simp only [add_plain] at aE | skip)
         obtain ⟨_, ce19, dH, dI, cT, cU, _, _⟩ := Kd.S_elem ag.out [] (ab : Int) di dj
         obtain ⟨ve19_0, rfl, ge19_0⟩ := dI
         have a5 := cT 0 _ rfl; have cr := cU 0; (try simp only [show ((Kd.slice 30 k30)).sz = 1 from rfl, Nat.mul_one, Nat.add_zero] at a5); (try simp only [show ((Kd.slice 30 k30)).sz = 1 from rfl, Nat.mul_one, Nat.add_zero] at cr)
         clear dH cT cU; (try clear dI)
         replace di := eq_true di; replace dj := eq_true dj
         have HX35 := zK (show Kd.S (Kd.slice 30 k30) 28 _ w.heap.size (fun k_ => ((fun _ => True)) k_ ∧ ¬ (fun _ => False) k_) (.slice (some ⟨aX, 0, none⟩) ak.length aK) ak from (by exact Kd.S_mono ag.out (fun k_ hk => ⟨trivial, fun e_ => e_⟩)))
         obtain ⟨dJ, ce35, dK, dL, cV, dM, hoki35, hH35⟩ := Kd.S_elem HX35.out [] (ab : Int) (zd) (by have h_ : (ab : Int) < ((ak.length : Int) : Int) := zd; first | exact h_ | (have e_ := (Kd.S_reads' ag.out).1; omega) | simpa using h_)
         obtain ⟨ve35_0, rfl, dk⟩ := dL
         have ct := cV 0 _ rfl; have dl := bA.out; (try simp only [add_plain] at dl); (try simp only [Nat.add_zero] at ct); (try rw [show ((Kd.slice 30 k30)).sz = 1 from rfl, Nat.mul_one] at ct)
         replace ct := Option.some.inj (ct.symm.trans dl)
         subst ct; clear dl
         have dm := zK (show Kd.R k30 30 _ w.heap.size dJ (.slice aD aP.length ay) aP from by rw [KY34.out, Ny461.out]; exact Kd.R_take dk (by have h_ := of_eq_true cR; omega))
         have cz := (Kd.S_seg hH35 (zd) (by have h_ : (ab : Int) < ((ak.length : Int) : Int) := zd; first | exact h_ | (have e_ := (Kd.S_reads' ag.out).1; omega) | simpa using h_) (seg := [.slice aD aP.length ay]) (j := 0) (show 1 ≤ 1 from by decide) (x' := aP) (Kd.M_row dm.out) (fun _ hk => Or.inl hk) (fun _ hk => hk.elim)).1
         (try simp only [show ((Kd.slice 30 k30)).sz = 1 from rfl, Nat.mul_one, Nat.add_zero] at cz)
         rw [← Ny465.out] at cz
         have dN := zK cz
         clear dK cV dM cz; (try clear dL)
         refine start_ (n := 12) (S := fun w' => w'.cell? ⟨al, 0, none⟩ = some (.int .i64 aG) ∧ w'.cell? ⟨al, 1, none⟩ = some (.slice (some ⟨aX, 0, none⟩) ak.length aK) ∧ w'.cell? ⟨aX, (ab).toNat, none⟩ = some (.slice aD (rd_L2 ak ab).length ay)) (ds := [11]) #[ff, ff, ff, ff, ff, ff, ff, ff, ff, ff, ff, ff] (by kernel_rfl) rfl rfl ⟨(blk_cell am.out 0).trans rfl, (blk_cell am.out 1).trans rfl, aE⟩ (fun hHeld => ?_); refine with_tabW spec_l06Few.tab8 spec_l06Few.bits8 (fun HT_ HW_ => ?_)
         generalize w32.drew = dO at ag aa am HB GG19 cx dN a4 dD bA cr a5 aE hHeld ⊢
         refine zu 0 (some 38) #[tt, ff, ff, ff, ff, ff, ff, ff, ff, ff, ff, ff] (any_of HT_.out (by kernel_rfl)) ?_
         refine zu 2 (some 40) #[tt, ff, tt, ff, ff, ff, ff, ff, ff, ff, ff, ff] (any_of HT_.out (by kernel_rfl)) ?_
         refine zu 3 (some 41) #[tt, ff, tt, tt, ff, ff, ff, ff, ff, ff, ff, ff] (any_of HT_.out (by kernel_rfl)) ?_
         refine zu 5 (some 43) #[tt, ff, tt, tt, ff, tt, ff, ff, ff, ff, ff, ff] (any_of HT_.out (by kernel_rfl)) ?_
         refine zu 8 (some 46) #[tt, ff, tt, tt, ff, tt, ff, ff, tt, ff, ff, ff] (any_of HT_.out (by kernel_rfl)) ?_
         refine zt 1 (some 39) #[tt, tt, tt, tt, ff, tt, ff, ff, tt, ff, ff, ff] (take_ofW HT_.out HW_.out (by kernel_rfl)) hHeld ?_
         refine zt 4 (some 42) #[tt, tt, tt, tt, tt, tt, ff, ff, tt, ff, ff, ff] (take_ofW HT_.out HW_.out (by kernel_rfl)) hHeld ?_
         refine zu 6 (some 44) #[tt, tt, tt, tt, tt, tt, tt, ff, tt, ff, ff, ff] (any_of HT_.out (by kernel_rfl)) ?_
         refine zt 7 (some 45) #[tt, tt, tt, tt, tt, tt, tt, tt, tt, ff, ff, ff] (take_ofW HT_.out HW_.out (by kernel_rfl)) hHeld ?_
         refine zu 9 (some 47) #[tt, tt, tt, tt, tt, tt, tt, tt, tt, tt, ff, ff] (any_of HT_.out (by kernel_rfl)) ?_
         refine zu 10 (some 48) #[tt, tt, tt, tt, tt, tt, tt, tt, tt, tt, tt, ff] (any_of HT_.out (by kernel_rfl)) ?_
         refine last_ (i := 11) (N := none) #[tt, tt, tt, tt, tt, tt, tt, tt, tt, tt, tt, tt] rfl rfl (one_of HT_.out (by kernel_rfl)) (by decide) (fun K hK => ?_)
         refine skip_ (w1 := ?_) (by rfl) rfl ?_ ?_
         rotate_left
         ·go_simp
          rfl
         refine hK.out _ _ ?_
         clear hK K
         refine done_ (done_of HT_.out (by kernel_rfl)) ?_
         have ar : Aside0 (Kd.S (Kd.slice 30 k30) 28 (dO.setCell ⟨aX, (ab : Int).toNat, none⟩ (.slice aD aP.length ay)) w.heap.size (fun _ => True) (.slice (some ⟨aX, 0, none⟩) ak.length aK) b7) := ⟨zT dN⟩
         have au : Aside0 ((dO.setCell ⟨aX, (ab : Int).toNat, none⟩ (.slice aD aP.length ay)).heap[ad]? = some (.cells #[.int .i64 a0_0, .slice (some an) ac.length ae] 24 (0, 0))) := ⟨by (with_reducible repeat (first | refine zN ?_ _ | refine zD ?_ | refine zA ?_ _)); refine blk_far ?_ (by have h_ := Kd.S_ne ag.out aa.out (by decide); intro e_; exact h_ (by rw [e_]; rfl)) _; (with_reducible repeat (first | refine zN ?_ _ | refine zD ?_ | refine zA ?_ _)); exact aa.out⟩
         have aF : Aside0 ((dO.setCell ⟨aX, (ab : Int).toNat, none⟩ (.slice aD aP.length ay)).heap[al]? = some (.cells #[.int .i64 aG, .slice (some ⟨aX, 0, none⟩) ak.length aK] 24 (0, 0))) := ⟨by (with_reducible repeat (first | refine zN ?_ _ | refine zD ?_ | refine zA ?_ _)); refine blk_far ?_ (by have h_ := Kd.S_ne ag.out am.out (by decide); intro e_; exact h_ (by rw [e_]; rfl)) _; (with_reducible repeat (first | refine zN ?_ _ | refine zD ?_ | refine zA ?_ _)); exact am.out⟩
         have aO : Aside0 (Below w.heap.size w (dO.setCell ⟨aX, (ab : Int).toNat, none⟩ (.slice aD aP.length ay))) := ⟨zb HB⟩
         (try clear ag); (try clear aa); (try clear am); (try clear HB)
         generalize (dO.setCell ⟨aX, (ab : Int).toNat, none⟩ (.slice aD aP.length ay)) = w36 at ar au aF aO ⊢
         have ag := ar; have aa := au; have am := aF; have HB := aO; clear ar au aF aO
         have bC : w36.cell? ⟨al, 0, none⟩ = some (.int .i64 aG) := (blk_cell am.out 0).trans rfl
         have bD : w36.cell? ⟨al, 1, none⟩ = some (.slice (some ⟨aX, 0, none⟩) ak.length aK) := (blk_cell am.out 1).trans rfl
         have bE := blk_frozen am.out 0; have bF := blk_frozen am.out 1
         try go_wp2_with (first | ((with_reducible refine gate_callee (f := 63) rfl ?_); refine goesL_ (some 51) rfl rfl Try.func63 (by kernel_rfl) rfl #[.agg #[.int .i64 aG, .slice (some ⟨aX, 0, none⟩) b7.length aK], .int .i64 a1] rfl (by (try simp only [List.map_toArray, List.map_cons, List.map_nil]); first | done | (rw [show b7.length = ak.length from (Kd.S_reads' ag.out).1.symm] <;> rfl) | rfl | (simp only [List.length_drop, List.length_take]; rfl)) ?_; (with_reducible refine (ih k (by omega) aG _ _ b7 a1 aI _ ?side1 ?side2 A20.out).mono ?_); (case side1 => repeat (first | exact (Kd.S_reads' ag.out).2.2 | (with_reducible refine Kd.C_alloc ?_ _) | (with_reducible refine Kd.C_drewN ?_ _) | (with_reducible refine Kd.C_drew ?_))); (case side2 => rw [show b7.length = ak.length from (Kd.S_reads' ag.out).1.symm]; exact (Kd.S_reads' ag.out).2.1); rintro e w38 ⟨rfl, hb⟩; refine ⟨_, rfl, ?_⟩; have ar := zK (Kd.S_below (zT ag) hb); have au := zK (blk_below (g := ad) (o := .cells #[.int .i64 a0_0, .slice (some an) ac.length ae] 24 (0, 0)) (zk aa) hb); have aF := zK (blk_below (g := al) (o := .cells #[.int .i64 aG, .slice (some ⟨aX, 0, none⟩) ak.length aK] 24 (0, 0)) (zk am) hb); have aO := zK (below_step (zb HB) hb); clear ag; clear aa; clear am; clear HB; have ag := ar; have aa := au; have am := aF; have HB := aO; clear ar au aF aO; (try clear hb)))
         go_ret
         exact ⟨by first | rfl | (simp [errW_none, errW_some] <;> rfl) | (simp only [← aY]; first | rfl | (simp [errW_none, errW_some] <;> rfl)) | (simp [*, errW_none, errW_some] <;> rfl), by repeat (first | (with_reducible first | exact HB.out | apply zB | apply zC | apply zE | refine zS ?_ af.out | refine zS ?_ br.out) | exact HB.out)⟩
        ·rw [if_neg db] at H
         exact absurd H (by simp)
       ·rw [if_neg dx] at H
        exact absurd H (by simp)
      ·rw [if_neg cw] at H
       have ch : (((rd_T30 (rd_L2 ac ab) (ao)).f0) == aw) = false := beq_eq_false_iff_ne.mpr cw
       have ci : (((rd_T30 (rd_L2 ac ab) (ao)).f0) != aw) = true := bne_iff_ne.mpr cw
       by_cases cW : a1 ≤ 0
       ·rw [if_pos cW] at H
        have cu : decide (a1 ≤ 0) = true := decide_eq_true cW
        clear cW; obtain rfl := Option.some.inj H
        go_enter Try.func63, Try.ntmps63
        go_wp2_with (first | ((with_reducible refine gate_dst (N := 2) rfl ?_); (try (refine gate_guard (by rfl) ?_; dsimp only)); refine box_event ?hg (N := 2) ?hd (cs := #[.int .i64 a0_0, .slice av ac.length ae]) (t := 24) ?hr ?_; (case hd => rfl); (case hg => rfl); (case hr => first | (go_simp; done) | (go_simp; rfl)); intro ad hg w40 hbox hb; have ar := zK (below_step (zb HB) hb); have au := zK (hbox); have aF := zK ((by rw [hg]; exact (below_size (zb HB)) : w.heap.size ≤ ad)); have aO := zK ((by rw [hg]; exact (below_size (zb HB)) : w.heap.size ≤ ad)); clear HB; have HB := ar; have aa := au; have cc := aF; have af := aO; clear ar au aF aO; clear hb hbox hg; have bG : w40.cell? ⟨ad, 0, none⟩ = some (.int .i64 a0_0) := (blk_cell aa.out 0).trans rfl; have bH : w40.cell? ⟨ad, 1, none⟩ = some (.slice av ac.length ae) := (blk_cell aa.out 1).trans rfl; have bI := blk_frozen aa.out 0; have bJ := blk_frozen aa.out 1) | ((with_reducible refine gate_callee (f := 17) rfl ?_); refine goesL_ (some 12) rfl rfl Try.func17 (by kernel_rfl) rfl #[.agg #[.int .i64 a0_0, .slice av ac.length ae]] rfl (by (try simp only [List.map_toArray, List.map_cons, List.map_nil]); first | done | rfl | (simp only [List.length_drop, List.length_take]; rfl)) ?_; (with_reducible refine (spec_NextOut.calls k a0_0 _ _ ac aw _ ?side1 ?side2 A3.out).mono ?_); (case side1 => repeat (first | exact (Kd.C_below ax.out HB.out) | (with_reducible refine Kd.C_alloc ?_ _) | (with_reducible refine Kd.C_drewN ?_ _) | (with_reducible refine Kd.C_drew ?_))); (case side2 => exact aL.out); rintro e w42 ⟨rfl, hb⟩; refine ⟨_, rfl, ?_⟩; have ar := zK (blk_below (g := ad) (o := .cells #[.int .i64 a0_0, .slice av ac.length ae] 24 (0, 0)) (zk aa) hb); have au := zK (below_step (zb HB) hb); clear aa; clear HB; have aa := ar; have HB := au; clear ar au; (try clear hb); have bK : w42.cell? ⟨ad, 0, none⟩ = some (.int .i64 a0_0) := (blk_cell aa.out 0).trans rfl; have bL : w42.cell? ⟨ad, 1, none⟩ = some (.slice av ac.length ae) := (blk_cell aa.out 1).trans rfl; have bM := blk_frozen aa.out 0; have bN := blk_frozen aa.out 1) | ((with_reducible refine gate_callee (f := 70) rfl ?_); refine goesL_ (some 17) rfl rfl Try.func70 (by kernel_rfl) rfl #[.agg #[.int .i64 a0_0, .slice av ac.length ae], .int .i64 aw] rfl (by (try simp only [List.map_toArray, List.map_cons, List.map_nil]); first | done | rfl | (simp only [List.length_drop, List.length_take]; rfl)) ?_; (with_reducible refine (spec_l06Find.calls k a0_0 _ _ ac aw ab _ ?side1 ?side2 A8.out).mono ?_); (case side1 => repeat (first | exact (Kd.C_below ax.out HB.out) | (with_reducible refine Kd.C_alloc ?_ _) | (with_reducible refine Kd.C_drewN ?_ _) | (with_reducible refine Kd.C_drew ?_))); (case side2 => exact aL.out); rintro e w44 ⟨rfl, hb⟩; refine ⟨_, rfl, ?_⟩; have ar := zK (blk_below (g := ad) (o := .cells #[.int .i64 a0_0, .slice av ac.length ae] 24 (0, 0)) (zk aa) hb); have au := zK (below_step (zb HB) hb); clear aa; clear HB; have aa := ar; have HB := au; clear ar au; (try clear hb); have bO : w44.cell? ⟨ad, 0, none⟩ = some (.int .i64 a0_0) := (blk_cell aa.out 0).trans rfl; have bP : w44.cell? ⟨ad, 1, none⟩ = some (.slice av ac.length ae) := (blk_cell aa.out 1).trans rfl; have bQ := blk_frozen aa.out 0; have bR := blk_frozen aa.out 1; have aQ : 0 ≤ (ab : Int) := zd; have aR : ab < (ac.length : Int) := zd; obtain ⟨an, cj, ck, cl, ai, az, aA⟩ := at_L2 ax.out ab aQ aR; cases cl; replace ai := (HB.out.cell (World.block_lt_of_cell? w _ ai)).trans ai; have bo := zK aA; have bp := zK az; clear aA az; replace aQ := eq_true aQ; replace aR := eq_true aR; have aS : 0 ≤ (ab : Int) := zd; have aT : ab < (ac.length : Int) := zd; obtain ⟨ba, cm, cn, co, aj, aB, aC⟩ := at_L2 ax.out ab aS aT; obtain rfl : an = ba := (by injection co); replace aj := (HB.out.cell (World.block_lt_of_cell? w _ aj)).trans aj; have aM := zK aC; have bq := zK aB; clear aC aB; replace aS := eq_true aS; replace aT := eq_true aT; have ea_ := Option.some.inj (ai.symm.trans aj); injection ea_ with ea_ en_ ec_; subst ea_; subst ec_; clear en_; have aU : 0 ≤ ((ao) : Int) := zd; have aV : (ao) < ((rd_L2 ac ab).length : Int) := zd; obtain ⟨cQ, cp, ap, aq⟩ := at_T30 aM.out (ao) aU aV; cases cp; replace ap := (HB.out.cell (World.block_lt_of_cell? w _ ap)).trans ap; replace aq := (HB.out.cell (World.block_lt_of_cell? w _ aq)).trans aq; replace aU := eq_true aU; replace aV := eq_true aV))
        go_ret
        exact ⟨by first | rfl | (simp [errW_none, errW_some] <;> rfl) | (simp only [← aY]; first | rfl | (simp [errW_none, errW_some] <;> rfl)) | (simp [*, errW_none, errW_some] <;> rfl), by repeat (first | (with_reducible first | exact HB.out | apply zB | apply zC | apply zE | refine zS ?_ af.out) | exact HB.out)⟩
       ·rw [if_neg cW] at H
        have cu : decide (a1 ≤ 0) = false := decide_eq_false cW
        clear cW; have H' := zK H; clear H
        go_enter Try.func63, Try.ntmps63
        go_wp2_with (first | ((with_reducible refine gate_dst (N := 2) rfl ?_); (try (refine gate_guard (by rfl) ?_; dsimp only)); refine box_event ?hg (N := 2) ?hd (cs := #[.int .i64 a0_0, .slice av ac.length ae]) (t := 24) ?hr ?_; (case hd => rfl); (case hg => rfl); (case hr => first | (go_simp; done) | (go_simp; rfl)); intro ad hg w46 hbox hb; have ar := zK (below_step (zb HB) hb); have au := zK (hbox); have aF := zK ((by rw [hg]; exact (below_size (zb HB)) : w.heap.size ≤ ad)); have aO := zK ((by rw [hg]; exact (below_size (zb HB)) : w.heap.size ≤ ad)); clear HB; have HB := ar; have aa := au; have cc := aF; have af := aO; clear ar au aF aO; clear hb hbox hg; have bS : w46.cell? ⟨ad, 0, none⟩ = some (.int .i64 a0_0) := (blk_cell aa.out 0).trans rfl; have bT : w46.cell? ⟨ad, 1, none⟩ = some (.slice av ac.length ae) := (blk_cell aa.out 1).trans rfl; have bU := blk_frozen aa.out 0; have bV := blk_frozen aa.out 1) | ((with_reducible refine gate_callee (f := 17) rfl ?_); refine goesL_ (some 12) rfl rfl Try.func17 (by kernel_rfl) rfl #[.agg #[.int .i64 a0_0, .slice av ac.length ae]] rfl (by (try simp only [List.map_toArray, List.map_cons, List.map_nil]); first | done | rfl | (simp only [List.length_drop, List.length_take]; rfl)) ?_; (with_reducible refine (spec_NextOut.calls k a0_0 _ _ ac aw _ ?side1 ?side2 A3.out).mono ?_); (case side1 => repeat (first | exact (Kd.C_below ax.out HB.out) | (with_reducible refine Kd.C_alloc ?_ _) | (with_reducible refine Kd.C_drewN ?_ _) | (with_reducible refine Kd.C_drew ?_))); (case side2 => exact aL.out); rintro e w48 ⟨rfl, hb⟩; refine ⟨_, rfl, ?_⟩; have ar := zK (blk_below (g := ad) (o := .cells #[.int .i64 a0_0, .slice av ac.length ae] 24 (0, 0)) (zk aa) hb); have au := zK (below_step (zb HB) hb); clear aa; clear HB; have aa := ar; have HB := au; clear ar au; (try clear hb); have bW : w48.cell? ⟨ad, 0, none⟩ = some (.int .i64 a0_0) := (blk_cell aa.out 0).trans rfl; have bX : w48.cell? ⟨ad, 1, none⟩ = some (.slice av ac.length ae) := (blk_cell aa.out 1).trans rfl; have bY := blk_frozen aa.out 0; have bZ := blk_frozen aa.out 1) | ((with_reducible refine gate_callee (f := 70) rfl ?_); refine goesL_ (some 17) rfl rfl Try.func70 (by kernel_rfl) rfl #[.agg #[.int .i64 a0_0, .slice av ac.length ae], .int .i64 aw] rfl (by (try simp only [List.map_toArray, List.map_cons, List.map_nil]); first | done | rfl | (simp only [List.length_drop, List.length_take]; rfl)) ?_; (with_reducible refine (spec_l06Find.calls k a0_0 _ _ ac aw ab _ ?side1 ?side2 A8.out).mono ?_); (case side1 => repeat (first | exact (Kd.C_below ax.out HB.out) | (with_reducible refine Kd.C_alloc ?_ _) | (with_reducible refine Kd.C_drewN ?_ _) | (with_reducible refine Kd.C_drew ?_))); (case side2 => exact aL.out); rintro e w50 ⟨rfl, hb⟩; refine ⟨_, rfl, ?_⟩; have ar := zK (blk_below (g := ad) (o := .cells #[.int .i64 a0_0, .slice av ac.length ae] 24 (0, 0)) (zk aa) hb); have au := zK (below_step (zb HB) hb); clear aa; clear HB; have aa := ar; have HB := au; clear ar au; (try clear hb); have b0 : w50.cell? ⟨ad, 0, none⟩ = some (.int .i64 a0_0) := (blk_cell aa.out 0).trans rfl; have b1 : w50.cell? ⟨ad, 1, none⟩ = some (.slice av ac.length ae) := (blk_cell aa.out 1).trans rfl; have b2 := blk_frozen aa.out 0; have b3 := blk_frozen aa.out 1; have aQ : 0 ≤ (ab : Int) := zd; have aR : ab < (ac.length : Int) := zd; obtain ⟨an, cj, ck, cl, ai, az, aA⟩ := at_L2 ax.out ab aQ aR; cases cl; replace ai := (HB.out.cell (World.block_lt_of_cell? w _ ai)).trans ai; have bo := zK aA; have bp := zK az; clear aA az; replace aQ := eq_true aQ; replace aR := eq_true aR; have aS : 0 ≤ (ab : Int) := zd; have aT : ab < (ac.length : Int) := zd; obtain ⟨ba, cm, cn, co, aj, aB, aC⟩ := at_L2 ax.out ab aS aT; obtain rfl : an = ba := (by injection co); replace aj := (HB.out.cell (World.block_lt_of_cell? w _ aj)).trans aj; have aM := zK aC; have bq := zK aB; clear aC aB; replace aS := eq_true aS; replace aT := eq_true aT; have ea_ := Option.some.inj (ai.symm.trans aj); injection ea_ with ea_ en_ ec_; subst ea_; subst ec_; clear en_; have aU : 0 ≤ ((ao) : Int) := zd; have aV : (ao) < ((rd_L2 ac ab).length : Int) := zd; obtain ⟨cQ, cp, ap, aq⟩ := at_T30 aM.out (ao) aU aV; cases cp; replace ap := (HB.out.cell (World.block_lt_of_cell? w _ ap)).trans ap; replace aq := (HB.out.cell (World.block_lt_of_cell? w _ aq)).trans aq; replace aU := eq_true aU; replace aV := eq_true aV))
        go_loopg [9, 10] k (fun kq v9 v10 w' => ∃ (aJ : Int) (ah : Int), v9 = .int .i64 aJ ∧ v10 = .int .i64 ah ∧ Aside0 (spec_l06Few.l0 kq ab aJ ah a0_0 ac = some r) ∧ Aside0 (kq ≤ k) ∧ Aside0 (w'.heap[ad]? = some (.cells #[.int .i64 a0_0, (.slice (some an) ac.length ae)] 24 (0, 0))) ∧ Aside0 (Below w.heap.size w w'))
        case atStart => exact ⟨(wrap64 (a1 + 1)), (0), (by first | rfl | (simp; done) | (simp [*]; done)), (by first | rfl | (simp; done) | (simp [*]; done)), H', ⟨Nat.le_refl _⟩, ⟨zk aa⟩, ⟨zb HB⟩⟩
        case round =>
         clear H'
         try clear c1
         try clear p1
         try clear q1
         try clear hx1
         try clear c2
         try clear p2
         try clear c3
         try clear q3
         try clear c4
         try clear c0
         try clear da
         try clear p4
         try clear q4
         try clear hx4
         try clear c6
         try clear p6
         try clear c7
         try clear c9
         try clear dy
         try clear c10
         try clear cJ
         try clear dv
         try clear cK
         try clear dw
         try clear cL
         try clear cw
         try clear ch
         try clear ci
         try clear dx
         try clear cM
         try clear c17
         try clear cN
         try clear db
         try clear cO
         try clear cP
         try clear c19
         try clear di
         try clear dj
         try clear hx19
         try clear hf19
         try clear c29
         try clear cR
         try clear c35
         try clear cW
         try clear cu
         try clear c45
         try clear p45
         try clear q45
         try clear hx45
         try clear c46
         try clear p46
         try clear q46
         try clear hx46
         try clear bc
         try clear bd
         try clear bg
         try clear bh
         try clear bk
         try clear bl
         try clear bs
         try clear bt
         try clear bC
         try clear bD
         try clear bG
         try clear bH
         try clear bK
         try clear bL
         try clear bO
         try clear bP
         try clear bS
         try clear bT
         try clear bW
         try clear bX
         try clear b0
         try clear b1
         try clear cd
         try clear ce
         try clear be
         try clear bf
         try clear bi
         try clear bj
         try clear bm
         try clear bn
         try clear bv
         try clear bw
         try clear bE
         try clear bF
         try clear bI
         try clear bJ
         try clear bM
         try clear bN
         try clear bQ
         try clear bR
         try clear bU
         try clear bV
         try clear bY
         try clear bZ
         try clear b2
         try clear b3
         try clear cf
         try clear cg
         try clear a5
         try clear ai
         try clear aj
         try clear ap
         try clear aq
         try clear aE
         try clear di
         try clear aQ
         try clear aS
         try clear aU
         try clear b9
         try clear dj
         try clear cR
         try clear aR
         try clear aT
         try clear aV
         try clear ca
         obtain ⟨aJ, ah, rfl, rfl, HA, dn, aa, HB⟩ := hrel
         cases gk with
         | zero => exact absurd HA.out (by simp [spec_l06Few.l0])
         | succ k1 =>
          have H := HA.out; clear HA
          simp only [spec_l06Few.l0] at H
          by_cases dp : ah < (ac.length : Int)
          ·rw [if_pos dp] at H
           have cX : decide (ah < (ac.length : Int)) = true := decide_eq_true dp
           clear dp; have dq := zK H; clear H
           have cA : wr.cell? ⟨ad, 0, none⟩ = some (.int .i64 a0_0) := (blk_cell aa.out 0).trans rfl
           have cB : wr.cell? ⟨ad, 1, none⟩ = some (.slice (some an) ac.length ae) := (blk_cell aa.out 1).trans rfl
           have cC := blk_frozen aa.out 0; have cD := blk_frozen aa.out 1
           go_upto_region 16 with (fail)
           go_cut [78] (fun v78 wc => ∃ (kq : Nat) (a6 : Bool), v78 = .bool a6 ∧ Aside0 (spec_l06Few.j1 kq ab aJ ah a6 a0_0 ac = some r) ∧ Aside0 (kq ≤ k1) ∧ Aside0 (wc.heap[ad]? = some (.cells #[.int .i64 a0_0, (.slice (some an) ac.length ae)] 24 (0, 0))) ∧ Aside0 (Below w.heap.size w wc))
           case first =>
            have H := dq.out; clear dq
            by_cases cY : ah = ab
            ·rw [if_pos cY] at H
             have aZ : (ah == ab) = true := beq_iff_eq.mpr cY
             have cZ : (ah != ab) = false := bne_eq_false_iff_eq.mpr cY
             clear cY
             (first | rw [aZ] | (simp only [i64_w, i32_w]; rw [aZ]) | skip)
             have H' := zK H; clear H
             try go_wp2
             have ar := zK (zD aa.out)
             have au := zK (zE HB.out)
             clear aa HB; have aa := ar; have HB := au; clear ar au
             refine start_ (n := 14) (S := fun w' => True) (ds := []) #[ff, ff, ff, ff, ff, ff, ff, ff, ff, ff, ff, ff, ff, ff] (by kernel_rfl) rfl rfl trivial (fun hHeld => ?_); refine with_tabW spec_l06Few.tab16 spec_l06Few.bits16 (fun HT_ HW_ => ?_)
             generalize wr.drew = w56 at aa HB hHeld ⊢
             refine zu 0 (some 65) #[tt, ff, ff, ff, ff, ff, ff, ff, ff, ff, ff, ff, ff, ff] (any_of HT_.out (by kernel_rfl)) ?_
             refine zu 1 (some 66) #[tt, tt, ff, ff, ff, ff, ff, ff, ff, ff, ff, ff, ff, ff] (any_of HT_.out (by kernel_rfl)) ?_
             refine zu 2 (some 67) #[tt, tt, tt, ff, ff, ff, ff, ff, ff, ff, ff, ff, ff, ff] (any_of HT_.out (by kernel_rfl)) ?_
             refine zu 3 (some 68) #[tt, tt, tt, tt, ff, ff, ff, ff, ff, ff, ff, ff, ff, ff] (any_of HT_.out (by kernel_rfl)) ?_
             refine pure_ (i := 4) (N := some 69) (v := undef) (a' := ?_) #[tt, tt, tt, tt, tt, ff, ff, ff, ff, ff, ff, ff, ff, ff] rfl rfl (any_of HT_.out (by kernel_rfl)) (fun _ _ _ h => h) (Or.inr ⟨by rfl, rfl⟩) ?_ ?_
             rotate_left
             ·simp only [Act.put, zp, zq, zr, i64_w, i32_w]
              rfl
             refine pure_ (i := 5) (N := some 70) (v := undef) (a' := ?_) #[tt, tt, tt, tt, tt, tt, ff, ff, ff, ff, ff, ff, ff, ff] rfl rfl (any_of HT_.out (by kernel_rfl)) (fun _ _ _ h => h) (Or.inr ⟨by rfl, rfl⟩) ?_ ?_
             rotate_left
             ·simp only [Act.put, zp, zq, zr, i64_w, i32_w]
              rfl
             refine pure_ (i := 6) (N := some 71) (v := undef) (a' := ?_) #[tt, tt, tt, tt, tt, tt, tt, ff, ff, ff, ff, ff, ff, ff] rfl rfl (any_of HT_.out (by kernel_rfl)) (fun _ _ _ h => h) (Or.inr ⟨by rfl, rfl⟩) ?_ ?_
             rotate_left
             ·simp only [Act.put, zp, zq, zr, i64_w, i32_w]
              rfl
             refine pure_ (i := 7) (N := some 72) (v := undef) (a' := ?_) #[tt, tt, tt, tt, tt, tt, tt, tt, ff, ff, ff, ff, ff, ff] rfl rfl (any_of HT_.out (by kernel_rfl)) (fun _ _ _ h => h) (Or.inr ⟨by rfl, rfl⟩) ?_ ?_
             rotate_left
             ·simp only [Act.put, zp, zq, zr, i64_w, i32_w]
              rfl
             refine pure_ (i := 8) (N := some 73) (v := undef) (a' := ?_) #[tt, tt, tt, tt, tt, tt, tt, tt, tt, ff, ff, ff, ff, ff] rfl rfl (any_of HT_.out (by kernel_rfl)) (fun _ _ _ h => h) (Or.inr ⟨by rfl, rfl⟩) ?_ ?_
             rotate_left
             ·simp only [Act.put, zp, zq, zr, i64_w, i32_w]
              rfl
             refine pure_ (i := 9) (N := some 74) (v := undef) (a' := ?_) #[tt, tt, tt, tt, tt, tt, tt, tt, tt, tt, ff, ff, ff, ff] rfl rfl (any_of HT_.out (by kernel_rfl)) (fun _ _ _ h => h) (Or.inr ⟨by rfl, rfl⟩) ?_ ?_
             rotate_left
             ·simp only [Act.put, zp, zq, zr, i64_w, i32_w]
              rfl
             refine pure_ (i := 10) (N := some 75) (v := undef) (a' := ?_) #[tt, tt, tt, tt, tt, tt, tt, tt, tt, tt, tt, ff, ff, ff] rfl rfl (any_of HT_.out (by kernel_rfl)) (fun _ _ _ h => h) (Or.inr ⟨by rfl, rfl⟩) ?_ ?_
             rotate_left
             ·simp only [Act.put, zp, zq, zr, i64_w, i32_w]
              rfl
             refine pure_ (i := 11) (N := some 76) (v := undef) (a' := ?_) #[tt, tt, tt, tt, tt, tt, tt, tt, tt, tt, tt, tt, ff, ff] rfl rfl (any_of HT_.out (by kernel_rfl)) (fun _ _ _ h => h) (Or.inr ⟨by rfl, rfl⟩) ?_ ?_
             rotate_left
             ·simp only [Act.put, zp, zq, zr, i64_w, i32_w]
              rfl
             refine pure_ (i := 12) (N := some 77) (v := undef) (a' := ?_) #[tt, tt, tt, tt, tt, tt, tt, tt, tt, tt, tt, tt, tt, ff] rfl rfl (any_of HT_.out (by kernel_rfl)) (fun _ _ _ h => h) (Or.inr ⟨by rfl, rfl⟩) ?_ ?_
             rotate_left
             ·simp only [Act.put, zp, zq, zr, i64_w, i32_w]
              rfl
             refine zu 13 (some 78) #[tt, tt, tt, tt, tt, tt, tt, tt, tt, tt, tt, tt, tt, tt] (any_of HT_.out (by kernel_rfl)) ?_
             refine done_ (done_of HT_.out (by kernel_rfl)) ?_
             try go_wp2
             go_meet
             case rel => exact ⟨_, (false), (by first | rfl | (simp; done) | (simp [*]; done)), H', ⟨by have := dn.out; first | omega | exact Nat.le_refl _⟩, ⟨zk aa⟩, ⟨zb HB⟩⟩
            ·rw [if_neg cY] at H
             have aZ : (ah == ab) = false := beq_eq_false_iff_ne.mpr cY
             have cZ : (ah != ab) = true := bne_iff_ne.mpr cY
             (first | rw [aZ] | (simp only [i64_w, i32_w]; rw [aZ]) | skip)
             by_cases dP : 0 ≤ ah
             ·rw [if_pos dP] at H
              have dQ : decide (0 ≤ ah) = true := decide_eq_true dP
              clear dP; have H' := zK H; clear H
              try go_wp2
              have ar := zK (zD aa.out)
              have au := zK (zE HB.out)
              clear aa HB; have aa := ar; have HB := au; clear ar au
              have cE : 0 ≤ (ah : Int) := zd
              have cF : ah < (ac.length : Int) := zd
              obtain ⟨dR, dr, dt, e467, aH, b4, b5⟩ := at_L2 ax.out ah cE cF
              have b6 := aH
              obtain rfl : an = dR := (by injection e467)
              replace aH := (HB.out.cell (World.block_lt_of_cell? w _ aH)).trans aH
              have cG := zK b5; have HC467_0 := zK b4; clear b5 b4; replace cE := eq_true cE; replace cF := eq_true cF
              refine start_ (n := 14) (S := fun w' => w'.cell? ⟨ad, 0, none⟩ = some (.int .i64 a0_0) ∧ w'.cell? ⟨ad, 1, none⟩ = some (.slice (some an) ac.length ae) ∧ w'.cell? (an.add (ah).toNat) = some (.slice dr (rd_L2 ac ah).length dt)) (ds := []) #[ff, ff, ff, ff, ff, ff, ff, ff, ff, ff, ff, ff, ff, ff] (by kernel_rfl) rfl rfl ⟨(blk_cell aa.out 0).trans rfl, (blk_cell aa.out 1).trans rfl, ((HB.out.cell (World.block_lt_of_cell? w _ b6)).trans b6)⟩ (fun hHeld => ?_); refine with_tabW spec_l06Few.tab16 spec_l06Few.bits16 (fun HT_ HW_ => ?_)
              generalize wr.drew = w58 at aa HB cG aH hHeld ⊢
              refine zu 0 (some 65) #[tt, ff, ff, ff, ff, ff, ff, ff, ff, ff, ff, ff, ff, ff] (any_of HT_.out (by kernel_rfl)) ?_
              refine zu 1 (some 66) #[tt, tt, ff, ff, ff, ff, ff, ff, ff, ff, ff, ff, ff, ff] (any_of HT_.out (by kernel_rfl)) ?_
              refine zu 2 (some 67) #[tt, tt, tt, ff, ff, ff, ff, ff, ff, ff, ff, ff, ff, ff] (any_of HT_.out (by kernel_rfl)) ?_
              refine zu 3 (some 68) #[tt, tt, tt, tt, ff, ff, ff, ff, ff, ff, ff, ff, ff, ff] (any_of HT_.out (by kernel_rfl)) ?_
              refine zu 4 (some 69) #[tt, tt, tt, tt, tt, ff, ff, ff, ff, ff, ff, ff, ff, ff] (any_of HT_.out (by kernel_rfl)) ?_
              refine zu 6 (some 71) #[tt, tt, tt, tt, tt, ff, tt, ff, ff, ff, ff, ff, ff, ff] (any_of HT_.out (by kernel_rfl)) ?_
              refine zu 10 (some 75) #[tt, tt, tt, tt, tt, ff, tt, ff, ff, ff, tt, ff, ff, ff] (any_of HT_.out (by kernel_rfl)) ?_
              refine zt 5 (some 70) #[tt, tt, tt, tt, tt, tt, tt, ff, ff, ff, tt, ff, ff, ff] (take_ofW HT_.out HW_.out (by kernel_rfl)) hHeld ?_
              refine zu 7 (some 72) #[tt, tt, tt, tt, tt, tt, tt, tt, ff, ff, tt, ff, ff, ff] (any_of HT_.out (by kernel_rfl)) ?_
              refine zt 8 (some 73) #[tt, tt, tt, tt, tt, tt, tt, tt, tt, ff, tt, ff, ff, ff] (take_ofW HT_.out HW_.out (by kernel_rfl)) hHeld ?_
              refine zu 9 (some 74) #[tt, tt, tt, tt, tt, tt, tt, tt, tt, tt, tt, ff, ff, ff] (any_of HT_.out (by kernel_rfl)) ?_
              refine zt 11 (some 76) #[tt, tt, tt, tt, tt, tt, tt, tt, tt, tt, tt, tt, ff, ff] (take_ofW HT_.out HW_.out (by kernel_rfl)) hHeld ?_
              refine zu 12 (some 77) #[tt, tt, tt, tt, tt, tt, tt, tt, tt, tt, tt, tt, tt, ff] (any_of HT_.out (by kernel_rfl)) ?_
              refine zu 13 (some 78) #[tt, tt, tt, tt, tt, tt, tt, tt, tt, tt, tt, tt, tt, tt] (any_of HT_.out (by kernel_rfl)) ?_
              refine done_ (done_of HT_.out (by kernel_rfl)) ?_
              try go_wp2
              go_meet
              case rel => exact ⟨_, (decide (((rd_L2 ac ah).length : Int) < a0_0)), (by first | rfl | (simp; done) | (simp [*]; done)), H', ⟨by have := dn.out; first | omega | exact Nat.le_refl _⟩, ⟨zk aa⟩, ⟨zb HB⟩⟩
             ·rw [if_neg dP] at H
              exact absurd H (by simp)
           case rest =>
            clear dq
            try clear c1
            try clear p1
            try clear q1
            try clear hx1
            try clear c2
            try clear p2
            try clear c3
            try clear q3
            try clear c4
            try clear c0
            try clear da
            try clear p4
            try clear q4
            try clear hx4
            try clear c5
            try clear c6
            try clear p6
            try clear c7
            try clear c9
            try clear dy
            try clear c10
            try clear cJ
            try clear dv
            try clear cK
            try clear dw
            try clear cL
            try clear cw
            try clear ch
            try clear ci
            try clear dx
            try clear cM
            try clear c17
            try clear cN
            try clear db
            try clear cO
            try clear cP
            try clear c19
            try clear di
            try clear dj
            try clear hx19
            try clear hf19
            try clear c29
            try clear cR
            try clear c35
            try clear cW
            try clear cu
            try clear c45
            try clear p45
            try clear q45
            try clear hx45
            try clear c46
            try clear p46
            try clear q46
            try clear hx46
            try clear dp
            try clear cX
            try clear cY
            try clear aZ
            try clear cZ
            try clear dP
            try clear dQ
            try clear bc
            try clear bd
            try clear bg
            try clear bh
            try clear bk
            try clear bl
            try clear bs
            try clear bt
            try clear bC
            try clear bD
            try clear bG
            try clear bH
            try clear bK
            try clear bL
            try clear bO
            try clear bP
            try clear bS
            try clear bT
            try clear bW
            try clear bX
            try clear b0
            try clear b1
            try clear cA
            try clear cB
            try clear cd
            try clear ce
            try clear be
            try clear bf
            try clear bi
            try clear bj
            try clear bm
            try clear bn
            try clear bv
            try clear bw
            try clear bE
            try clear bF
            try clear bI
            try clear bJ
            try clear bM
            try clear bN
            try clear bQ
            try clear bR
            try clear bU
            try clear bV
            try clear bY
            try clear bZ
            try clear b2
            try clear b3
            try clear cC
            try clear cD
            try clear cf
            try clear cg
            try clear a5
            try clear ai
            try clear aj
            try clear ap
            try clear aq
            try clear aE
            try clear aH
            try clear p1
            try clear di
            try clear p2
            try clear p4
            try clear p45
            try clear aQ
            try clear aS
            try clear aU
            try clear p46
            try clear b9
            try clear cE
            try clear p6
            try clear q1
            try clear dj
            try clear q3
            try clear cR
            try clear q4
            try clear q45
            try clear aR
            try clear aT
            try clear aV
            try clear q46
            try clear ca
            try clear cF
            obtain ⟨kq, a6, rfl, HA, cv, aa, HB⟩ := hcut
            cases kq with
            | zero => exact absurd HA.out (by simp [spec_l06Few.j1])
            | succ kj52 =>
             have H := HA.out; clear HA
             simp only [spec_l06Few.j1] at H
             by_cases c59 : a6 = true
             ·subst c59
              have H1 : ((spec_l06Hop.f kj52 a0_0 ac ab ah).bind fun bt468 => ((spec_l06Few.f kj52 bt468.1 bt468.2 (wrap64 (aJ - 2))).bind fun a7 => (spec_l06Few.l0 kj52 ab (mn aJ (wrap64 (1 + a7))) (wrap64 (ah + 1)) a0_0 ac))) = some r := by rw [if_pos rfl] at H; exact H
              clear H; have H := H1; clear H1; replace H := Option.bind_eq_some_iff.mp H
              obtain ⟨⟨cH, cI⟩, dS, H⟩ := H
              replace H : ((spec_l06Few.f kj52 cH cI (wrap64 (aJ - 2))).bind fun a7 => (spec_l06Few.l0 kj52 ab (mn aJ (wrap64 (1 + a7))) (wrap64 (ah + 1)) a0_0 ac)) = some r := H
              have A60 := zK dS; clear dS; replace H := Option.bind_eq_some_iff.mp H
              obtain ⟨a7, dT, H⟩ := H
              replace H : (spec_l06Few.l0 kj52 ab (mn aJ (wrap64 (1 + a7))) (wrap64 (ah + 1)) a0_0 ac) = some r := H
              have A61 := zK dT; clear dT
              obtain ⟨du, a0⟩ : ∃ j_ : Int, (mn aJ (wrap64 (1 + a7))) = j_ := ⟨_, rfl⟩
              replace H : (spec_l06Few.l0 kj52 ab du (wrap64 (ah + 1)) a0_0 ac) = some r := by first | (rw [a0] at H; exact H) | (simp only [a0] at H ⊢; exact H)
              (try rw [a0] at A60); (try rw [a0] at A61)
              have hji62_ : (if (wrap64 (1 + a7)) < aJ then (wrap64 (1 + a7)) else aJ) = du := a0
              have H' := zK H; clear H
              have hcz63_0 : wc.cell? ⟨ad, 0, none⟩ = some (.int .i64 a0_0) := (blk_cell aa.out 0).trans rfl
              have hcz63_1 : wc.cell? ⟨ad, 1, none⟩ = some (.slice (some an) ac.length ae) := (blk_cell aa.out 1).trans rfl
              have hfz63_0 := blk_frozen aa.out 0; have hfz63_1 := blk_frozen aa.out 1
              go_wp2_with (first | ((with_reducible refine gate_callee (f := 76) rfl ?_); refine goesL_ (some 83) rfl rfl Try.func76 (by kernel_rfl) rfl #[.agg #[.int .i64 a0_0, .slice (some an) ac.length ae], .int .i64 ab, .int .i64 ah] rfl (by (try simp only [List.map_toArray, List.map_cons, List.map_nil]); first | done | rfl | (simp only [List.length_drop, List.length_take]; rfl)) ?_; (with_reducible refine (spec_l06Hop.calls kj52 a0_0 _ _ ac ab ah cH cI _ ?side1 ?side2 A60.out).mono ?_); (case side1 => repeat (first | exact (Kd.C_below ax.out HB.out) | (with_reducible refine Kd.C_alloc ?_ _) | (with_reducible refine Kd.C_drewN ?_ _) | (with_reducible refine Kd.C_drew ?_))); (case side2 => exact aL.out); rintro e w64 ⟨v470, rfl, ho0, hb⟩; refine ⟨_, rfl, ?_⟩; have ar := zK (Kd.S_lower ho0 (below_size (zb HB))); have au := zK (blk_below (g := ad) (o := .cells #[.int .i64 a0_0, .slice (some an) ac.length ae] 24 (0, 0)) (zk aa) hb); have aF := zK (below_step (zb HB) hb); clear aa; clear HB; have a2 := ar; have aa := au; have HB := aF; clear ar au aF; (try clear hb); (try clear ho0); obtain ⟨Ao65, co65, eo65⟩ := Kd.S_slice a2.out; subst eo65) | ((with_reducible refine gate_callee (f := 63) rfl ?_); refine goesL_ (some 86) rfl rfl Try.func63 (by kernel_rfl) rfl #[.agg #[.int .i64 cH, .slice Ao65 cI.length co65], .int .i64 (wrap64 (aJ - 2))] rfl (by (try simp only [List.map_toArray, List.map_cons, List.map_nil]); first | done | rfl | (simp only [List.length_drop, List.length_take]; rfl)) ?_; (with_reducible refine (ih kj52 (by have := dn.out; have := cv.out; omega) cH _ _ cI (wrap64 (aJ - 2)) a7 _ ?side1 ?side2 A61.out).mono ?_); (case side1 => repeat (first | exact (Kd.S_reads' a2.out).2.2 | (with_reducible refine Kd.C_alloc ?_ _) | (with_reducible refine Kd.C_drewN ?_ _) | (with_reducible refine Kd.C_drew ?_))); (case side2 => exact (Kd.S_reads' a2.out).2.1); rintro e w66 ⟨rfl, hb⟩; refine ⟨_, rfl, ?_⟩; have ar := zK (Kd.S_below (zT a2) hb); have au := zK (blk_below (g := ad) (o := .cells #[.int .i64 a0_0, .slice (some an) ac.length ae] 24 (0, 0)) (zk aa) hb); have aF := zK (below_step (zb HB) hb); clear a2; clear aa; clear HB; have a2 := ar; have aa := au; have HB := aF; clear ar au aF; (try clear hb)))
              go_roundg kj52
              case measure => have := dn.out; have := cv.out; omega
              case rel => exact ⟨(du), (wrap64 (ah + 1)), (by first | rfl | (simp; done) | (simp only [← a0] <;> (first | rfl | simp)) | (simp [*]; done)), (by first | rfl | (simp; done) | (simp [*]; done)), H', ⟨by have := dn.out; have := cv.out; omega⟩, ⟨zk aa⟩, ⟨zb HB⟩⟩
             ·replace c59 := Bool.eq_false_iff.mpr c59
              subst c59
              have H1 : (spec_l06Few.l0 kj52 ab aJ (wrap64 (ah + 1)) a0_0 ac) = some r := by rw [if_neg (show ¬ (false = true) by decide)] at H; exact H
              clear H; have H := H1; clear H1; have H' := zK H; clear H
              go_wp2
              go_roundg kj52
              case measure => have := dn.out; have := cv.out; omega
              case rel => exact ⟨(aJ), (wrap64 (ah + 1)), (by first | rfl | (simp; done) | (simp [*]; done)), (by first | rfl | (simp; done) | (simp [*]; done)), H', ⟨by have := dn.out; have := cv.out; omega⟩, ⟨zk aa⟩, ⟨zb HB⟩⟩
          ·rw [if_neg dp] at H
           have cX : decide (ah < (ac.length : Int)) = false := decide_eq_false dp
           clear dp; obtain rfl := Option.some.inj H
           have hcz67_0 : wr.cell? ⟨ad, 0, none⟩ = some (.int .i64 a0_0) := (blk_cell aa.out 0).trans rfl
           have hcz67_1 : wr.cell? ⟨ad, 1, none⟩ = some (.slice (some an) ac.length ae) := (blk_cell aa.out 1).trans rfl
           have hfz67_0 := blk_frozen aa.out 0; have hfz67_1 := blk_frozen aa.out 1
           go_wp2
           go_ret
           exact ⟨by first | rfl | (simp [errW_none, errW_some] <;> rfl) | (simp only [← aY]; first | rfl | (simp [errW_none, errW_some] <;> rfl)) | (simp [*, errW_none, errW_some] <;> rfl), by repeat (first | (with_reducible first | exact HB.out | apply zB | apply zC | apply zE | refine zS ?_ af.out) | exact HB.out)⟩
     ·rw [if_neg dw] at H
      exact absurd H (by simp)
    ·rw [if_neg dv] at H
     exact absurd H (by simp)
   ·rw [if_neg c10] at H
    exact absurd H (by simp)
  ·rw [if_neg c9] at H
   exact absurd H (by simp)
def spec_LeastHops.l0 : Nat → Int → Int → Int → List (List (S30)) → Option (Int × Bool)
 | 0, _, _, _, _ => none
 | k + 1, x4, x5, x474000, x474001 => if x5 < (x474001.length : Int) then (if 0 ≤ x5 then (spec_LeastHops.l0 k (wrap64 (x4 + ((rd_L2 x474001 x5).length : Int))) (wrap64 (x5 + 1)) x474000 x474001) else (none)) else (if x4 > 5 then (some (0, false)) else ((spec_l06Few.f k x474000 x474001 20).bind fun t476 => (if t476 > 20 then (some (0, false)) else (some (t476, true)))))
def spec_LeastHops.f (k : Nat) (a0_0 : Int) (l0_1 : List (List (S30))) : Option (Int × Bool) := (spec_StoreOk.f k a0_0 l0_1).bind fun t474 => (if t474 = true then (spec_LeastHops.l0 k 0 0 a0_0 l0_1) else (some (0, false)))
set_option maxHeartbeats 8000000 in
set_option maxRecDepth 100000 in
theorem spec_LeastHops.calls (k : Nat) (a0_0 : Int) (ad : Option Addr) (ae : Nat) (ab : List (List (S30))) (r1 : Int) (r2 : Bool) (w : World) (ar : Kd.C (Kd.slice 30 k30) w ad ab.length ab) (hc0_1 : ab.length ≤ ae) (h : spec_LeastHops.f k a0_0 ab = some (r1, r2)) :
  Calls Try.prog 28 #[.agg #[.int .i64 a0_0, .slice ad ab.length ae]] w fun e w' => e = .returned (.tuple #[.int .i64 r1, .bool r2]) ∧ Below w.heap.size w w' := by
 have hu24 := Try.underlying24; have ai := zK ar; have an := zK hc0_1; clear ar hc0_1
 have HB := zK (Below.refl w.heap.size w)
 have H : ((spec_StoreOk.f k a0_0 ab).bind fun aq => (if aq = true then (spec_LeastHops.l0 k 0 0 a0_0 ab) else (some (0, false)))) = some (r1, r2) := h
 clear h; replace H := Option.bind_eq_some_iff.mp H
 obtain ⟨aq, A20, H⟩ := H
 replace H : (if aq = true then (spec_LeastHops.l0 k 0 0 a0_0 ab) else (some (0, false))) = some (r1, r2) := H
 have A2 := zK A20; clear A20
 by_cases c3 : aq = true
 ·subst c3
  have H1 : (spec_LeastHops.l0 k 0 0 a0_0 ab) = some (r1, r2) := by rw [if_pos rfl] at H; exact H
  clear H; have H := H1; clear H1; have H' := zK H; clear H
  go_enter Try.func28, Try.ntmps28
  go_wp2_with (first | ((with_reducible refine gate_dst (N := 1) rfl ?_); refine box_event ?hg (N := 1) ?hd (cs := #[.int .i64 a0_0, .slice ad ab.length ae]) (t := 24) ?hr ?_; (case hd => rfl); (case hg => rfl); (case hr => first | (go_simp; done) | (go_simp; rfl)); intro ac hg w4 hbox hb; have aj := zK (below_step (zb HB) hb); have ak := zK (hbox); have aB := zK ((by rw [hg]; exact (below_size (zb HB)) : w.heap.size ≤ ac)); have aC := zK ((by rw [hg]; exact (below_size (zb HB)) : w.heap.size ≤ ac)); clear HB; have HB := aj; have aa := ak; have aD := aB; have af := aC; clear aj ak aB aC; clear hb hbox hg; have au : w4.cell? ⟨ac, 0, none⟩ = some (.int .i64 a0_0) := (blk_cell aa.out 0).trans rfl; have av : w4.cell? ⟨ac, 1, none⟩ = some (.slice ad ab.length ae) := (blk_cell aa.out 1).trans rfl; have aw := blk_frozen aa.out 0; have ax := blk_frozen aa.out 1) | ((with_reducible refine gate_callee (f := 15) rfl ?_); refine goesL_ (some 8) rfl rfl Try.func15 (by kernel_rfl) rfl #[.agg #[.int .i64 a0_0, .slice ad ab.length ae]] rfl (by (try simp only [List.map_toArray, List.map_cons, List.map_nil]); first | done | rfl | (simp only [List.length_drop, List.length_take]; rfl)) ?_; (with_reducible refine (spec_StoreOk.calls k a0_0 _ _ ab true _ ?side1 ?side2 A2.out).mono ?_); (case side1 => repeat (first | exact (Kd.C_below ai.out HB.out) | (with_reducible refine Kd.C_alloc ?_ _) | (with_reducible refine Kd.C_drewN ?_ _) | (with_reducible refine Kd.C_drew ?_))); (case side2 => exact an.out); rintro e w6 ⟨rfl, hb⟩; refine ⟨_, rfl, ?_⟩; have aj := zK (blk_below (g := ac) (o := .cells #[.int .i64 a0_0, .slice ad ab.length ae] 24 (0, 0)) (zk aa) hb); have ak := zK (below_step (zb HB) hb); clear aa; clear HB; have aa := aj; have HB := ak; clear aj ak; (try clear hb)))
  go_loopg [4, 5] k (fun kq v4 v5 w' => ∃ (al : Int) (ag : Int), v4 = .int .i64 al ∧ v5 = .int .i64 ag ∧ Aside0 (spec_LeastHops.l0 kq al ag a0_0 ab = some (r1, r2)) ∧ Aside0 (kq ≤ k) ∧ Aside0 (w'.heap[ac]? = some (.cells #[.int .i64 a0_0, (.slice ad ab.length ae)] 24 (0, 0))) ∧ Aside0 (Below w.heap.size w w'))
  case atStart => exact ⟨(0), (0), (by first | rfl | (simp; done) | (simp [*]; done)), (by first | rfl | (simp; done) | (simp [*]; done)), H', ⟨Nat.le_refl _⟩, ⟨zk aa⟩, ⟨zb HB⟩⟩
  case round =>
   clear H'
   try clear c1
   try clear c2
   try clear p2
   try clear c3
   try clear au
   try clear av
   try clear aw
   try clear ax
   obtain ⟨al, ag, rfl, rfl, HA, HK1, aa, HB⟩ := hrel
   cases gk with
   | zero => exact absurd HA.out (by simp [spec_LeastHops.l0])
   | succ k1 =>
    have H := HA.out; clear HA
    simp only [spec_LeastHops.l0] at H
    by_cases c7 : ag < (ab.length : Int)
    ·rw [if_pos c7] at H
     have c7b0 : decide (ag < (ab.length : Int)) = true := decide_eq_true c7
     clear c7
     by_cases c8 : 0 ≤ ag
     ·rw [if_pos c8] at H
      have c8b0 : decide (0 ≤ ag) = true := decide_eq_true c8
      clear c8; have H' := zK H; clear H
      have hcz9_0 : wr.cell? ⟨ac, 0, none⟩ = some (.int .i64 a0_0) := (blk_cell aa.out 0).trans rfl
      have hcz9_1 : wr.cell? ⟨ac, 1, none⟩ = some (.slice ad ab.length ae) := (blk_cell aa.out 1).trans rfl
      have hfz9_0 := blk_frozen aa.out 0; have hfz9_1 := blk_frozen aa.out 1
      have ay : 0 ≤ (ag : Int) := zd
      have az : ag < (ab.length : Int) := zd
      obtain ⟨ad475, A475_0, c475_0, e475, ah, ao, ap⟩ := at_L2 ai.out ag ay az
      cases e475
      replace ah := (HB.out.cell (World.block_lt_of_cell? w _ ah)).trans ah
      have HR475_0 := zK ap; have HC475_0 := zK ao; clear ap ao; replace ay := eq_true ay; replace az := eq_true az
      go_wp2
      go_roundg k1
      case measure => have := HK1.out; omega
      case rel => exact ⟨(wrap64 (al + ((rd_L2 ab ag).length : Int))), (wrap64 (ag + 1)), (by first | rfl | (simp; done) | (simp [*]; done)), (by first | rfl | (simp; done) | (simp [*]; done)), H', ⟨by have := HK1.out; omega⟩, ⟨zk aa⟩, ⟨zb HB⟩⟩
     ·rw [if_neg c8] at H
      exact absurd H (by simp)
    ·rw [if_neg c7] at H
     have c7b0 : decide (ag < (ab.length : Int)) = false := decide_eq_false c7
     clear c7
     by_cases c10 : al > 5
     ·rw [if_pos c10] at H
      have aE : decide (5 < al) = true := decide_eq_true c10
      clear c10
      simp only [Option.some.injEq, Prod.mk.injEq] at H
      obtain ⟨rfl, rfl⟩ := H
      have hcz11_0 : wr.cell? ⟨ac, 0, none⟩ = some (.int .i64 a0_0) := (blk_cell aa.out 0).trans rfl
      have hcz11_1 : wr.cell? ⟨ac, 1, none⟩ = some (.slice ad ab.length ae) := (blk_cell aa.out 1).trans rfl
      have hfz11_0 := blk_frozen aa.out 0; have hfz11_1 := blk_frozen aa.out 1
      go_wp2
      go_ret2
      exact ⟨by first | rfl | (simp [errW_none, errW_some] <;> rfl) | (simp [*, errW_none, errW_some] <;> rfl), by repeat (first | (with_reducible first | exact HB.out | apply zB | apply zC | apply zE | refine zS ?_ af.out) | exact HB.out)⟩
     ·rw [if_neg c10] at H
      have aE : decide (5 < al) = false := decide_eq_false c10
      clear c10; replace H := Option.bind_eq_some_iff.mp H
      obtain ⟨am, aF, H⟩ := H
      replace H : (if am > 20 then (some (0, false)) else (some (am, true))) = some (r1, r2) := H
      have A12 := zK aF; clear aF
      by_cases aA : am > 20
      ·rw [if_pos aA] at H
       have aG : decide (20 < am) = true := decide_eq_true aA
       clear aA
       simp only [Option.some.injEq, Prod.mk.injEq] at H
       obtain ⟨rfl, rfl⟩ := H
       have hcz14_0 : wr.cell? ⟨ac, 0, none⟩ = some (.int .i64 a0_0) := (blk_cell aa.out 0).trans rfl
       have hcz14_1 : wr.cell? ⟨ac, 1, none⟩ = some (.slice ad ab.length ae) := (blk_cell aa.out 1).trans rfl
       have hfz14_0 := blk_frozen aa.out 0; have hfz14_1 := blk_frozen aa.out 1
       go_wp2_with (first | ((with_reducible refine gate_callee (f := 63) rfl ?_); refine goesL_ (some 28) rfl rfl Try.func63 (by kernel_rfl) rfl #[.agg #[.int .i64 a0_0, .slice ad ab.length ae], .int .i64 20] rfl (by (try simp only [List.map_toArray, List.map_cons, List.map_nil]); first | done | rfl | (simp only [List.length_drop, List.length_take]; rfl)) ?_; (with_reducible refine (spec_l06Few.calls k1 a0_0 _ _ ab 20 am _ ?side1 ?side2 A12.out).mono ?_); (case side1 => repeat (first | exact (Kd.C_below ai.out HB.out) | (with_reducible refine Kd.C_alloc ?_ _) | (with_reducible refine Kd.C_drewN ?_ _) | (with_reducible refine Kd.C_drew ?_))); (case side2 => exact an.out); rintro e w15 ⟨rfl, hb⟩; refine ⟨_, rfl, ?_⟩; have aj := zK (blk_below (g := ac) (o := .cells #[.int .i64 a0_0, .slice ad ab.length ae] 24 (0, 0)) (zk aa) hb); have ak := zK (below_step (zb HB) hb); clear aa; clear HB; have aa := aj; have HB := ak; clear aj ak; (try clear hb)))
       go_ret2
       exact ⟨by first | rfl | (simp [errW_none, errW_some] <;> rfl) | (simp [*, errW_none, errW_some] <;> rfl), by repeat (first | (with_reducible first | exact HB.out | apply zB | apply zC | apply zE | refine zS ?_ af.out) | exact HB.out)⟩
      ·rw [if_neg aA] at H
       have aG : decide (20 < am) = false := decide_eq_false aA
       clear aA
       simp only [Option.some.injEq, Prod.mk.injEq] at H
       obtain ⟨rfl, rfl⟩ := H
       have hcz16_0 : wr.cell? ⟨ac, 0, none⟩ = some (.int .i64 a0_0) := (blk_cell aa.out 0).trans rfl
       have hcz16_1 : wr.cell? ⟨ac, 1, none⟩ = some (.slice ad ab.length ae) := (blk_cell aa.out 1).trans rfl
       have hfz16_0 := blk_frozen aa.out 0; have hfz16_1 := blk_frozen aa.out 1
       go_wp2_with (first | ((with_reducible refine gate_callee (f := 63) rfl ?_); refine goesL_ (some 28) rfl rfl Try.func63 (by kernel_rfl) rfl #[.agg #[.int .i64 a0_0, .slice ad ab.length ae], .int .i64 20] rfl (by (try simp only [List.map_toArray, List.map_cons, List.map_nil]); first | done | rfl | (simp only [List.length_drop, List.length_take]; rfl)) ?_; (with_reducible refine (spec_l06Few.calls k1 a0_0 _ _ ab 20 am _ ?side1 ?side2 A12.out).mono ?_); (case side1 => repeat (first | exact (Kd.C_below ai.out HB.out) | (with_reducible refine Kd.C_alloc ?_ _) | (with_reducible refine Kd.C_drewN ?_ _) | (with_reducible refine Kd.C_drew ?_))); (case side2 => exact an.out); rintro e w17 ⟨rfl, hb⟩; refine ⟨_, rfl, ?_⟩; have aj := zK (blk_below (g := ac) (o := .cells #[.int .i64 a0_0, .slice ad ab.length ae] 24 (0, 0)) (zk aa) hb); have ak := zK (below_step (zb HB) hb); clear aa; clear HB; have aa := aj; have HB := ak; clear aj ak; (try clear hb)))
       go_ret2
       exact ⟨by first | rfl | (simp [errW_none, errW_some] <;> rfl) | (simp [*, errW_none, errW_some] <;> rfl), by repeat (first | (with_reducible first | exact HB.out | apply zB | apply zC | apply zE | refine zS ?_ af.out) | exact HB.out)⟩
 ·replace c3 := Bool.eq_false_iff.mpr c3
  subst c3
  have H1 : (some (0, false)) = some (r1, r2) := by rw [if_neg (show ¬ (false = true) by decide)] at H; exact H
  clear H; have H := H1; clear H1
  simp only [Option.some.injEq, Prod.mk.injEq] at H
  obtain ⟨rfl, rfl⟩ := H
  go_enter Try.func28, Try.ntmps28
  go_wp2_with (first | ((with_reducible refine gate_dst (N := 1) rfl ?_); refine box_event ?hg (N := 1) ?hd (cs := #[.int .i64 a0_0, .slice ad ab.length ae]) (t := 24) ?hr ?_; (case hd => rfl); (case hg => rfl); (case hr => first | (go_simp; done) | (go_simp; rfl)); intro ac hg w18 hbox hb; have aj := zK (below_step (zb HB) hb); have ak := zK (hbox); have aB := zK ((by rw [hg]; exact (below_size (zb HB)) : w.heap.size ≤ ac)); have aC := zK ((by rw [hg]; exact (below_size (zb HB)) : w.heap.size ≤ ac)); clear HB; have HB := aj; have aa := ak; have aD := aB; have af := aC; clear aj ak aB aC; clear hb hbox hg; have hcz19_0 : w18.cell? ⟨ac, 0, none⟩ = some (.int .i64 a0_0) := (blk_cell aa.out 0).trans rfl; have hcz19_1 : w18.cell? ⟨ac, 1, none⟩ = some (.slice ad ab.length ae) := (blk_cell aa.out 1).trans rfl; have hfz19_0 := blk_frozen aa.out 0; have hfz19_1 := blk_frozen aa.out 1) | ((with_reducible refine gate_callee (f := 15) rfl ?_); refine goesL_ (some 8) rfl rfl Try.func15 (by kernel_rfl) rfl #[.agg #[.int .i64 a0_0, .slice ad ab.length ae]] rfl (by (try simp only [List.map_toArray, List.map_cons, List.map_nil]); first | done | rfl | (simp only [List.length_drop, List.length_take]; rfl)) ?_; (with_reducible refine (spec_StoreOk.calls k a0_0 _ _ ab false _ ?side1 ?side2 A2.out).mono ?_); (case side1 => repeat (first | exact (Kd.C_below ai.out HB.out) | (with_reducible refine Kd.C_alloc ?_ _) | (with_reducible refine Kd.C_drewN ?_ _) | (with_reducible refine Kd.C_drew ?_))); (case side2 => exact an.out); rintro e w20 ⟨rfl, hb⟩; refine ⟨_, rfl, ?_⟩; have aj := zK (blk_below (g := ac) (o := .cells #[.int .i64 a0_0, .slice ad ab.length ae] 24 (0, 0)) (zk aa) hb); have ak := zK (below_step (zb HB) hb); clear aa; clear HB; have aa := aj; have HB := ak; clear aj ak; (try clear hb)))
  go_ret2
  exact ⟨by first | rfl | (simp [errW_none, errW_some] <;> rfl) | (simp [*, errW_none, errW_some] <;> rfl), by repeat (first | (with_reducible first | exact HB.out | apply zB | apply zC | apply zE | refine zS ?_ af.out) | exact HB.out)⟩
end Go.Proofs.Ytheckjlldkkceaa.Px
