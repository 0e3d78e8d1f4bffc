import Derived.Test.YtheckjlldkkceaaZnPx0
import Derived.Test.YtheckjlldkkceaaZnPx3
import Derived.Test.YtheckjlldkkceaaZnPx4
import Derived.Test.YtheckjlldkkceaaZnPx9
import Derived.Test.YtheckjlldkkceaaZnPx10
namespace Go.Proofs.Ytheckjlldkkceaa.Px
open Go.RowKit Go.Proofs.YtheckjlldkkceaaW.PrintWords Go.Proofs.YtheckjlldkkceaaW.PrintLast Go.Proofs.YtheckjlldkkceaaW.PrintMore
attribute [local go_sem] max2_int min2_int max_two min_two max_three min_three max_four min_four   
set_option linter.unusedVariables false
set_option linter.unusedSimpArgs false
mutual
def impl_leastHops.l0 : Nat → Int → Int → Int → Int → Int → List (List (S30)) → Int → List (List (S30)) → Int → Int → Option (Int)
 | 0, _, _, _, _, _, _, _, _, _, _ => none
 | k + 1, x4, x7, x30, x31, x165000, x165001, x172000, x172001, x180000, x180001 => if x31 < x30 then (if x31 = x4 then (impl_leastHops.j1 k x4 x7 x31 x30 x31 true x165000 x165001 x172000 x172001 x180000 x180001) else (if 0 ≤ x31 then (if x31 < (x172001.length : Int) then (impl_leastHops.j1 k x4 x7 x31 x30 x31 (((rd_L2 x172001 x31).length : Int) == x165000) x165000 x165001 x172000 x172001 x180000 x180001) else (none)) else (none))) else (some x7)
def impl_leastHops.j1 : Nat → Int → Int → Int → Int → Int → Bool → Int → List (List (S30)) → Int → List (List (S30)) → Int → Int → Option (Int)
 | 0, _, _, _, _, _, _, _, _, _, _, _, _ => none
 | k + 1, x4, x7, x8, x30, x31, x47, x165000, x165001, x172000, x172001, x180000, x180001 => if x47 = true then (impl_leastHops.l0 k x4 x7 x30 (wrap64 (x31 + 1)) x165000 x165001 x172000 x172001 x180000 x180001) else ((impl_copyStore.f k x172000 x172001).bind fun bt182 => (if 0 ≤ x8 then (if x8 < (bt182.2.length : Int) then (if (rd_L2 bt182.2 x8).length < 8796093022208 then ((impl_leastHops.f k bt182.1 (bt182.2.set (x8 : Int).toNat ((rd_L2 bt182.2 x8) ++ [(⟨x180000, x180001⟩ : S30)]))).bind fun t192 => (if t192 ≥ 0 then (if x7 < 0 then (impl_leastHops.j2 k x4 x7 t192 x30 x31 true x165000 x165001 x172000 x172001 x180000 x180001) else (impl_leastHops.j2 k x4 x7 t192 x30 x31 (decide ((wrap64 (t192 + 1)) < x7)) x165000 x165001 x172000 x172001 x180000 x180001)) else (impl_leastHops.j2 k x4 x7 t192 x30 x31 false x165000 x165001 x172000 x172001 x180000 x180001))) else (none)) else (none)) else (none)))
def impl_leastHops.j2 : Nat → Int → Int → Int → Int → Int → Bool → Int → List (List (S30)) → Int → List (List (S30)) → Int → Int → Option (Int)
 | 0, _, _, _, _, _, _, _, _, _, _, _, _ => none
 | k + 1, x4, x7, x10, x30, x31, x75, x165000, x165001, x172000, x172001, x180000, x180001 => if x75 = true then (impl_leastHops.l0 k x4 (wrap64 (x10 + 1)) x30 (wrap64 (x31 + 1)) x165000 x165001 x172000 x172001 x180000 x180001) else (impl_leastHops.l0 k x4 x7 x30 (wrap64 (x31 + 1)) x165000 x165001 x172000 x172001 x180000 x180001)
def impl_leastHops.f : Nat → Int → List (List (S30)) → Option (Int)
 | 0, _, _ => none
 | k + 1, a0_0, l0_1 => (impl_nextOut.f k a0_0 l0_1).bind fun t165 => (if t165 = 0 then (some 0) else ((impl_laneOf.f a0_0 l0_1 t165).bind fun t166 => ((impl_copyStore.f k a0_0 l0_1).bind fun bt167 => (if 0 ≤ t166 then (if t166 < (bt167.2.length : Int) then (if 0 ≤ (wrap64 (((rd_L2 bt167.2 t166).length : Int) - 1)) then (if (wrap64 (((rd_L2 bt167.2 t166).length : Int) - 1)) < ((rd_L2 bt167.2 t166).length : Int) then (if (wrap64 (((rd_L2 bt167.2 t166).length : Int) - 1)) ≤ ((rd_L2 bt167.2 t166).length : Int) then ((some (bt167.2.set (t166 : Int).toNat ((rd_L2 bt167.2 t166).take ((wrap64 (((rd_L2 bt167.2 t166).length : Int) - 1)) : Int).toNat) : List (List (S30)))).bind fun y178 => (if ((rd_T30 (rd_L2 bt167.2 t166) (wrap64 (((rd_L2 bt167.2 t166).length : Int) - 1))).f0) = t165 then ((impl_leastHops.f k bt167.1 y178).bind fun t180 => (some t180)) else (impl_leastHops.l0 k t166 (-1) (bt167.2.length : Int) 0 a0_0 l0_1 bt167.1 y178 ((rd_T30 (rd_L2 bt167.2 t166) (wrap64 (((rd_L2 bt167.2 t166).length : Int) - 1))).f0) ((rd_T30 (rd_L2 bt167.2 t166) (wrap64 (((rd_L2 bt167.2 t166).length : Int) - 1))).f1)))) else (none)) else (none)) else (none)) else (none)) else (none)))))
end
def impl_leastHops.T13 : Bool × List (List Nat × List Nat) := (true, [([], []), ([], []), ([0, 1], [0, 1]), ([2], [2]), ([3], [3]), ([4, 3], [3, 4]), ([3], [3]), ([5, 6, 3], [3, 5, 6]), ([7, 3], [3, 7]), ([8, 3], [3, 8]), ([3], [3]), ([10, 3], [3, 10]), ([9, 11, 3], [3, 9, 11]), ([3, 12], [3, 12])])
def impl_leastHops.B13 : List Nat := [0, 0, 3, 7, 15, 31, 15, 127, 255, 511, 15, 1039, 4095, 8191]
theorem impl_leastHops.tab13 : rtab .any (opsOf Try.f51 13) = impl_leastHops.T13 := by kernel_rfl
theorem impl_leastHops.bits13 : waitsOk impl_leastHops.T13.2 impl_leastHops.B13 = true := by kernel_rfl
def impl_leastHops.T15 : Bool × List (List Nat × List Nat) := (true, [([], []), ([0], [0]), ([], []), ([], []), ([3], [3]), ([], []), ([4, 5], [4, 5]), ([6], [6]), ([], []), ([8], [8]), ([7, 9], [7, 9]), ([1, 2, 0, 1, 2, 3, 4, 5, 6, 7, 8, 9, 10], [1, 2]), ([11, 10, 10, 0, 1, 2, 3, 4, 5, 6, 7, 8, 9, 10], [10, 11])])
def impl_leastHops.B15 : List Nat := [0, 1, 0, 0, 8, 0, 56, 120, 0, 256, 1016, 2047, 4095]
theorem impl_leastHops.tab15 : rtab .any (opsOf Try.f51 15) = impl_leastHops.T15 := by kernel_rfl
theorem impl_leastHops.bits15 : waitsOk impl_leastHops.T15.2 impl_leastHops.B15 = true := by kernel_rfl
set_option maxHeartbeats 8000000 in
set_option maxRecDepth 100000 in
theorem impl_leastHops.calls (k : Nat) : ∀ (a0_0 : Int) (aw : Option Addr) (ax : Nat) (aj : List (List (S30))) (r : Int) (w : World) (dF : Kd.C (Kd.slice 30 k30) w aw aj.length aj) (hc0_1 : aj.length ≤ ax) (h : impl_leastHops.f k a0_0 aj = some r),
  Calls Try.prog 51 #[.agg #[.int .i64 a0_0, .slice aw aj.length ax]] w fun e w' => e = .returned (.int .i64 r) ∧ Below w.heap.size w w' := by
 induction k using Nat.strongRecOn with
 | _ k ih =>
 intro a0_0 aw ax aj r w dF hc0_1 h
 cases k with
 | zero => exact absurd h (by simp [impl_leastHops.f])
 | succ k =>
 simp only [impl_leastHops.f] at h
 have hu24 := Try.underlying24; have hu30 := Try.underlying30; have bD := zK dF; have bE := zK hc0_1; clear dF hc0_1
 have HB := zK (Below.refl w.heap.size w)
 have H : ((impl_nextOut.f k a0_0 aj).bind fun aQ => (if aQ = 0 then (some 0) else ((impl_laneOf.f a0_0 aj aQ).bind fun aa => ((impl_copyStore.f k a0_0 aj).bind fun bt167 => (if 0 ≤ aa then (if aa < (bt167.2.length : Int) then (if 0 ≤ (wrap64 (((rd_L2 bt167.2 aa).length : Int) - 1)) then (if (wrap64 (((rd_L2 bt167.2 aa).length : Int) - 1)) < ((rd_L2 bt167.2 aa).length : Int) then (if (wrap64 (((rd_L2 bt167.2 aa).length : Int) - 1)) ≤ ((rd_L2 bt167.2 aa).length : Int) then ((some (bt167.2.set (aa : Int).toNat ((rd_L2 bt167.2 aa).take ((wrap64 (((rd_L2 bt167.2 aa).length : Int) - 1)) : Int).toNat) : List (List (S30)))).bind fun aT => (if ((rd_T30 (rd_L2 bt167.2 aa) (wrap64 (((rd_L2 bt167.2 aa).length : Int) - 1))).f0) = aQ then ((impl_leastHops.f k bt167.1 aT).bind fun be => (some be)) else (impl_leastHops.l0 k aa (-1) (bt167.2.length : Int) 0 a0_0 aj bt167.1 aT ((rd_T30 (rd_L2 bt167.2 aa) (wrap64 (((rd_L2 bt167.2 aa).length : Int) - 1))).f0) ((rd_T30 (rd_L2 bt167.2 aa) (wrap64 (((rd_L2 bt167.2 aa).length : Int) - 1))).f1)))) else (none)) else (none)) else (none)) else (none)) else (none)))))) = some r := h
 clear h; replace H := Option.bind_eq_some_iff.mp H
 obtain ⟨aQ, A20, H⟩ := H
 replace H : (if aQ = 0 then (some 0) else ((impl_laneOf.f a0_0 aj aQ).bind fun aa => ((impl_copyStore.f k a0_0 aj).bind fun bt167 => (if 0 ≤ aa then (if aa < (bt167.2.length : Int) then (if 0 ≤ (wrap64 (((rd_L2 bt167.2 aa).length : Int) - 1)) then (if (wrap64 (((rd_L2 bt167.2 aa).length : Int) - 1)) < ((rd_L2 bt167.2 aa).length : Int) then (if (wrap64 (((rd_L2 bt167.2 aa).length : Int) - 1)) ≤ ((rd_L2 bt167.2 aa).length : Int) then ((some (bt167.2.set (aa : Int).toNat ((rd_L2 bt167.2 aa).take ((wrap64 (((rd_L2 bt167.2 aa).length : Int) - 1)) : Int).toNat) : List (List (S30)))).bind fun aT => (if ((rd_T30 (rd_L2 bt167.2 aa) (wrap64 (((rd_L2 bt167.2 aa).length : Int) - 1))).f0) = aQ then ((impl_leastHops.f k bt167.1 aT).bind fun be => (some be)) else (impl_leastHops.l0 k aa (-1) (bt167.2.length : Int) 0 a0_0 aj bt167.1 aT ((rd_T30 (rd_L2 bt167.2 aa) (wrap64 (((rd_L2 bt167.2 aa).length : Int) - 1))).f0) ((rd_T30 (rd_L2 bt167.2 aa) (wrap64 (((rd_L2 bt167.2 aa).length : Int) - 1))).f1)))) else (none)) else (none)) else (none)) else (none)) else (none))))) = some r := H
 have A2 := zK A20; clear A20
 by_cases c3 : aQ = 0
 ·rw [if_pos c3] at H
  have ec : (aQ == 0) = true := beq_iff_eq.mpr c3
  have ed : (aQ != 0) = false := bne_eq_false_iff_eq.mpr c3
  clear c3; obtain rfl := Option.some.inj H
  go_enter Try.func51, Try.ntmps51
  go_wp2_with (first | ((with_reducible refine gate_dst (N := 1) rfl ?_); (try (refine gate_guard (by rfl) ?_; dsimp only)); refine box_event ?hg (N := 1) ?hd (cs := #[.int .i64 a0_0, .slice aw aj.length ax]) (t := 24) ?hr ?_; (case hd => rfl); (case hg => rfl); (case hr => first | (go_simp; done) | (go_simp; rfl)); intro ai hg w4 hbox hb; have aA := zK (below_step (zb HB) hb); have aC := zK (hbox); have aI := zK ((by rw [hg]; exact (below_size (zb HB)) : w.heap.size ≤ ai)); have aJ := zK ((by rw [hg]; exact (below_size (zb HB)) : w.heap.size ≤ ai)); clear HB; have HB := aA; have ad := aC; have eD := aI; have ap := aJ; clear aA aC aI aJ; clear hb hbox hg; have cZ : w4.cell? ⟨ai, 0, none⟩ = some (.int .i64 a0_0) := (blk_cell ad.out 0).trans rfl; have c0 : w4.cell? ⟨ai, 1, none⟩ = some (.slice aw aj.length ax) := (blk_cell ad.out 1).trans rfl; have da := blk_frozen ad.out 0; have db := blk_frozen ad.out 1) | ((with_reducible refine gate_callee (f := 60) rfl ?_); refine goesL_ (some 12) rfl rfl Try.func60 (by kernel_rfl) rfl #[.agg #[.int .i64 a0_0, .slice aw aj.length ax]] rfl (by (try simp only [List.map_toArray, List.map_cons, List.map_nil]); first | done | rfl | (simp only [List.length_drop, List.length_take]; rfl)) ?_; (with_reducible refine (impl_nextOut.calls k a0_0 _ _ aj aQ _ ?side1 ?side2 A2.out).mono ?_); (case side1 => repeat (first | exact (Kd.C_below bD.out HB.out) | (with_reducible refine Kd.C_alloc ?_ _) | (with_reducible refine Kd.C_drewN ?_ _) | (with_reducible refine Kd.C_drew ?_))); (case side2 => exact bE.out); rintro e w6 ⟨rfl, hb⟩; refine ⟨_, rfl, ?_⟩; have aA := zK (blk_below (g := ai) (o := .cells #[.int .i64 a0_0, .slice aw aj.length ax] 24 (0, 0)) (zk ad) hb); have aC := zK (below_step (zb HB) hb); clear ad; clear HB; have ad := aA; have HB := aC; clear aA aC; (try clear hb)))
  go_ret
  exact ⟨by first | rfl | (simp [errW_none, errW_some] <;> rfl) | (simp [*, errW_none, errW_some] <;> rfl), by repeat (first | (with_reducible first | exact HB.out | apply zB | apply zC | apply zE | refine zS ?_ ap.out) | exact HB.out)⟩
 ·rw [if_neg c3] at H
  have ec : (aQ == 0) = false := beq_eq_false_iff_ne.mpr c3
  have ed : (aQ != 0) = true := bne_iff_ne.mpr c3
  replace H := Option.bind_eq_some_iff.mp H
  obtain ⟨aa, A70, H⟩ := H
  replace H : ((impl_copyStore.f k a0_0 aj).bind fun bt167 => (if 0 ≤ aa then (if aa < (bt167.2.length : Int) then (if 0 ≤ (wrap64 (((rd_L2 bt167.2 aa).length : Int) - 1)) then (if (wrap64 (((rd_L2 bt167.2 aa).length : Int) - 1)) < ((rd_L2 bt167.2 aa).length : Int) then (if (wrap64 (((rd_L2 bt167.2 aa).length : Int) - 1)) ≤ ((rd_L2 bt167.2 aa).length : Int) then ((some (bt167.2.set (aa : Int).toNat ((rd_L2 bt167.2 aa).take ((wrap64 (((rd_L2 bt167.2 aa).length : Int) - 1)) : Int).toNat) : List (List (S30)))).bind fun aT => (if ((rd_T30 (rd_L2 bt167.2 aa) (wrap64 (((rd_L2 bt167.2 aa).length : Int) - 1))).f0) = aQ then ((impl_leastHops.f k bt167.1 aT).bind fun be => (some be)) else (impl_leastHops.l0 k aa (-1) (bt167.2.length : Int) 0 a0_0 aj bt167.1 aT ((rd_T30 (rd_L2 bt167.2 aa) (wrap64 (((rd_L2 bt167.2 aa).length : Int) - 1))).f0) ((rd_T30 (rd_L2 bt167.2 aa) (wrap64 (((rd_L2 bt167.2 aa).length : Int) - 1))).f1)))) else (none)) else (none)) else (none)) else (none)) else (none))) = some r := H
  have A7 := zK A70; clear A70; replace H := Option.bind_eq_some_iff.mp H
  obtain ⟨⟨aq, ab⟩, A80, H⟩ := H
  replace H : (if 0 ≤ aa then (if aa < (ab.length : Int) then (if 0 ≤ (wrap64 (((rd_L2 ab aa).length : Int) - 1)) then (if (wrap64 (((rd_L2 ab aa).length : Int) - 1)) < ((rd_L2 ab aa).length : Int) then (if (wrap64 (((rd_L2 ab aa).length : Int) - 1)) ≤ ((rd_L2 ab aa).length : Int) then ((some (ab.set (aa : Int).toNat ((rd_L2 ab aa).take ((wrap64 (((rd_L2 ab aa).length : Int) - 1)) : Int).toNat) : List (List (S30)))).bind fun aT => (if ((rd_T30 (rd_L2 ab aa) (wrap64 (((rd_L2 ab aa).length : Int) - 1))).f0) = aQ then ((impl_leastHops.f k aq aT).bind fun be => (some be)) else (impl_leastHops.l0 k aa (-1) (ab.length : Int) 0 a0_0 aj aq aT ((rd_T30 (rd_L2 ab aa) (wrap64 (((rd_L2 ab aa).length : Int) - 1))).f0) ((rd_T30 (rd_L2 ab aa) (wrap64 (((rd_L2 ab aa).length : Int) - 1))).f1)))) else (none)) else (none)) else (none)) else (none)) else (none)) = some r := H
  have A8 := zK A80; clear A80
  by_cases c9 : 0 ≤ aa
  ·rw [if_pos c9] at H
   have eY : decide (0 ≤ aa) = true := decide_eq_true c9
   clear c9
   by_cases c10 : aa < (ab.length : Int)
   ·rw [if_pos c10] at H
    have dG : decide (aa < (ab.length : Int)) = true := decide_eq_true c10
    clear c10
    obtain ⟨ah, bA⟩ : ∃ j_ : Int, (wrap64 (((rd_L2 ab aa).length : Int) - 1)) = j_ := ⟨_, rfl⟩
    replace H : (if 0 ≤ (ah) then (if (ah) < ((rd_L2 ab aa).length : Int) then (if (ah) ≤ ((rd_L2 ab aa).length : Int) then ((some (ab.set (aa : Int).toNat ((rd_L2 ab aa).take ((ah) : Int).toNat) : List (List (S30)))).bind fun aT => (if ((rd_T30 (rd_L2 ab aa) (ah)).f0) = aQ then ((impl_leastHops.f k aq aT).bind fun be => (some be)) else (impl_leastHops.l0 k aa (-1) (ab.length : Int) 0 a0_0 aj aq aT ((rd_T30 (rd_L2 ab aa) (ah)).f0) ((rd_T30 (rd_L2 ab aa) (ah)).f1)))) else (none)) else (none)) else (none)) = some r := by first | (rw [bA] at H; exact H) | (simp only [bA] at H ⊢; exact H)
    (try rw [bA] at A2); (try rw [bA] at A7); (try rw [bA] at A8)
    have hji11w : (IntKind.i64.wrap (((rd_L2 ab aa).length : Int) - 1)) = ah := (i64_w _).trans bA
    by_cases eZ : 0 ≤ (ah)
    ·rw [if_pos eZ] at H
     have dH : decide (0 ≤ (ah)) = true := decide_eq_true eZ
     clear eZ
     by_cases e0 : (ah) < ((rd_L2 ab aa).length : Int)
     ·rw [if_pos e0] at H
      have dI : decide ((ah) < ((rd_L2 ab aa).length : Int)) = true := decide_eq_true e0
      clear e0
      by_cases eE : (ah) ≤ ((rd_L2 ab aa).length : Int)
      ·rw [if_pos eE] at H
       have dJ := eq_true eE
       have dK : decide ((ah) ≤ ((rd_L2 ab aa).length : Int)) = true := decide_eq_true eE
       clear eE
       obtain ⟨bf, cQ⟩ : ∃ y_ : List (S30), y_ = ((rd_L2 ab aa).take ((ah) : Int).toNat) := ⟨_, rfl⟩
       replace H : ((some (ab.set (aa : Int).toNat bf : List (List (S30)))).bind fun aT => (if ((rd_T30 (rd_L2 ab aa) (ah)).f0) = aQ then ((impl_leastHops.f k aq aT).bind fun be => (some be)) else (impl_leastHops.l0 k aa (-1) (ab.length : Int) 0 a0_0 aj aq aT ((rd_T30 (rd_L2 ab aa) (ah)).f0) ((rd_T30 (rd_L2 ab aa) (ah)).f1)))) = some r := by first | (rw [cQ]; with_reducible exact H) | (have H2_ := (Option.bind_some _ _).symm.trans H; rw [cQ]; with_reducible exact H2_) | (have H2_ := (Option.bind_some _ _).symm.trans H; with_reducible exact H2_) | with_reducible exact H | (rw [cQ]; exact H) | exact H
       have Ny174 := zK cQ; clear cQ
       obtain ⟨aT, cR⟩ : ∃ y_ : List (List (S30)), y_ = (ab.set (aa : Int).toNat bf) := ⟨_, rfl⟩
       replace H : (if ((rd_T30 (rd_L2 ab aa) (ah)).f0) = aQ then ((impl_leastHops.f k aq aT).bind fun be => (some be)) else (impl_leastHops.l0 k aa (-1) (ab.length : Int) 0 a0_0 aj aq aT ((rd_T30 (rd_L2 ab aa) (ah)).f0) ((rd_T30 (rd_L2 ab aa) (ah)).f1))) = some r := by first | (rw [cR]; with_reducible exact H) | (have H2_ := (Option.bind_some _ _).symm.trans H; rw [cR]; with_reducible exact H2_) | (have H2_ := (Option.bind_some _ _).symm.trans H; with_reducible exact H2_) | with_reducible exact H | (rw [cR]; exact H) | exact H
       have Ny178 := zK cR; clear cR
       by_cases d8 : ((rd_T30 (rd_L2 ab aa) (ah)).f0) = aQ
       ·rw [if_pos d8] at H
        have dn : (((rd_T30 (rd_L2 ab aa) (ah)).f0) == aQ) = true := beq_iff_eq.mpr d8
        have dp : (((rd_T30 (rd_L2 ab aa) (ah)).f0) != aQ) = false := bne_eq_false_iff_eq.mpr d8
        clear d8; replace H := Option.bind_eq_some_iff.mp H
        obtain ⟨be, fF, H⟩ := H
        replace H : (some be) = some r := H
        have A17 := zK fF; clear fF; obtain rfl := Option.some.inj H
        go_enter Try.func51, Try.ntmps51
        go_wp2_with (first | ((with_reducible refine gate_dst (N := 1) rfl ?_); (try (refine gate_guard (by rfl) ?_; dsimp only)); refine box_event ?hg (N := 1) ?hd (cs := #[.int .i64 a0_0, .slice aw aj.length ax]) (t := 24) ?hr ?_; (case hd => rfl); (case hg => rfl); (case hr => first | (go_simp; done) | (go_simp; rfl)); intro ai hg w18 hbox hb; have aA := zK (below_step (zb HB) hb); have aC := zK (hbox); have aI := zK ((by rw [hg]; exact (below_size (zb HB)) : w.heap.size ≤ ai)); have aJ := zK ((by rw [hg]; exact (below_size (zb HB)) : w.heap.size ≤ ai)); clear HB; have HB := aA; have ad := aC; have eD := aI; have ap := aJ; clear aA aC aI aJ; clear hb hbox hg; have bP : w18.cell? ⟨ai, 0, none⟩ = some (.int .i64 a0_0) := (blk_cell ad.out 0).trans rfl; have bQ : w18.cell? ⟨ai, 1, none⟩ = some (.slice aw aj.length ax) := (blk_cell ad.out 1).trans rfl; have bR := blk_frozen ad.out 0; have bS := blk_frozen ad.out 1) | ((with_reducible refine gate_callee (f := 60) rfl ?_); refine goesL_ (some 12) rfl rfl Try.func60 (by kernel_rfl) rfl #[.agg #[.int .i64 a0_0, .slice aw aj.length ax]] rfl (by (try simp only [List.map_toArray, List.map_cons, List.map_nil]); first | done | rfl | (simp only [List.length_drop, List.length_take]; rfl)) ?_; (with_reducible refine (impl_nextOut.calls k a0_0 _ _ aj aQ _ ?side1 ?side2 A2.out).mono ?_); (case side1 => repeat (first | exact (Kd.C_below bD.out HB.out) | (with_reducible refine Kd.C_alloc ?_ _) | (with_reducible refine Kd.C_drewN ?_ _) | (with_reducible refine Kd.C_drew ?_))); (case side2 => exact bE.out); rintro e w20 ⟨rfl, hb⟩; refine ⟨_, rfl, ?_⟩; have aA := zK (blk_below (g := ai) (o := .cells #[.int .i64 a0_0, .slice aw aj.length ax] 24 (0, 0)) (zk ad) hb); have aC := zK (below_step (zb HB) hb); clear ad; clear HB; have ad := aA; have HB := aC; clear aA aC; (try clear hb); (try clear hk); have bT : w20.cell? ⟨ai, 0, none⟩ = some (.int .i64 a0_0) := (blk_cell ad.out 0).trans rfl; have bU : w20.cell? ⟨ai, 1, none⟩ = some (.slice aw aj.length ax) := (blk_cell ad.out 1).trans rfl; have bV := blk_frozen ad.out 0; have bW := blk_frozen ad.out 1) | ((with_reducible refine gate_callee (f := 74) rfl ?_); refine goesL_ (some 17) rfl rfl Try.func74 (by kernel_rfl) rfl #[.agg #[.int .i64 a0_0, .slice aw aj.length ax], .int .i64 aQ] rfl (by (try simp only [List.map_toArray, List.map_cons, List.map_nil]); first | done | rfl | (simp only [List.length_drop, List.length_take]; rfl)) ?_; (with_reducible refine (impl_laneOf.calls a0_0 _ _ aj aQ aa _ ?side1 ?side2 A7.out).mono ?_); (case side1 => repeat (first | exact (Kd.C_below bD.out HB.out) | (with_reducible refine Kd.C_alloc ?_ _) | (with_reducible refine Kd.C_drewN ?_ _) | (with_reducible refine Kd.C_drew ?_))); (case side2 => exact bE.out); rintro e w22 ⟨rfl, hb⟩; refine ⟨_, rfl, ?_⟩; have aA := zK (blk_below (g := ai) (o := .cells #[.int .i64 a0_0, .slice aw aj.length ax] 24 (0, 0)) (zk ad) hb); have aC := zK (below_step (zb HB) hb); clear ad; clear HB; have ad := aA; have HB := aC; clear aA aC; (try clear hb); (try clear hk); have bX : w22.cell? ⟨ai, 0, none⟩ = some (.int .i64 a0_0) := (blk_cell ad.out 0).trans rfl; have bY : w22.cell? ⟨ai, 1, none⟩ = some (.slice aw aj.length ax) := (blk_cell ad.out 1).trans rfl; have bZ := blk_frozen ad.out 0; have b0 := blk_frozen ad.out 1) | ((with_reducible refine gate_callee (f := 67) rfl ?_); refine goesL_ (some 19) rfl rfl Try.func67 (by kernel_rfl) rfl #[.agg #[.int .i64 a0_0, .slice aw aj.length ax]] rfl (by (try simp only [List.map_toArray, List.map_cons, List.map_nil]); first | done | rfl | (simp only [List.length_drop, List.length_take]; rfl)) ?_; (with_reducible refine (impl_copyStore.calls k a0_0 _ _ aj aq ab _ ?side1 ?side2 A8.out).mono ?_); (case side1 => repeat (first | exact (Kd.C_below bD.out HB.out) | (with_reducible refine Kd.C_alloc ?_ _) | (with_reducible refine Kd.C_drewN ?_ _) | (with_reducible refine Kd.C_drew ?_))); (case side2 => exact bE.out); rintro e w24 ⟨v169, rfl, ho0, hb⟩; refine ⟨_, rfl, ?_⟩; have aA := zK (Kd.S_lower ho0 (below_size (zb HB))); have aC := zK (blk_below (g := ai) (o := .cells #[.int .i64 a0_0, .slice aw aj.length ax] 24 (0, 0)) (zk ad) hb); have aI := zK (below_step (zb HB) hb); clear ad; clear HB; have an := aA; have ad := aC; have HB := aI; clear aA aC aI; (try clear hb); (try clear hk); (try clear ho0)) | ((with_reducible refine gate_dst (N := 5) rfl ?_); (try (refine gate_guard (by rfl) ?_; dsimp only)); refine box_event ?hg (N := 5) ?hd (cs := #[.int .i64 0, .slice none 0 0]) (t := 24) ?hr ?_; (case hd => rfl); (case hg => rfl); (case hr => first | (go_simp; done) | (go_simp; rfl)); intro al hg w25 hbox hb; have aA := zK (Kd.S_below (zT an) hb); have aC := zK (blk_below (g := ai) (o := .cells #[.int .i64 a0_0, .slice aw aj.length ax] 24 (0, 0)) (zk ad) hb); have aI := zK (below_step (zb HB) hb); have aJ := zK (hbox); have aZ := zK ((by rw [hg]; exact (below_size (zb HB)) : w.heap.size ≤ al)); have a8 := zK ((by rw [hg]; exact (below_size (zb HB)) : w.heap.size ≤ al)); have bi := zK ((by rw [hg]; exact Nat.ne_of_lt (blk_lt (g := ai) (o := .cells #[.int .i64 a0_0, .slice aw aj.length ax] 24 (0, 0)) (zk ad)) : ai ≠ al)); have cS := zK ((by rw [hg]; exact Nat.ne_of_gt (blk_lt (g := ai) (o := .cells #[.int .i64 a0_0, .slice aw aj.length ax] 24 (0, 0)) (zk ad)) : al ≠ ai)); clear an; clear ad; clear HB; have an := aA; have ad := aC; have HB := aI; have af := aJ; have fG := aZ; have az := a8; have aM := bi; have ba := cS; clear aA aC aI aJ aZ a8 bi cS; clear hb hbox hg; have hnb26 := ba.out; have hnc26 := aM.out; have b1 : w25.cell? ⟨al, 0, none⟩ = some (.int .i64 0) := (blk_cell af.out 0).trans rfl; have b2 : w25.cell? ⟨al, 1, none⟩ = some (.slice none 0 0) := (blk_cell af.out 1).trans rfl; have b3 := blk_frozen af.out 0; have b4 := blk_frozen af.out 1; obtain ⟨dL, a9, eo28⟩ := Kd.S_slice an.out; subst eo28) | ((with_reducible refine gate_store (t := 24) (p := 5) rfl ?_); refine store_event (t := 24) (p := 5) (v := ?vo_w29) (w1 := ((w25.setCell ⟨al, 0, none⟩ (.int .i64 aq)).setCell ⟨al, 1, none⟩ (.slice dL ab.length a9))) ?hg ?ho ?hn ?hr ?_; (case ho => rfl); (case hg => rfl); (case hn => rfl); (case hr => first | (go_simp; done) | (go_simp; rfl)); intro ee hw; have aA : Aside0 (Kd.S (Kd.slice 30 k30) 28 ee w.heap.size (fun _ => True) (.slice dL ab.length a9) ab) := ⟨(by rw [hw]; exact (by (with_reducible repeat (first | apply Kd.S_alloc | apply Kd.S_drewN | apply Kd.S_drew)); exact Kd.S_mono (Kd.S_far (p := ⟨al, 1, none⟩) (Kd.S_far (p := ⟨al, 0, none⟩) (Kd.S_types an.out af.out (by decide)) (fun _ hk => hk.2) (.int .i64 aq)) (fun _ hk => hk.2) (.slice dL ab.length a9)) (fun _ hk => trivial)))⟩; have aC : Aside0 (ee.heap[ai]? = some (.cells #[.int .i64 a0_0, .slice aw aj.length ax] 24 (0, 0))) := ⟨(by rw [hw]; exact (by (with_reducible repeat (first | refine zN ?_ _ | refine zD ?_ | refine zA ?_ _)); refine blk_far ?_ aM.out _; (with_reducible repeat (first | refine zN ?_ _ | refine zD ?_ | refine zA ?_ _)); refine blk_far ?_ aM.out _; (with_reducible repeat (first | refine zN ?_ _ | refine zD ?_ | refine zA ?_ _)); exact ad.out))⟩; have aI : Aside0 (ee.heap[al]? = some (.cells #[.int .i64 aq, .slice dL ab.length a9] 24 (0, 0))) := ⟨(by rw [hw]; exact (by (with_reducible repeat (first | refine zN ?_ _ | refine zD ?_ | refine zA ?_ _)); refine blk_put (cs := #[.int .i64 aq, .slice none 0 0]) ?_ 1 _ rfl; (with_reducible repeat (first | refine zN ?_ _ | refine zD ?_ | refine zA ?_ _)); refine blk_put (cs := #[.int .i64 0, .slice none 0 0]) ?_ 0 _ rfl; (with_reducible repeat (first | refine zN ?_ _ | refine zD ?_ | refine zA ?_ _)); exact af.out))⟩; have aJ : Aside0 (Below w.heap.size w ee) := ⟨(by rw [hw]; exact (zb HB))⟩; clear hw; clear an; clear ad; clear af; clear HB; have an := aA; have ad := aC; have af := aI; have HB := aJ; clear aA aC aI aJ; have b5 : ee.cell? ⟨al, 0, none⟩ = some (.int .i64 aq) := (blk_cell af.out 0).trans rfl; have b6 : ee.cell? ⟨al, 1, none⟩ = some (.slice dL ab.length a9) := (blk_cell af.out 1).trans rfl; have b7 := blk_frozen af.out 0; have b8 := blk_frozen af.out 1; have bB : 0 ≤ (aa : Int) := zd; have bC : aa < (ab.length : Int) := zd; obtain ⟨fH, e1, aU, e2, aX, bj, bk⟩ := at_L2 (Kd.S_reads' an.out).2.2 aa bB bC; cases e2; obtain ⟨fJ, dc, dd, bF⟩ := Kd.S_get an.out [] aa bB (by first | exact bC | exact zd | (have e_ := (Kd.S_reads' an.out).1; omega)); obtain ⟨ef, rfl, a7⟩ := dd; have aR := bF 0 _ rfl; rw [Nat.add_zero, show ((Kd.slice 30 k30)).sz = 1 from rfl, Nat.mul_one] at aR; replace aR := Option.some.inj (aR.symm.trans aX); rw [aR] at a7; have aD := zK (show Kd.R k30 30 _ _ _ _ (rd_L2 ab aa) from a7); clear aR a7; have b9 := zK aX; clear bF dc; have a0 := zK bk; have bl := zK bj; clear bk bj; replace bB := eq_true bB; replace bC := eq_true bC; have bI : 0 ≤ ((ah) : Int) := zd; have bJ : (ah) < ((rd_L2 ab aa).length : Int) := zd; obtain ⟨bm, e3, a3, a4⟩ := at_T30 (by repeat (first | (with_reducible exact a0.out) | (with_reducible refine Kd.C_alloc ?_ _) | (with_reducible refine Kd.C_drewN ?_ _) | (with_reducible refine Kd.C_drew ?_) | exact a0.out)) (ah) bI bJ; cases e3; replace bI := eq_true bI; replace bJ := eq_true bJ; have d9 : ((ah) : Int) ≤ (((rd_L2 ab aa).length : Int) : Int) := zd; obtain ⟨i031, eF, _, fK, _⟩ := info_parts info30; have dq : (rd_L2 ab aa).length ≤ aU := bl.out; have fL : Kd.C k30 _ (some bm) (rd_L2 ab aa).length (rd_L2 ab aa) := (by repeat (first | (with_reducible exact a0.out) | (with_reducible refine Kd.C_alloc ?_ _) | (with_reducible refine Kd.C_drewN ?_ _) | (with_reducible refine Kd.C_drew ?_) | exact a0.out)); have e4 := cut_to (P := Try.prog) 28 30 .i64 Try.underlying28 eF (some bm) (rd_L2 ab aa).length aU (ah) (zd) d9 dq; have e5 := Kd.C_take (m := ((ah) : Int).toNat) fL (by omega); have e6 : bf.length = ((ah) : Int).toNat := (by rw [Ny174.out, List.length_take]; omega); rw [← Ny174.out] at e5; rw [← e6] at e4; have fM := zK e5; have fN := zK (show bf.length ≤ aU from by omega); clear e5 fL dq eF fK; have fO := zK e6; clear e6; replace d9 := eq_true d9; have dx : 0 ≤ (aa : Int) := zd; have dy : (aa : Int) < ((ab.length : Int) : Int) := zd; obtain ⟨aY, co15, dM, dN, e7, cl15, dO⟩ := Kd.S_form an.out (by omega); (first | cases dM | (injection dM with ea_ en_ ec_; (first | subst ea_ | (injection ea_ with ea_; subst ea_)); subst ec_; clear en_)); have e8 := zK dN; have GG15 := zK dO; clear dN e7 dO; (first | simp only [add_plain] at aX | skip); obtain ⟨_, ce15, dP, dQ, cT, cU, _, _⟩ := Kd.S_elem an.out [] (aa : Int) dx dy; obtain ⟨e9, rfl, fa⟩ := dQ; have bp := cT 0 _ rfl; have de := cU 0; (try simp only [show ((Kd.slice 30 k30)).sz = 1 from rfl, Nat.mul_one, Nat.add_zero] at bp); (try simp only [show ((Kd.slice 30 k30)).sz = 1 from rfl, Nat.mul_one, Nat.add_zero] at de); clear dP cT cU; (try clear dQ); replace dx := eq_true dx; replace dy := eq_true dy; have HX32 := zK (show Kd.S (Kd.slice 30 k30) 28 ee w.heap.size (fun k_ => ((fun _ => True)) k_ ∧ ¬ ((fun _ => False)) k_) (.slice (some ⟨aY, 0, none⟩) ab.length a9) ab from (by (with_reducible repeat (first | apply Kd.S_alloc | apply Kd.S_drewN | apply Kd.S_drew)); exact Kd.S_mono an.out (fun k_ hk => ⟨trivial, fun e_ => e_⟩))); obtain ⟨fP, ce32, fQ, fR, dR, eG, fb, fT⟩ := Kd.S_elem HX32.out [] (aa : Int) (zd) (by have h_ : (aa : Int) < ((ab.length : Int) : Int) := zd; first | exact h_ | (have e_ := (Kd.S_reads' an.out).1; omega) | simpa using h_); obtain ⟨ve32_0, rfl, fc⟩ := fR; have dS := dR 0 _ rfl; have fd := b9.out; (try simp only [add_plain] at fd); (try simp only [Nat.add_zero] at dS); (try rw [show ((Kd.slice 30 k30)).sz = 1 from rfl, Nat.mul_one] at dS); replace dS := Option.some.inj (dS.symm.trans fd); subst dS; clear fd; have fe := zK (show Kd.R k30 30 ee w.heap.size fP (.slice (some bm) bf.length aU) bf from by rw [fO.out, Ny174.out]; exact Kd.R_take fc (by have h_ := of_eq_true d9; omega)); have fg := Kd.S_seg fT (zd) (by have h_ : (aa : Int) < ((ab.length : Int) : Int) := zd; first | exact h_ | (have e_ := (Kd.S_reads' an.out).1; omega) | simpa using h_) (seg := [.slice (some bm) bf.length aU]) (j := 0) (show 1 ≤ 1 from by decide) (x' := bf) (Kd.M_row (Kd.R_mono fe.out (fun _ h_ => Or.inl h_))) (fun _ hk => hk) (fun k_ hk_ => hk_.elim); have bq := dR 0 _ rfl; (try simp only [show ((Kd.slice 30 k30)).sz = 1 from rfl, Nat.mul_one, Nat.add_zero] at bq); have df := eG 0; (try simp only [show ((Kd.slice 30 k30)).sz = 1 from rfl, Nat.mul_one, Nat.add_zero] at df); clear fQ dR eG fb fT; (try clear fR); (try simp only [show ((Kd.slice 30 k30)).sz = 1 from rfl, Nat.mul_one, Nat.add_zero] at fg)) | (go_at_call 75; refine (pop_calls (b := al) (deep := aq) (g := aY) (n := ab.length) (cap := a9) (lane := aa) (H := (ah)) (k := ((rd_L2 ab aa).length)) (c := aU) (m := bf.length) _ (zk af) (zd) (zd) (by first | exact bq | simpa using bq) (by first | exact df | simpa using df) (by first | rfl | assumption | exact Eq.symm (by assumption)) (zd) (zd) bl.out (by first | exact a3 | simpa using a3) (by first | exact a4 | simpa using a4) fO.out).mono ?_; rintro e w33 ⟨rfl, hg0_, dg⟩; have hg : ee.grownBy w33 (some aY) := hg0_; have hp_ : Kd.S (Kd.slice 30 k30) 28 w33 w.heap.size (fun _ => True) (.slice (some ⟨aY, 0, none⟩) ab.length a9) aT := (by rw [Ny178.out]; exact Opens.pop_S fg.1 dg); have hw := dg; clear dg hg0_; clear fg; have aA := zK (blk_grown (g := ai) (o := .cells #[.int .i64 a0_0, .slice aw aj.length ax] 24 (0, 0)) (zk ad) hg (Kd.S_ne an.out ad.out (by decide))); have aC := zK (hp_); have aI := zK (blk_grown (g := al) (o := .cells #[.int .i64 aq, .slice (some ⟨aY, 0, none⟩) ab.length a9] 24 (0, 0)) (zk af) hg (Kd.S_ne an.out af.out (by decide))); have aJ := zK (Kd.R_after (v := (.slice (some ⟨aY, 0, none⟩) ab.length a9)) (v1 := (.slice (some ⟨aY, 0, none⟩) ab.length a9)) (ok := (fun _ => True)) (zR aD) hg (.inl rfl)); have aZ := zK ((Opens.below_of_grown (zb HB) hg e8.out)); clear ad; clear an; clear af; clear aD; clear HB; have ad := aA; have an := aC; have af := aI; have aD := aJ; have HB := aZ; clear aA aC aI aJ aZ; clear hg hw hp_) | ((with_reducible refine gate_dst (N := 6) rfl ?_); (try (refine gate_guard (by rfl) ?_; dsimp only)); refine box_event ?hg (N := 6) ?hd (cs := #[.int .i64 0, .int .i64 0]) (t := 30) ?hr ?_; (case hd => rfl); (case hg => rfl); (case hr => first | (go_simp; done) | (go_simp; rfl)); intro am hg w34 hbox hb; have aA := zK (Kd.S_below (Kd.S_elderB (zT an) am (Nat.le_of_eq hg.symm)) hb); have aC := zK (Kd.R_below (Kd.R_elderB (zR aD) am (Nat.le_of_eq hg.symm)) hb); have aI := zK (blk_below (g := ai) (o := .cells #[.int .i64 a0_0, .slice aw aj.length ax] 24 (0, 0)) (zk ad) hb); have aJ := zK (blk_below (g := al) (o := .cells #[.int .i64 aq, .slice (some ⟨aY, 0, none⟩) ab.length a9] 24 (0, 0)) (zk af) hb); have aZ := zK (below_step (zb HB) hb); have a8 := zK (hbox); have bi := zK ((by rw [hg]; exact (below_size (zb HB)) : w.heap.size ≤ am)); have cS := zK ((by rw [hg]; exact (below_size (zb HB)) : w.heap.size ≤ am)); have eH := zK ((by rw [hg]; exact Nat.ne_of_lt (blk_lt (g := ai) (o := .cells #[.int .i64 a0_0, .slice aw aj.length ax] 24 (0, 0)) (zk ad)) : ai ≠ am)); have eI := zK ((by rw [hg]; exact Nat.ne_of_gt (blk_lt (g := ai) (o := .cells #[.int .i64 a0_0, .slice aw aj.length ax] 24 (0, 0)) (zk ad)) : am ≠ ai)); have cV := zK ((by rw [hg]; exact Nat.ne_of_lt (blk_lt (g := al) (o := .cells #[.int .i64 aq, .slice (some ⟨aY, 0, none⟩) ab.length a9] 24 (0, 0)) (zk af)) : al ≠ am)); have cW := zK ((by rw [hg]; exact Nat.ne_of_gt (blk_lt (g := al) (o := .cells #[.int .i64 aq, .slice (some ⟨aY, 0, none⟩) ab.length a9] 24 (0, 0)) (zk af)) : am ≠ al)); clear an; clear aD; clear ad; clear af; clear HB; have an := aA; have aD := aC; have ad := aI; have af := aJ; have HB := aZ; have ak := a8; have fU := bi; have aH := cS; have aV := eH; have br := eI; have aN := cV; have bb := cW; clear aA aC aI aJ aZ a8 bi cS eH eI cV cW; clear hb hbox hg; have hnb35 := br.out; have hnc35 := aV.out; have hnb36 := bb.out; have hnc36 := aN.out; have ca : w34.cell? ⟨am, 0, none⟩ = some (.int .i64 0) := (blk_cell ak.out 0).trans rfl; have cb : w34.cell? ⟨am, 1, none⟩ = some (.int .i64 0) := (blk_cell ak.out 1).trans rfl; have cc := blk_frozen ak.out 0; have cd := blk_frozen ak.out 1; have ce : w34.cell? ⟨al, 0, none⟩ = some (.int .i64 aq) := (blk_cell af.out 0).trans rfl; have cf : w34.cell? ⟨al, 1, none⟩ = some (.slice (some ⟨aY, 0, none⟩) ab.length a9) := (blk_cell af.out 1).trans rfl; have cg := blk_frozen af.out 0; have ch := blk_frozen af.out 1) | ((with_reducible refine gate_callee (f := 51) rfl ?_); refine goesL_ (some 27) rfl rfl Try.func51 (by kernel_rfl) rfl #[.agg #[.int .i64 aq, .slice (some ⟨aY, 0, none⟩) aT.length a9]] rfl (by (try simp only [List.map_toArray, List.map_cons, List.map_nil]); first | done | (rw [show aT.length = ab.length from (Kd.S_reads' an.out).1.symm] <;> rfl) | rfl | (simp only [List.length_drop, List.length_take]; rfl)) ?_; (with_reducible refine (ih k (by omega) aq _ _ aT be _ ?side1 ?side2 A17.out).mono ?_); (case side1 => refine (Kd.S_reads' (e := 28) (base := w.heap.size) (ok := fun k_ => (True ∧ k_ ≠ am)) (n := ab.length) (c := a9) ?_).2.2; exact (by (with_reducible repeat (first | apply Kd.S_alloc | apply Kd.S_drewN | apply Kd.S_drew)); exact (Kd.S_mono (Kd.S_far (p := ⟨am, 1, none⟩) (Kd.S_far (p := ⟨am, 0, none⟩) (Kd.S_mono an.out (fun k_ hk => (⟨hk, hk.2⟩ : _ ∧ k_ ≠ am))) (fun _ hk => hk.2) (.int .i64 ((rd_T30 (rd_L2 ab aa) (ah)).f0))) (fun _ hk => hk.2) (.int .i64 ((rd_T30 (rd_L2 ab aa) (ah)).f1))) (fun _ h_ => h_.1)))); (case side2 => rw [show aT.length = ab.length from (Kd.S_reads' an.out).1.symm]; exact (Kd.S_reads' an.out).2.1); rintro e w39 ⟨rfl, hb⟩; refine ⟨_, rfl, ?_⟩; have aA := zK (Kd.S_below (by (with_reducible repeat (first | apply Kd.S_alloc | apply Kd.S_drewN | apply Kd.S_drew)); exact (Kd.S_mono (Kd.S_far (p := ⟨am, 1, none⟩) (Kd.S_far (p := ⟨am, 0, none⟩) (Kd.S_mono an.out (fun k_ hk => (⟨hk, hk.2⟩ : _ ∧ k_ ≠ am))) (fun _ hk => hk.2) (.int .i64 ((rd_T30 (rd_L2 ab aa) (ah)).f0))) (fun _ hk => hk.2) (.int .i64 ((rd_T30 (rd_L2 ab aa) (ah)).f1))) (fun _ h_ => h_.1))) hb); have aC := zK (Kd.R_below (by (with_reducible repeat (first | apply Kd.R_alloc | apply Kd.R_drewN | apply Kd.R_drew)); exact (Kd.R_mono (Kd.R_far (p := ⟨am, 1, none⟩) (Kd.R_far (p := ⟨am, 0, none⟩) (Kd.R_mono aD.out (fun k_ hk => (⟨hk, hk.2⟩ : _ ∧ k_ ≠ am))) (fun _ hk => hk.2) (.int .i64 ((rd_T30 (rd_L2 ab aa) (ah)).f0))) (fun _ hk => hk.2) (.int .i64 ((rd_T30 (rd_L2 ab aa) (ah)).f1))) (fun _ h_ => h_.1))) hb); have aI := zK (blk_below (g := ai) (o := .cells #[.int .i64 a0_0, .slice aw aj.length ax] 24 (0, 0)) (by (with_reducible repeat (first | refine zN ?_ _ | refine zD ?_ | refine zA ?_ _)); refine blk_far ?_ aV.out _; (with_reducible repeat (first | refine zN ?_ _ | refine zD ?_ | refine zA ?_ _)); refine blk_far ?_ aV.out _; (with_reducible repeat (first | refine zN ?_ _ | refine zD ?_ | refine zA ?_ _)); exact ad.out) hb); have aJ := zK (blk_below (g := al) (o := .cells #[.int .i64 aq, .slice (some ⟨aY, 0, none⟩) ab.length a9] 24 (0, 0)) (by (with_reducible repeat (first | refine zN ?_ _ | refine zD ?_ | refine zA ?_ _)); refine blk_far ?_ aN.out _; (with_reducible repeat (first | refine zN ?_ _ | refine zD ?_ | refine zA ?_ _)); refine blk_far ?_ aN.out _; (with_reducible repeat (first | refine zN ?_ _ | refine zD ?_ | refine zA ?_ _)); exact af.out) hb); have aZ := zK (blk_below (g := am) (o := .cells #[.int .i64 ((rd_T30 (rd_L2 ab aa) (ah)).f0), .int .i64 ((rd_T30 (rd_L2 ab aa) (ah)).f1)] 30 (0, 0)) (by (with_reducible repeat (first | refine zN ?_ _ | refine zD ?_ | refine zA ?_ _)); refine blk_put (cs := #[.int .i64 ((rd_T30 (rd_L2 ab aa) (ah)).f0), .int .i64 0]) ?_ 1 _ rfl; (with_reducible repeat (first | refine zN ?_ _ | refine zD ?_ | refine zA ?_ _)); refine blk_put (cs := #[.int .i64 0, .int .i64 0]) ?_ 0 _ rfl; (with_reducible repeat (first | refine zN ?_ _ | refine zD ?_ | refine zA ?_ _)); exact ak.out) hb); have a8 := zK (below_step (zb HB) hb); clear an; clear aD; clear ad; clear af; clear ak; clear HB; have an := aA; have aD := aC; have ad := aI; have af := aJ; have ak := aZ; have HB := a8; clear aA aC aI aJ aZ a8; (try clear hb); (try clear hk)))
        go_ret
        exact ⟨by first | rfl | (simp [errW_none, errW_some] <;> rfl) | (simp only [← bA]; first | rfl | (simp [errW_none, errW_some] <;> rfl)) | (simp [*, errW_none, errW_some] <;> rfl), by repeat (first | (with_reducible first | exact HB.out | apply zB | apply zC | apply zE | refine zS ?_ ap.out | refine zS ?_ az.out | refine zS ?_ aH.out) | exact HB.out)⟩
       ·rw [if_neg d8] at H
        have dn : (((rd_T30 (rd_L2 ab aa) (ah)).f0) == aQ) = false := beq_eq_false_iff_ne.mpr d8
        have dp : (((rd_T30 (rd_L2 ab aa) (ah)).f0) != aQ) = true := bne_iff_ne.mpr d8
        have H' := zK H; clear H
        go_enter Try.func51, Try.ntmps51
        go_wp2_with (first | ((with_reducible refine gate_dst (N := 1) rfl ?_); (try (refine gate_guard (by rfl) ?_; dsimp only)); refine box_event ?hg (N := 1) ?hd (cs := #[.int .i64 a0_0, .slice aw aj.length ax]) (t := 24) ?hr ?_; (case hd => rfl); (case hg => rfl); (case hr => first | (go_simp; done) | (go_simp; rfl)); intro ai hg w40 hbox hb; have aA := zK (below_step (zb HB) hb); have aC := zK (hbox); have aI := zK ((by rw [hg]; exact (below_size (zb HB)) : w.heap.size ≤ ai)); have aJ := zK ((by rw [hg]; exact (below_size (zb HB)) : w.heap.size ≤ ai)); clear HB; have HB := aA; have ad := aC; have eD := aI; have ap := aJ; clear aA aC aI aJ; clear hb hbox hg; have ci : w40.cell? ⟨ai, 0, none⟩ = some (.int .i64 a0_0) := (blk_cell ad.out 0).trans rfl; have cj : w40.cell? ⟨ai, 1, none⟩ = some (.slice aw aj.length ax) := (blk_cell ad.out 1).trans rfl; have ck := blk_frozen ad.out 0; have cl := blk_frozen ad.out 1) | ((with_reducible refine gate_callee (f := 60) rfl ?_); refine goesL_ (some 12) rfl rfl Try.func60 (by kernel_rfl) rfl #[.agg #[.int .i64 a0_0, .slice aw aj.length ax]] rfl (by (try simp only [List.map_toArray, List.map_cons, List.map_nil]); first | done | rfl | (simp only [List.length_drop, List.length_take]; rfl)) ?_; (with_reducible refine (impl_nextOut.calls k a0_0 _ _ aj aQ _ ?side1 ?side2 A2.out).mono ?_); (case side1 => repeat (first | exact (Kd.C_below bD.out HB.out) | (with_reducible refine Kd.C_alloc ?_ _) | (with_reducible refine Kd.C_drewN ?_ _) | (with_reducible refine Kd.C_drew ?_))); (case side2 => exact bE.out); rintro e w42 ⟨rfl, hb⟩; refine ⟨_, rfl, ?_⟩; have aA := zK (blk_below (g := ai) (o := .cells #[.int .i64 a0_0, .slice aw aj.length ax] 24 (0, 0)) (zk ad) hb); have aC := zK (below_step (zb HB) hb); clear ad; clear HB; have ad := aA; have HB := aC; clear aA aC; (try clear hb); (try clear hk); have cm : w42.cell? ⟨ai, 0, none⟩ = some (.int .i64 a0_0) := (blk_cell ad.out 0).trans rfl; have cn : w42.cell? ⟨ai, 1, none⟩ = some (.slice aw aj.length ax) := (blk_cell ad.out 1).trans rfl; have co := blk_frozen ad.out 0; have cp := blk_frozen ad.out 1) | ((with_reducible refine gate_callee (f := 74) rfl ?_); refine goesL_ (some 17) rfl rfl Try.func74 (by kernel_rfl) rfl #[.agg #[.int .i64 a0_0, .slice aw aj.length ax], .int .i64 aQ] rfl (by (try simp only [List.map_toArray, List.map_cons, List.map_nil]); first | done | rfl | (simp only [List.length_drop, List.length_take]; rfl)) ?_; (with_reducible refine (impl_laneOf.calls a0_0 _ _ aj aQ aa _ ?side1 ?side2 A7.out).mono ?_); (case side1 => repeat (first | exact (Kd.C_below bD.out HB.out) | (with_reducible refine Kd.C_alloc ?_ _) | (with_reducible refine Kd.C_drewN ?_ _) | (with_reducible refine Kd.C_drew ?_))); (case side2 => exact bE.out); rintro e w44 ⟨rfl, hb⟩; refine ⟨_, rfl, ?_⟩; have aA := zK (blk_below (g := ai) (o := .cells #[.int .i64 a0_0, .slice aw aj.length ax] 24 (0, 0)) (zk ad) hb); have aC := zK (below_step (zb HB) hb); clear ad; clear HB; have ad := aA; have HB := aC; clear aA aC; (try clear hb); (try clear hk); have cq : w44.cell? ⟨ai, 0, none⟩ = some (.int .i64 a0_0) := (blk_cell ad.out 0).trans rfl; have cr : w44.cell? ⟨ai, 1, none⟩ = some (.slice aw aj.length ax) := (blk_cell ad.out 1).trans rfl; have ct := blk_frozen ad.out 0; have cu := blk_frozen ad.out 1) | ((with_reducible refine gate_callee (f := 67) rfl ?_); refine goesL_ (some 19) rfl rfl Try.func67 (by kernel_rfl) rfl #[.agg #[.int .i64 a0_0, .slice aw aj.length ax]] rfl (by (try simp only [List.map_toArray, List.map_cons, List.map_nil]); first | done | rfl | (simp only [List.length_drop, List.length_take]; rfl)) ?_; (with_reducible refine (impl_copyStore.calls k a0_0 _ _ aj aq ab _ ?side1 ?side2 A8.out).mono ?_); (case side1 => repeat (first | exact (Kd.C_below bD.out HB.out) | (with_reducible refine Kd.C_alloc ?_ _) | (with_reducible refine Kd.C_drewN ?_ _) | (with_reducible refine Kd.C_drew ?_))); (case side2 => exact bE.out); rintro e w46 ⟨v169, rfl, ho0, hb⟩; refine ⟨_, rfl, ?_⟩; have aA := zK (Kd.S_lower ho0 (below_size (zb HB))); have aC := zK (blk_below (g := ai) (o := .cells #[.int .i64 a0_0, .slice aw aj.length ax] 24 (0, 0)) (zk ad) hb); have aI := zK (below_step (zb HB) hb); clear ad; clear HB; have an := aA; have ad := aC; have HB := aI; clear aA aC aI; (try clear hb); (try clear hk); (try clear ho0)) | ((with_reducible refine gate_dst (N := 5) rfl ?_); (try (refine gate_guard (by rfl) ?_; dsimp only)); refine box_event ?hg (N := 5) ?hd (cs := #[.int .i64 0, .slice none 0 0]) (t := 24) ?hr ?_; (case hd => rfl); (case hg => rfl); (case hr => first | (go_simp; done) | (go_simp; rfl)); intro al hg w47 hbox hb; have aA := zK (Kd.S_below (zT an) hb); have aC := zK (blk_below (g := ai) (o := .cells #[.int .i64 a0_0, .slice aw aj.length ax] 24 (0, 0)) (zk ad) hb); have aI := zK (below_step (zb HB) hb); have aJ := zK (hbox); have aZ := zK ((by rw [hg]; exact (below_size (zb HB)) : w.heap.size ≤ al)); have a8 := zK ((by rw [hg]; exact (below_size (zb HB)) : w.heap.size ≤ al)); have bi := zK ((by rw [hg]; exact Nat.ne_of_lt (blk_lt (g := ai) (o := .cells #[.int .i64 a0_0, .slice aw aj.length ax] 24 (0, 0)) (zk ad)) : ai ≠ al)); have cS := zK ((by rw [hg]; exact Nat.ne_of_gt (blk_lt (g := ai) (o := .cells #[.int .i64 a0_0, .slice aw aj.length ax] 24 (0, 0)) (zk ad)) : al ≠ ai)); clear an; clear ad; clear HB; have an := aA; have ad := aC; have HB := aI; have af := aJ; have fG := aZ; have az := a8; have aM := bi; have ba := cS; clear aA aC aI aJ aZ a8 bi cS; clear hb hbox hg; have hnb48 := ba.out; have hnc48 := aM.out; have cv : w47.cell? ⟨al, 0, none⟩ = some (.int .i64 0) := (blk_cell af.out 0).trans rfl; have cw : w47.cell? ⟨al, 1, none⟩ = some (.slice none 0 0) := (blk_cell af.out 1).trans rfl; have cx := blk_frozen af.out 0; have cy := blk_frozen af.out 1; obtain ⟨dT, bg, eo50⟩ := Kd.S_slice an.out; subst eo50) | ((with_reducible refine gate_store (t := 24) (p := 5) rfl ?_); refine store_event (t := 24) (p := 5) (v := ?vo_w51) (w1 := ((w47.setCell ⟨al, 0, none⟩ (.int .i64 aq)).setCell ⟨al, 1, none⟩ (.slice dT ab.length bg))) ?hg ?ho ?hn ?hr ?_; (case ho => rfl); (case hg => rfl); (case hn => rfl); (case hr => first | (go_simp; done) | (go_simp; rfl)); intro eg hw; have aA : Aside0 (Kd.S (Kd.slice 30 k30) 28 eg w.heap.size (fun _ => True) (.slice dT ab.length bg) ab) := ⟨(by rw [hw]; exact (by (with_reducible repeat (first | apply Kd.S_alloc | apply Kd.S_drewN | apply Kd.S_drew)); exact Kd.S_mono (Kd.S_far (p := ⟨al, 1, none⟩) (Kd.S_far (p := ⟨al, 0, none⟩) (Kd.S_types an.out af.out (by decide)) (fun _ hk => hk.2) (.int .i64 aq)) (fun _ hk => hk.2) (.slice dT ab.length bg)) (fun _ hk => trivial)))⟩; have aC : Aside0 (eg.heap[ai]? = some (.cells #[.int .i64 a0_0, .slice aw aj.length ax] 24 (0, 0))) := ⟨(by rw [hw]; exact (by (with_reducible repeat (first | refine zN ?_ _ | refine zD ?_ | refine zA ?_ _)); refine blk_far ?_ aM.out _; (with_reducible repeat (first | refine zN ?_ _ | refine zD ?_ | refine zA ?_ _)); refine blk_far ?_ aM.out _; (with_reducible repeat (first | refine zN ?_ _ | refine zD ?_ | refine zA ?_ _)); exact ad.out))⟩; have aI : Aside0 (eg.heap[al]? = some (.cells #[.int .i64 aq, .slice dT ab.length bg] 24 (0, 0))) := ⟨(by rw [hw]; exact (by (with_reducible repeat (first | refine zN ?_ _ | refine zD ?_ | refine zA ?_ _)); refine blk_put (cs := #[.int .i64 aq, .slice none 0 0]) ?_ 1 _ rfl; (with_reducible repeat (first | refine zN ?_ _ | refine zD ?_ | refine zA ?_ _)); refine blk_put (cs := #[.int .i64 0, .slice none 0 0]) ?_ 0 _ rfl; (with_reducible repeat (first | refine zN ?_ _ | refine zD ?_ | refine zA ?_ _)); exact af.out))⟩; have aJ : Aside0 (Below w.heap.size w eg) := ⟨(by rw [hw]; exact (zb HB))⟩; clear hw; clear an; clear ad; clear af; clear HB; have an := aA; have ad := aC; have af := aI; have HB := aJ; clear aA aC aI aJ; have cz : eg.cell? ⟨al, 0, none⟩ = some (.int .i64 aq) := (blk_cell af.out 0).trans rfl; have cA : eg.cell? ⟨al, 1, none⟩ = some (.slice dT ab.length bg) := (blk_cell af.out 1).trans rfl; have cB := blk_frozen af.out 0; have cC := blk_frozen af.out 1; have bB : 0 ≤ (aa : Int) := zd; have bC : aa < (ab.length : Int) := zd; obtain ⟨fH, e1, aU, e2, aX, bj, bk⟩ := at_L2 (Kd.S_reads' an.out).2.2 aa bB bC; cases e2; obtain ⟨fJ, dc, dd, bF⟩ := Kd.S_get an.out [] aa bB (by first | exact bC | exact zd | (have e_ := (Kd.S_reads' an.out).1; omega)); obtain ⟨ef, rfl, a7⟩ := dd; have aR := bF 0 _ rfl; rw [Nat.add_zero, show ((Kd.slice 30 k30)).sz = 1 from rfl, Nat.mul_one] at aR; replace aR := Option.some.inj (aR.symm.trans aX); rw [aR] at a7; have aD := zK (show Kd.R k30 30 _ _ _ _ (rd_L2 ab aa) from a7); clear aR a7; have b9 := zK aX; clear bF dc; have a0 := zK bk; have bl := zK bj; clear bk bj; replace bB := eq_true bB; replace bC := eq_true bC; have bI : 0 ≤ ((ah) : Int) := zd; have bJ : (ah) < ((rd_L2 ab aa).length : Int) := zd; obtain ⟨bm, e3, a3, a4⟩ := at_T30 (by repeat (first | (with_reducible exact a0.out) | (with_reducible refine Kd.C_alloc ?_ _) | (with_reducible refine Kd.C_drewN ?_ _) | (with_reducible refine Kd.C_drew ?_) | exact a0.out)) (ah) bI bJ; cases e3; replace bI := eq_true bI; replace bJ := eq_true bJ; have ea : ((ah) : Int) ≤ (((rd_L2 ab aa).length : Int) : Int) := zd; obtain ⟨i053, eJ, _, fV, _⟩ := info_parts info30; have dr : (rd_L2 ab aa).length ≤ aU := bl.out; have fW : Kd.C k30 _ (some bm) (rd_L2 ab aa).length (rd_L2 ab aa) := (by repeat (first | (with_reducible exact a0.out) | (with_reducible refine Kd.C_alloc ?_ _) | (with_reducible refine Kd.C_drewN ?_ _) | (with_reducible refine Kd.C_drew ?_) | exact a0.out)); have fh := cut_to (P := Try.prog) 28 30 .i64 Try.underlying28 eJ (some bm) (rd_L2 ab aa).length aU (ah) (zd) ea dr; have fi := Kd.C_take (m := ((ah) : Int).toNat) fW (by omega); have fj : bf.length = ((ah) : Int).toNat := (by rw [Ny174.out, List.length_take]; omega); rw [← Ny174.out] at fi; rw [← fj] at fh; have fM := zK fi; have fN := zK (show bf.length ≤ aU from by omega); clear fi fW dr eJ fV; have fX := zK fj; clear fj; replace ea := eq_true ea; have dx : 0 ≤ (aa : Int) := zd; have dy : (aa : Int) < ((ab.length : Int) : Int) := zd; obtain ⟨aY, co15, dM, dN, e7, cl15, dO⟩ := Kd.S_form an.out (by omega); (first | cases dM | (injection dM with ea_ en_ ec_; (first | subst ea_ | (injection ea_ with ea_; subst ea_)); subst ec_; clear en_)); have e8 := zK dN; have GG15 := zK dO; clear dN e7 dO; (first | simp only [add_plain] at aX | skip); obtain ⟨_, ce15, dP, dQ, cT, cU, _, _⟩ := Kd.S_elem an.out [] (aa : Int) dx dy; obtain ⟨e9, rfl, fa⟩ := dQ; have bp := cT 0 _ rfl; have de := cU 0; (try simp only [show ((Kd.slice 30 k30)).sz = 1 from rfl, Nat.mul_one, Nat.add_zero] at bp); (try simp only [show ((Kd.slice 30 k30)).sz = 1 from rfl, Nat.mul_one, Nat.add_zero] at de); clear dP cT cU; (try clear dQ); replace dx := eq_true dx; replace dy := eq_true dy; have HX54 := zK (show Kd.S (Kd.slice 30 k30) 28 eg w.heap.size (fun k_ => ((fun _ => True)) k_ ∧ ¬ ((fun _ => False)) k_) (.slice (some ⟨aY, 0, none⟩) ab.length bg) ab from (by (with_reducible repeat (first | apply Kd.S_alloc | apply Kd.S_drewN | apply Kd.S_drew)); exact Kd.S_mono an.out (fun k_ hk => ⟨trivial, fun e_ => e_⟩))); obtain ⟨fY, ce54, fZ, f2, dU, eK, fk, f3⟩ := Kd.S_elem HX54.out [] (aa : Int) (zd) (by have h_ : (aa : Int) < ((ab.length : Int) : Int) := zd; first | exact h_ | (have e_ := (Kd.S_reads' an.out).1; omega) | simpa using h_); obtain ⟨ve54_0, rfl, fl⟩ := f2; have dV := dU 0 _ rfl; have fm := b9.out; (try simp only [add_plain] at fm); (try simp only [Nat.add_zero] at dV); (try rw [show ((Kd.slice 30 k30)).sz = 1 from rfl, Nat.mul_one] at dV); replace dV := Option.some.inj (dV.symm.trans fm); subst dV; clear fm; have fn := zK (show Kd.R k30 30 eg w.heap.size fY (.slice (some bm) bf.length aU) bf from by rw [fX.out, Ny174.out]; exact Kd.R_take fl (by have h_ := of_eq_true ea; omega)); have fo := Kd.S_seg f3 (zd) (by have h_ : (aa : Int) < ((ab.length : Int) : Int) := zd; first | exact h_ | (have e_ := (Kd.S_reads' an.out).1; omega) | simpa using h_) (seg := [.slice (some bm) bf.length aU]) (j := 0) (show 1 ≤ 1 from by decide) (x' := bf) (Kd.M_row (Kd.R_mono fn.out (fun _ h_ => Or.inl h_))) (fun _ hk => hk) (fun k_ hk_ => hk_.elim); have bs := dU 0 _ rfl; (try simp only [show ((Kd.slice 30 k30)).sz = 1 from rfl, Nat.mul_one, Nat.add_zero] at bs); have dh := eK 0; (try simp only [show ((Kd.slice 30 k30)).sz = 1 from rfl, Nat.mul_one, Nat.add_zero] at dh); clear fZ dU eK fk f3; (try clear f2); (try simp only [show ((Kd.slice 30 k30)).sz = 1 from rfl, Nat.mul_one, Nat.add_zero] at fo)) | (go_at_call 75; refine (pop_calls (b := al) (deep := aq) (g := aY) (n := ab.length) (cap := bg) (lane := aa) (H := (ah)) (k := ((rd_L2 ab aa).length)) (c := aU) (m := bf.length) _ (zk af) (zd) (zd) (by first | exact bs | simpa using bs) (by first | exact dh | simpa using dh) (by first | rfl | assumption | exact Eq.symm (by assumption)) (zd) (zd) bl.out (by first | exact a3 | simpa using a3) (by first | exact a4 | simpa using a4) fX.out).mono ?_; rintro e w55 ⟨rfl, hg0_, dg⟩; have hg : eg.grownBy w55 (some aY) := hg0_; have hp_ : Kd.S (Kd.slice 30 k30) 28 w55 w.heap.size (fun _ => True) (.slice (some ⟨aY, 0, none⟩) ab.length bg) aT := (by rw [Ny178.out]; exact Opens.pop_S fo.1 dg); have hw := dg; clear dg hg0_; clear fo; have aA := zK (blk_grown (g := ai) (o := .cells #[.int .i64 a0_0, .slice aw aj.length ax] 24 (0, 0)) (zk ad) hg (Kd.S_ne an.out ad.out (by decide))); have aC := zK (hp_); have aI := zK (blk_grown (g := al) (o := .cells #[.int .i64 aq, .slice (some ⟨aY, 0, none⟩) ab.length bg] 24 (0, 0)) (zk af) hg (Kd.S_ne an.out af.out (by decide))); have aJ := zK (Kd.R_after (v := (.slice (some ⟨aY, 0, none⟩) ab.length bg)) (v1 := (.slice (some ⟨aY, 0, none⟩) ab.length bg)) (ok := (fun _ => True)) (zR aD) hg (.inl rfl)); have aZ := zK ((Opens.below_of_grown (zb HB) hg e8.out)); clear ad; clear an; clear af; clear aD; clear HB; have ad := aA; have an := aC; have af := aI; have aD := aJ; have HB := aZ; clear aA aC aI aJ aZ; clear hg hw hp_) | ((with_reducible refine gate_dst (N := 6) rfl ?_); (try (refine gate_guard (by rfl) ?_; dsimp only)); refine box_event ?hg (N := 6) ?hd (cs := #[.int .i64 0, .int .i64 0]) (t := 30) ?hr ?_; (case hd => rfl); (case hg => rfl); (case hr => first | (go_simp; done) | (go_simp; rfl)); intro am hg w56 hbox hb; have aA := zK (Kd.S_below (Kd.S_elderB (zT an) am (Nat.le_of_eq hg.symm)) hb); have aC := zK (Kd.R_below (Kd.R_elderB (zR aD) am (Nat.le_of_eq hg.symm)) hb); have aI := zK (blk_below (g := ai) (o := .cells #[.int .i64 a0_0, .slice aw aj.length ax] 24 (0, 0)) (zk ad) hb); have aJ := zK (blk_below (g := al) (o := .cells #[.int .i64 aq, .slice (some ⟨aY, 0, none⟩) ab.length bg] 24 (0, 0)) (zk af) hb); have aZ := zK (below_step (zb HB) hb); have a8 := zK (hbox); have bi := zK ((by rw [hg]; exact (below_size (zb HB)) : w.heap.size ≤ am)); have cS := zK ((by rw [hg]; exact (below_size (zb HB)) : w.heap.size ≤ am)); have eH := zK ((by rw [hg]; exact Nat.ne_of_lt (blk_lt (g := ai) (o := .cells #[.int .i64 a0_0, .slice aw aj.length ax] 24 (0, 0)) (zk ad)) : ai ≠ am)); have eI := zK ((by rw [hg]; exact Nat.ne_of_gt (blk_lt (g := ai) (o := .cells #[.int .i64 a0_0, .slice aw aj.length ax] 24 (0, 0)) (zk ad)) : am ≠ ai)); have cV := zK ((by rw [hg]; exact Nat.ne_of_lt (blk_lt (g := al) (o := .cells #[.int .i64 aq, .slice (some ⟨aY, 0, none⟩) ab.length bg] 24 (0, 0)) (zk af)) : al ≠ am)); have cW := zK ((by rw [hg]; exact Nat.ne_of_gt (blk_lt (g := al) (o := .cells #[.int .i64 aq, .slice (some ⟨aY, 0, none⟩) ab.length bg] 24 (0, 0)) (zk af)) : am ≠ al)); clear an; clear aD; clear ad; clear af; clear HB; have an := aA; have aD := aC; have ad := aI; have af := aJ; have HB := aZ; have ak := a8; have fU := bi; have aH := cS; have aV := eH; have br := eI; have aN := cV; have bb := cW; clear aA aC aI aJ aZ a8 bi cS eH eI cV cW; clear hb hbox hg; have hnb57 := br.out; have hnc57 := aV.out; have hnb58 := bb.out; have hnc58 := aN.out; have cD : w56.cell? ⟨am, 0, none⟩ = some (.int .i64 0) := (blk_cell ak.out 0).trans rfl; have cE : w56.cell? ⟨am, 1, none⟩ = some (.int .i64 0) := (blk_cell ak.out 1).trans rfl; have cF := blk_frozen ak.out 0; have cG := blk_frozen ak.out 1; have cH : w56.cell? ⟨al, 0, none⟩ = some (.int .i64 aq) := (blk_cell af.out 0).trans rfl; have cI : w56.cell? ⟨al, 1, none⟩ = some (.slice (some ⟨aY, 0, none⟩) ab.length bg) := (blk_cell af.out 1).trans rfl; have cJ := blk_frozen af.out 0; have cK := blk_frozen af.out 1))
        go_loopg [7, 31] k (fun kq v7 v31 w' => ∃ (aE : Int) (ag : Int) (ac : List (List (S30))) (u172001 : Value), v7 = .int .i64 aE ∧ v31 = .int .i64 ag ∧ Aside0 (impl_leastHops.l0 kq aa aE (ab.length : Int) ag a0_0 aj aq ac ((rd_T30 (rd_L2 ab aa) (ah)).f0) ((rd_T30 (rd_L2 ab aa) (ah)).f1) = some r) ∧ Aside0 (kq ≤ k) ∧ Aside0 (Kd.S (Kd.slice 30 k30) 28 w' w.heap.size (fun k_ => k_ ≠ am) u172001 ac) ∧ Aside0 (w'.heap[ai]? = some (.cells #[.int .i64 a0_0, (.slice aw aj.length ax)] 24 (0, 0))) ∧ Aside0 (w'.heap[al]? = some (.cells #[.int .i64 aq, u172001] 24 (0, 0))) ∧ Aside0 (w'.heap[am]? = some (.cells #[.int .i64 ((rd_T30 (rd_L2 ab aa) (ah)).f0), .int .i64 ((rd_T30 (rd_L2 ab aa) (ah)).f1)] 30 (0, 0))) ∧ Aside0 (Below w.heap.size w w'))
        case atStart => exact ⟨((-1)), (0), (aT), (.slice (some ⟨aY, 0, none⟩) ab.length bg), (by first | rfl | (simp; done) | (simp [*]; done)), (by first | rfl | (simp; done) | (simp [*]; done)), H', ⟨Nat.le_refl _⟩, ⟨by (with_reducible repeat (first | apply Kd.S_alloc | apply Kd.S_drewN | apply Kd.S_drew)); exact Kd.S_mono (Kd.S_far (p := ⟨am, 1, none⟩) (Kd.S_far (p := ⟨am, 0, none⟩) (Kd.S_mono an.out (fun k_ hk => (⟨hk, hk.2⟩ : _ ∧ k_ ≠ am))) (fun _ hk => hk.2) (.int .i64 ((rd_T30 (rd_L2 ab aa) (ah)).f0))) (fun _ hk => hk.2) (.int .i64 ((rd_T30 (rd_L2 ab aa) (ah)).f1))) (fun _ hk => hk.1.2)⟩, ⟨by (with_reducible repeat (first | refine zN ?_ _ | refine zD ?_ | refine zA ?_ _)); refine blk_far ?_ aV.out _; (with_reducible repeat (first | refine zN ?_ _ | refine zD ?_ | refine zA ?_ _)); refine blk_far ?_ aV.out _; (with_reducible repeat (first | refine zN ?_ _ | refine zD ?_ | refine zA ?_ _)); exact ad.out⟩, ⟨by (with_reducible repeat (first | refine zN ?_ _ | refine zD ?_ | refine zA ?_ _)); refine blk_far ?_ aN.out _; (with_reducible repeat (first | refine zN ?_ _ | refine zD ?_ | refine zA ?_ _)); refine blk_far ?_ aN.out _; (with_reducible repeat (first | refine zN ?_ _ | refine zD ?_ | refine zA ?_ _)); exact af.out⟩, ⟨by (with_reducible repeat (first | refine zN ?_ _ | refine zD ?_ | refine zA ?_ _)); refine blk_put (cs := #[.int .i64 ((rd_T30 (rd_L2 ab aa) (ah)).f0), .int .i64 0]) ?_ 1 _ rfl; (with_reducible repeat (first | refine zN ?_ _ | refine zD ?_ | refine zA ?_ _)); refine blk_put (cs := #[.int .i64 0, .int .i64 0]) ?_ 0 _ rfl; (with_reducible repeat (first | refine zN ?_ _ | refine zD ?_ | refine zA ?_ _)); exact ak.out⟩, ⟨zb HB⟩⟩
        case round =>
         clear H'
         try clear c1
         try clear p1
         try clear q1
         try clear hx1
         try clear hf1
         try clear c2
         try clear p2
         try clear c3
         try clear ec
         try clear ed
         try clear q3
         try clear hx3
         try clear hf3
         try clear c4
         try clear c5
         try clear q5
         try clear hx5
         try clear hf5
         try clear c6
         try clear p6
         try clear c7
         try clear c9
         try clear eY
         try clear c10
         try clear dG
         try clear eZ
         try clear dH
         try clear e0
         try clear dI
         try clear eE
         try clear dJ
         try clear dK
         try clear c15
         try clear dx
         try clear dy
         try clear f4
         try clear f5
         try clear d8
         try clear dn
         try clear dp
         try clear c17
         try clear p17
         try clear q17
         try clear f6
         try clear c26
         try clear d9
         try clear c32
         try clear f7
         try clear f8
         try clear c35
         try clear c36
         try clear c48
         try clear c51
         try clear ea
         try clear c54
         try clear f9
         try clear ga
         try clear c57
         try clear c58
         try clear c60
         try clear bP
         try clear bQ
         try clear bT
         try clear bU
         try clear bX
         try clear bY
         try clear b1
         try clear b2
         try clear b5
         try clear b6
         try clear ca
         try clear cb
         try clear ce
         try clear cf
         try clear ci
         try clear cj
         try clear cm
         try clear cn
         try clear cq
         try clear cr
         try clear cv
         try clear cw
         try clear cz
         try clear cA
         try clear cD
         try clear cE
         try clear cZ
         try clear c0
         try clear cH
         try clear cI
         try clear bR
         try clear bS
         try clear bV
         try clear bW
         try clear bZ
         try clear b0
         try clear b3
         try clear b4
         try clear b7
         try clear b8
         try clear cc
         try clear cd
         try clear cg
         try clear ch
         try clear ck
         try clear cl
         try clear co
         try clear cp
         try clear ct
         try clear cu
         try clear cx
         try clear cy
         try clear cB
         try clear cC
         try clear cF
         try clear cG
         try clear da
         try clear db
         try clear cJ
         try clear cK
         try clear bp
         try clear aX
         try clear a3
         try clear a4
         try clear bq
         try clear bs
         try clear dx
         try clear bB
         try clear bI
         try clear dy
         try clear bC
         try clear bJ
         try clear d9
         try clear ea
         obtain ⟨aE, ag, ac, u172001, rfl, rfl, HA, dE, ae, ad, af, ak, HB⟩ := hrel
         cases gk with
         | zero => exact absurd HA.out (by simp [impl_leastHops.l0])
         | succ k1 =>
          have H := HA.out; clear HA
          simp only [impl_leastHops.l0] at H
          by_cases eL : ag < (ab.length : Int)
          ·rw [if_pos eL] at H
           have dW : decide (ag < (ab.length : Int)) = true := decide_eq_true eL
           clear eL; have fp := zK H; clear H
           go_upto_region 13 with (fail)
           go_cut [47] (fun v47 wc => ∃ (kq : Nat) (cL : Bool), v47 = .bool cL ∧ Aside0 (impl_leastHops.j1 kq aa aE ag (ab.length : Int) ag cL a0_0 aj aq ac ((rd_T30 (rd_L2 ab aa) (ah)).f0) ((rd_T30 (rd_L2 ab aa) (ah)).f1) = some r) ∧ Aside0 (kq ≤ k1) ∧ Aside0 (Kd.S (Kd.slice 30 k30) 28 wc w.heap.size (fun k_ => k_ ≠ am) u172001 ac) ∧ Aside0 (wc.heap[ai]? = some (.cells #[.int .i64 a0_0, (.slice aw aj.length ax)] 24 (0, 0))) ∧ Aside0 (wc.heap[al]? = some (.cells #[.int .i64 aq, u172001] 24 (0, 0))) ∧ Aside0 (wc.heap[am]? = some (.cells #[.int .i64 ((rd_T30 (rd_L2 ab aa) (ah)).f0), .int .i64 ((rd_T30 (rd_L2 ab aa) (ah)).f1)] 30 (0, 0))) ∧ Aside0 (Below w.heap.size w wc))
           case first =>
            have H := fp.out; clear fp
            by_cases eh : ag = aa
            ·rw [if_pos eh] at H
             have bG : (ag == aa) = true := beq_iff_eq.mpr eh
             have dX : (ag != aa) = false := bne_eq_false_iff_eq.mpr eh
             clear eh
             (first | rw [bG] | (simp only [i64_w, i32_w]; rw [bG]) | skip)
             have H' := zK H; clear H
             try go_wp2
             have aA := zK (Kd.S_drew ae.out)
             have aC := zK (zD ad.out)
             have aI := zK (zD af.out)
             have aJ := zK (zD ak.out)
             have aZ := zK (zE HB.out)
             clear ae ad af ak HB; have ae := aA; have ad := aC; have af := aI; have ak := aJ; have HB := aZ; clear aA aC aI aJ aZ
             refine start_ (n := 14) (S := fun w' => True) (ds := []) #[ff, ff, ff, ff, ff, ff, ff, ff, ff, ff, ff, ff, ff, ff] (by kernel_rfl) rfl rfl trivial (fun hHeld => ?_); refine with_tabW impl_leastHops.tab13 impl_leastHops.bits13 (fun HT_ HW_ => ?_)
             generalize wr.drew = w64 at ae ad af ak HB hHeld ⊢
             refine zu 0 (some 34) #[tt, ff, ff, ff, ff, ff, ff, ff, ff, ff, ff, ff, ff, ff] (any_of HT_.out (by kernel_rfl)) ?_
             refine zu 1 (some 35) #[tt, tt, ff, ff, ff, ff, ff, ff, ff, ff, ff, ff, ff, ff] (any_of HT_.out (by kernel_rfl)) ?_
             refine zu 2 (some 36) #[tt, tt, tt, ff, ff, ff, ff, ff, ff, ff, ff, ff, ff, ff] (any_of HT_.out (by kernel_rfl)) ?_
             refine zu 3 (some 37) #[tt, tt, tt, tt, ff, ff, ff, ff, ff, ff, ff, ff, ff, ff] (any_of HT_.out (by kernel_rfl)) ?_
             refine pure_ (i := 4) (N := some 38) (v := undef) (a' := ?_) #[tt, tt, tt, tt, tt, ff, ff, ff, ff, ff, ff, ff, ff, ff] rfl rfl (any_of HT_.out (by kernel_rfl)) (fun _ _ _ h => h) (Or.inr ⟨by rfl, rfl⟩) ?_ ?_
             rotate_left
             ·simp only [Act.put, zp, zq, zr, i64_w, i32_w]
              rfl
             refine pure_ (i := 5) (N := some 39) (v := undef) (a' := ?_) #[tt, tt, tt, tt, tt, tt, ff, ff, ff, ff, ff, ff, ff, ff] rfl rfl (any_of HT_.out (by kernel_rfl)) (fun _ _ _ h => h) (Or.inr ⟨by rfl, rfl⟩) ?_ ?_
             rotate_left
             ·simp only [Act.put, zp, zq, zr, i64_w, i32_w]
              rfl
             refine pure_ (i := 6) (N := some 40) (v := undef) (a' := ?_) #[tt, tt, tt, tt, tt, tt, tt, ff, ff, ff, ff, ff, ff, ff] rfl rfl (any_of HT_.out (by kernel_rfl)) (fun _ _ _ h => h) (Or.inr ⟨by rfl, rfl⟩) ?_ ?_
             rotate_left
             ·simp only [Act.put, zp, zq, zr, i64_w, i32_w]
              rfl
             refine pure_ (i := 7) (N := some 41) (v := undef) (a' := ?_) #[tt, tt, tt, tt, tt, tt, tt, tt, ff, ff, ff, ff, ff, ff] rfl rfl (any_of HT_.out (by kernel_rfl)) (fun _ _ _ h => h) (Or.inr ⟨by rfl, rfl⟩) ?_ ?_
             rotate_left
             ·simp only [Act.put, zp, zq, zr, i64_w, i32_w]
              rfl
             refine pure_ (i := 8) (N := some 42) (v := undef) (a' := ?_) #[tt, tt, tt, tt, tt, tt, tt, tt, tt, ff, ff, ff, ff, ff] rfl rfl (any_of HT_.out (by kernel_rfl)) (fun _ _ _ h => h) (Or.inr ⟨by rfl, rfl⟩) ?_ ?_
             rotate_left
             ·simp only [Act.put, zp, zq, zr, i64_w, i32_w]
              rfl
             refine pure_ (i := 9) (N := some 43) (v := undef) (a' := ?_) #[tt, tt, tt, tt, tt, tt, tt, tt, tt, tt, ff, ff, ff, ff] rfl rfl (any_of HT_.out (by kernel_rfl)) (fun _ _ _ h => h) (Or.inr ⟨by rfl, rfl⟩) ?_ ?_
             rotate_left
             ·simp only [Act.put, zp, zq, zr, i64_w, i32_w]
              rfl
             refine pure_ (i := 10) (N := some 44) (v := undef) (a' := ?_) #[tt, tt, tt, tt, tt, tt, tt, tt, tt, tt, tt, ff, ff, ff] rfl rfl (any_of HT_.out (by kernel_rfl)) (fun _ _ _ h => h) (Or.inr ⟨by rfl, rfl⟩) ?_ ?_
             rotate_left
             ·simp only [Act.put, zp, zq, zr, i64_w, i32_w]
              rfl
             refine pure_ (i := 11) (N := some 45) (v := undef) (a' := ?_) #[tt, tt, tt, tt, tt, tt, tt, tt, tt, tt, tt, tt, ff, ff] rfl rfl (any_of HT_.out (by kernel_rfl)) (fun _ _ _ h => h) (Or.inr ⟨by rfl, rfl⟩) ?_ ?_
             rotate_left
             ·simp only [Act.put, zp, zq, zr, i64_w, i32_w]
              rfl
             refine pure_ (i := 12) (N := some 46) (v := undef) (a' := ?_) #[tt, tt, tt, tt, tt, tt, tt, tt, tt, tt, tt, tt, tt, ff] rfl rfl (any_of HT_.out (by kernel_rfl)) (fun _ _ _ h => h) (Or.inr ⟨by rfl, rfl⟩) ?_ ?_
             rotate_left
             ·simp only [Act.put, zp, zq, zr, i64_w, i32_w]
              rfl
             refine zu 13 (some 47) #[tt, tt, tt, tt, tt, tt, tt, tt, tt, tt, tt, tt, tt, tt] (any_of HT_.out (by kernel_rfl)) ?_
             refine done_ (done_of HT_.out (by kernel_rfl)) ?_
             try go_wp2
             go_meet
             case rel => exact ⟨_, (true), (by first | rfl | (simp; done) | (simp [*]; done)), H', ⟨by have := dE.out; first | omega | exact Nat.le_refl _⟩, ⟨zT ae⟩, ⟨zk ad⟩, ⟨zk af⟩, ⟨zk ak⟩, ⟨zb HB⟩⟩
            ·rw [if_neg eh] at H
             have bG : (ag == aa) = false := beq_eq_false_iff_ne.mpr eh
             have dX : (ag != aa) = true := bne_iff_ne.mpr eh
             (first | rw [bG] | (simp only [i64_w, i32_w]; rw [bG]) | skip)
             by_cases fD : 0 ≤ ag
             ·rw [if_pos fD] at H
              have eM : decide (0 ≤ ag) = true := decide_eq_true fD
              clear fD
              by_cases fE : ag < (ac.length : Int)
              ·rw [if_pos fE] at H
               have eN : decide (ag < (ac.length : Int)) = true := decide_eq_true fE
               clear fE; have H' := zK H; clear H
               try go_wp2
               have aA := zK (Kd.S_drew ae.out)
               have aC := zK (zD ad.out)
               have aI := zK (zD af.out)
               have aJ := zK (zD ak.out)
               have aZ := zK (zE HB.out)
               clear ae ad af ak HB; have ae := aA; have ad := aC; have af := aI; have ak := aJ; have HB := aZ; clear aA aC aI aJ aZ
               obtain ⟨Ao68, co68, gb⟩ := Kd.S_slice ae.out
               (first | subst gb | (injection gb with f1_ f2_ f3_; have f4_ := f1_.symm; have f5_ := f3_.symm; clear f1_ f2_ f3_; subst f4_; subst f5_))
               have dz : 0 ≤ (ag : Int) := zd
               have dA : ag < (ac.length : Int) := zd
               obtain ⟨eO, fq, fr, e181, bc, dt, du⟩ := at_L2 (Kd.S_reads' ae.out).2.2 ag dz dA
               cases e181
               obtain ⟨ce181, fs, ft, dY⟩ := Kd.S_get ae.out [] ag dz (by first | exact dA | exact zd | (have e_ := (Kd.S_reads' ae.out).1; omega))
               obtain ⟨ve181_0, rfl, cM⟩ := ft
               have bn := dY 0 _ rfl
               rw [Nat.add_zero, show ((Kd.slice 30 k30)).sz = 1 from rfl, Nat.mul_one] at bn
               replace bn := Option.some.inj (bn.symm.trans bc)
               rw [bn] at cM
               have ei := zK (show Kd.R k30 30 _ _ _ _ (rd_L2 ac ag) from cM)
               clear bn cM; have ej := zK bc; clear dY fs; have ek := zK du; have HC181_0 := zK dt; clear du dt; replace dz := eq_true dz; replace dA := eq_true dA
               refine start_ (n := 14) (S := fun w' => w'.cell? ⟨al, 0, none⟩ = some (.int .i64 aq) ∧ w'.cell? ⟨al, 1, none⟩ = some (.slice (some eO) ac.length co68) ∧ w'.cell? ⟨ai, 0, none⟩ = some (.int .i64 a0_0) ∧ w'.cell? ⟨ai, 1, none⟩ = some (.slice aw aj.length ax) ∧ w'.cell? (eO.add (ag).toNat) = some (.slice fq (rd_L2 ac ag).length fr)) (ds := []) #[ff, ff, ff, ff, ff, ff, ff, ff, ff, ff, ff, ff, ff, ff] (by kernel_rfl) rfl rfl ⟨(blk_cell af.out 0).trans rfl, (blk_cell af.out 1).trans rfl, (blk_cell ad.out 0).trans rfl, (blk_cell ad.out 1).trans rfl, bc⟩ (fun hHeld => ?_); refine with_tabW impl_leastHops.tab13 impl_leastHops.bits13 (fun HT_ HW_ => ?_)
               generalize wr.drew = w67 at ae ad af ak HB ei ek ej bc hHeld ⊢
               refine zu 0 (some 34) #[tt, ff, ff, ff, ff, ff, ff, ff, ff, ff, ff, ff, ff, ff] (any_of HT_.out (by kernel_rfl)) ?_
               refine zu 1 (some 35) #[tt, tt, ff, ff, ff, ff, ff, ff, ff, ff, ff, ff, ff, ff] (any_of HT_.out (by kernel_rfl)) ?_
               refine zu 2 (some 36) #[tt, tt, tt, ff, ff, ff, ff, ff, ff, ff, ff, ff, ff, ff] (any_of HT_.out (by kernel_rfl)) ?_
               refine zu 3 (some 37) #[tt, tt, tt, tt, ff, ff, ff, ff, ff, ff, ff, ff, ff, ff] (any_of HT_.out (by kernel_rfl)) ?_
               refine zu 4 (some 38) #[tt, tt, tt, tt, tt, ff, ff, ff, ff, ff, ff, ff, ff, ff] (any_of HT_.out (by kernel_rfl)) ?_
               refine zu 6 (some 40) #[tt, tt, tt, tt, tt, ff, tt, ff, ff, ff, ff, ff, ff, ff] (any_of HT_.out (by kernel_rfl)) ?_
               refine zu 10 (some 44) #[tt, tt, tt, tt, tt, ff, tt, ff, ff, ff, tt, ff, ff, ff] (any_of HT_.out (by kernel_rfl)) ?_
               refine zt 5 (some 39) #[tt, tt, tt, tt, tt, tt, tt, ff, ff, ff, tt, ff, ff, ff] (take_ofW HT_.out HW_.out (by kernel_rfl)) hHeld ?_
               refine zu 7 (some 41) #[tt, tt, tt, tt, tt, tt, tt, tt, ff, ff, tt, ff, ff, ff] (any_of HT_.out (by kernel_rfl)) ?_
               refine zt 8 (some 42) #[tt, tt, tt, tt, tt, tt, tt, tt, tt, ff, tt, ff, ff, ff] (take_ofW HT_.out HW_.out (by kernel_rfl)) hHeld ?_
               refine zu 9 (some 43) #[tt, tt, tt, tt, tt, tt, tt, tt, tt, tt, tt, ff, ff, ff] (any_of HT_.out (by kernel_rfl)) ?_
               refine zt 11 (some 45) #[tt, tt, tt, tt, tt, tt, tt, tt, tt, tt, tt, tt, ff, ff] (take_ofW HT_.out HW_.out (by kernel_rfl)) hHeld ?_
               refine zu 12 (some 46) #[tt, tt, tt, tt, tt, tt, tt, tt, tt, tt, tt, tt, tt, ff] (any_of HT_.out (by kernel_rfl)) ?_
               refine zu 13 (some 47) #[tt, tt, tt, tt, tt, tt, tt, tt, tt, tt, tt, tt, tt, tt] (any_of HT_.out (by kernel_rfl)) ?_
               refine done_ (done_of HT_.out (by kernel_rfl)) ?_
               try go_wp2
               go_meet
               case rel => exact ⟨_, ((((rd_L2 ac ag).length : Int) == a0_0)), (by first | rfl | (simp; done) | (simp [*]; done)), H', ⟨by have := dE.out; first | omega | exact Nat.le_refl _⟩, ⟨zT ae⟩, ⟨zk ad⟩, ⟨zk af⟩, ⟨zk ak⟩, ⟨zb HB⟩⟩
              ·rw [if_neg fE] at H
               exact absurd H (by simp)
             ·rw [if_neg fD] at H
              exact absurd H (by simp)
           case rest =>
            clear fp
            try clear c1
            try clear p1
            try clear q1
            try clear hx1
            try clear hf1
            try clear c2
            try clear p2
            try clear c3
            try clear ec
            try clear ed
            try clear q3
            try clear hx3
            try clear hf3
            try clear c4
            try clear c5
            try clear q5
            try clear hx5
            try clear hf5
            try clear c6
            try clear p6
            try clear c7
            try clear c9
            try clear eY
            try clear c10
            try clear dG
            try clear eZ
            try clear dH
            try clear e0
            try clear dI
            try clear eE
            try clear dJ
            try clear dK
            try clear c15
            try clear dx
            try clear dy
            try clear f4
            try clear f5
            try clear d8
            try clear dn
            try clear dp
            try clear c17
            try clear p17
            try clear q17
            try clear f6
            try clear c18
            try clear p18
            try clear q18
            try clear hx18
            try clear c26
            try clear d9
            try clear c32
            try clear f7
            try clear f8
            try clear c35
            try clear c36
            try clear c48
            try clear c51
            try clear ea
            try clear c54
            try clear f9
            try clear ga
            try clear c57
            try clear c58
            try clear c60
            try clear eL
            try clear dW
            try clear eh
            try clear bG
            try clear dX
            try clear p64
            try clear fD
            try clear eM
            try clear fE
            try clear eN
            try clear c67
            try clear bP
            try clear bQ
            try clear bT
            try clear bU
            try clear bX
            try clear bY
            try clear b1
            try clear b2
            try clear b5
            try clear b6
            try clear ca
            try clear cb
            try clear ce
            try clear cf
            try clear ci
            try clear cj
            try clear cm
            try clear cn
            try clear cq
            try clear cr
            try clear cv
            try clear cw
            try clear cz
            try clear cA
            try clear cD
            try clear cE
            try clear cZ
            try clear c0
            try clear cH
            try clear cI
            try clear bR
            try clear bS
            try clear bV
            try clear bW
            try clear bZ
            try clear b0
            try clear b3
            try clear b4
            try clear b7
            try clear b8
            try clear cc
            try clear cd
            try clear cg
            try clear ch
            try clear ck
            try clear cl
            try clear co
            try clear cp
            try clear ct
            try clear cu
            try clear cx
            try clear cy
            try clear cB
            try clear cC
            try clear cF
            try clear cG
            try clear da
            try clear db
            try clear cJ
            try clear cK
            try clear bp
            try clear aX
            try clear a3
            try clear a4
            try clear bc
            try clear bq
            try clear bs
            try clear p1
            try clear dx
            try clear p17
            try clear bB
            try clear bI
            try clear dz
            try clear p2
            try clear p6
            try clear q1
            try clear dy
            try clear q17
            try clear bC
            try clear bJ
            try clear dA
            try clear q3
            try clear d9
            try clear q5
            try clear ea
            obtain ⟨kq, cL, rfl, HA, bK, ae, ad, af, ak, HB⟩ := hcut
            cases kq with
            | zero => exact absurd HA.out (by simp [impl_leastHops.j1])
            | succ kj61 =>
             have H := HA.out; clear HA
             simp only [impl_leastHops.j1] at H
             by_cases gc : cL = true
             ·subst gc
              have H1 : (impl_leastHops.l0 kj61 aa aE (ab.length : Int) (wrap64 (ag + 1)) a0_0 aj aq ac ((rd_T30 (rd_L2 ab aa) (ah)).f0) ((rd_T30 (rd_L2 ab aa) (ah)).f1)) = some r := by rw [if_pos rfl] at H; exact H
              clear H; have H := H1; clear H1; have H' := zK H; clear H
              go_wp2
              go_roundg kj61
              case measure => have := dE.out; have := bK.out; omega
              case rel => exact ⟨(aE), (wrap64 (ag + 1)), (ac), (u172001), (by first | rfl | (simp; done) | (simp [*]; done)), (by first | rfl | (simp; done) | (simp [*]; done)), H', ⟨by have := dE.out; have := bK.out; omega⟩, ⟨zT ae⟩, ⟨zk ad⟩, ⟨zk af⟩, ⟨zk ak⟩, ⟨zb HB⟩⟩
             ·replace gc := Bool.eq_false_iff.mpr gc
              subst gc
              have H1 : ((impl_copyStore.f kj61 aq ac).bind fun bt182 => (if 0 ≤ ag then (if ag < (bt182.2.length : Int) then (if (rd_L2 bt182.2 ag).length < 8796093022208 then ((impl_leastHops.f kj61 bt182.1 (bt182.2.set (ag : Int).toNat ((rd_L2 bt182.2 ag) ++ [(⟨((rd_T30 (rd_L2 ab aa) (ah)).f0), ((rd_T30 (rd_L2 ab aa) (ah)).f1)⟩ : S30)]))).bind fun aG => (if aG ≥ 0 then (if aE < 0 then (impl_leastHops.j2 kj61 aa aE aG (ab.length : Int) ag true a0_0 aj aq ac ((rd_T30 (rd_L2 ab aa) (ah)).f0) ((rd_T30 (rd_L2 ab aa) (ah)).f1)) else (impl_leastHops.j2 kj61 aa aE aG (ab.length : Int) ag (decide ((wrap64 (aG + 1)) < aE)) a0_0 aj aq ac ((rd_T30 (rd_L2 ab aa) (ah)).f0) ((rd_T30 (rd_L2 ab aa) (ah)).f1))) else (impl_leastHops.j2 kj61 aa aE aG (ab.length : Int) ag false a0_0 aj aq ac ((rd_T30 (rd_L2 ab aa) (ah)).f0) ((rd_T30 (rd_L2 ab aa) (ah)).f1)))) else (none)) else (none)) else (none))) = some r := by rw [if_neg (show ¬ (false = true) by decide)] at H; exact H
              clear H; have H := H1; clear H1; replace H := Option.bind_eq_some_iff.mp H
              obtain ⟨⟨a1, ay⟩, gf, H⟩ := H
              replace H : (if 0 ≤ ag then (if ag < (ay.length : Int) then (if (rd_L2 ay ag).length < 8796093022208 then ((impl_leastHops.f kj61 a1 (ay.set (ag : Int).toNat ((rd_L2 ay ag) ++ [(⟨((rd_T30 (rd_L2 ab aa) (ah)).f0), ((rd_T30 (rd_L2 ab aa) (ah)).f1)⟩ : S30)]))).bind fun aG => (if aG ≥ 0 then (if aE < 0 then (impl_leastHops.j2 kj61 aa aE aG (ab.length : Int) ag true a0_0 aj aq ac ((rd_T30 (rd_L2 ab aa) (ah)).f0) ((rd_T30 (rd_L2 ab aa) (ah)).f1)) else (impl_leastHops.j2 kj61 aa aE aG (ab.length : Int) ag (decide ((wrap64 (aG + 1)) < aE)) a0_0 aj aq ac ((rd_T30 (rd_L2 ab aa) (ah)).f0) ((rd_T30 (rd_L2 ab aa) (ah)).f1))) else (impl_leastHops.j2 kj61 aa aE aG (ab.length : Int) ag false a0_0 aj aq ac ((rd_T30 (rd_L2 ab aa) (ah)).f0) ((rd_T30 (rd_L2 ab aa) (ah)).f1)))) else (none)) else (none)) else (none)) = some r := H
              have A70 := zK gf; clear gf
              by_cases gg : 0 ≤ ag
              ·rw [if_pos gg] at H
               have gh : decide (0 ≤ ag) = true := decide_eq_true gg
               clear gg
               by_cases gi : ag < (ay.length : Int)
               ·rw [if_pos gi] at H
                have gj : decide (ag < (ay.length : Int)) = true := decide_eq_true gi
                clear gi
                by_cases gl : (rd_L2 ay ag).length < 8796093022208
                ·rw [if_pos gl] at H
                 have gm := zK gl; clear gl
                 obtain ⟨bt, cX⟩ : ∃ y_ : List (S30), y_ = ((rd_L2 ay ag) ++ [(⟨((rd_T30 (rd_L2 ab aa) (ah)).f0), ((rd_T30 (rd_L2 ab aa) (ah)).f1)⟩ : S30)]) := ⟨_, rfl⟩
                 replace H : ((impl_leastHops.f kj61 a1 (ay.set (ag : Int).toNat bt)).bind fun aG => (if aG ≥ 0 then (if aE < 0 then (impl_leastHops.j2 kj61 aa aE aG (ab.length : Int) ag true a0_0 aj aq ac ((rd_T30 (rd_L2 ab aa) (ah)).f0) ((rd_T30 (rd_L2 ab aa) (ah)).f1)) else (impl_leastHops.j2 kj61 aa aE aG (ab.length : Int) ag (decide ((wrap64 (aG + 1)) < aE)) a0_0 aj aq ac ((rd_T30 (rd_L2 ab aa) (ah)).f0) ((rd_T30 (rd_L2 ab aa) (ah)).f1))) else (impl_leastHops.j2 kj61 aa aE aG (ab.length : Int) ag false a0_0 aj aq ac ((rd_T30 (rd_L2 ab aa) (ah)).f0) ((rd_T30 (rd_L2 ab aa) (ah)).f1)))) = some r := by first | (rw [cX]; with_reducible exact H) | (have H2_ := (Option.bind_some _ _).symm.trans H; rw [cX]; with_reducible exact H2_) | (have H2_ := (Option.bind_some _ _).symm.trans H; with_reducible exact H2_) | with_reducible exact H | (rw [cX]; exact H) | exact H
                 have Ny188 := zK cX; clear cX
                 obtain ⟨di, cY⟩ : ∃ y_ : List (List (S30)), y_ = (ay.set (ag : Int).toNat bt) := ⟨_, rfl⟩
                 replace H : ((impl_leastHops.f kj61 a1 di).bind fun aG => (if aG ≥ 0 then (if aE < 0 then (impl_leastHops.j2 kj61 aa aE aG (ab.length : Int) ag true a0_0 aj aq ac ((rd_T30 (rd_L2 ab aa) (ah)).f0) ((rd_T30 (rd_L2 ab aa) (ah)).f1)) else (impl_leastHops.j2 kj61 aa aE aG (ab.length : Int) ag (decide ((wrap64 (aG + 1)) < aE)) a0_0 aj aq ac ((rd_T30 (rd_L2 ab aa) (ah)).f0) ((rd_T30 (rd_L2 ab aa) (ah)).f1))) else (impl_leastHops.j2 kj61 aa aE aG (ab.length : Int) ag false a0_0 aj aq ac ((rd_T30 (rd_L2 ab aa) (ah)).f0) ((rd_T30 (rd_L2 ab aa) (ah)).f1)))) = some r := by first | (rw [cY]; with_reducible exact H) | (have H2_ := (Option.bind_some _ _).symm.trans H; rw [cY]; with_reducible exact H2_) | (have H2_ := (Option.bind_some _ _).symm.trans H; with_reducible exact H2_) | with_reducible exact H | (rw [cY]; exact H) | exact H
                 have Ny191 := zK cY; clear cY; replace H := Option.bind_eq_some_iff.mp H
                 obtain ⟨aG, gn, H⟩ := H
                 replace H : (if aG ≥ 0 then (if aE < 0 then (impl_leastHops.j2 kj61 aa aE aG (ab.length : Int) ag true a0_0 aj aq ac ((rd_T30 (rd_L2 ab aa) (ah)).f0) ((rd_T30 (rd_L2 ab aa) (ah)).f1)) else (impl_leastHops.j2 kj61 aa aE aG (ab.length : Int) ag (decide ((wrap64 (aG + 1)) < aE)) a0_0 aj aq ac ((rd_T30 (rd_L2 ab aa) (ah)).f0) ((rd_T30 (rd_L2 ab aa) (ah)).f1))) else (impl_leastHops.j2 kj61 aa aE aG (ab.length : Int) ag false a0_0 aj aq ac ((rd_T30 (rd_L2 ab aa) (ah)).f0) ((rd_T30 (rd_L2 ab aa) (ah)).f1))) = some r := H
                 have A75 := zK gn; clear gn; have fu := zK H; clear H; have hnb77 := ba.out; have hnc77 := aM.out; have hnb78 := aN.out; have hnc78 := bb.out
                 have el : wc.cell? ⟨al, 0, none⟩ = some (.int .i64 aq) := (blk_cell af.out 0).trans rfl
                 have em : wc.cell? ⟨al, 1, none⟩ = some (u172001) := (blk_cell af.out 1).trans rfl
                 have en := blk_frozen af.out 0; have eo := blk_frozen af.out 1
                 obtain ⟨a5, a6, eo80⟩ := Kd.S_slice ae.out
                 subst eo80
                 try go_wp2_with (first | ((with_reducible refine gate_callee (f := 67) rfl ?_); refine goesL_ (some 49) rfl rfl Try.func67 (by kernel_rfl) rfl #[.agg #[.int .i64 aq, .slice a5 ac.length a6]] rfl (by (try simp only [List.map_toArray, List.map_cons, List.map_nil]); first | done | rfl | (simp only [List.length_drop, List.length_take]; rfl)) ?_; (with_reducible refine (impl_copyStore.calls kj61 aq _ _ ac a1 ay _ ?side1 ?side2 A70.out).mono ?_); (case side1 => repeat (first | exact (Kd.S_reads' ae.out).2.2 | (with_reducible refine Kd.C_alloc ?_ _) | (with_reducible refine Kd.C_drewN ?_ _) | (with_reducible refine Kd.C_drew ?_))); (case side2 => exact (Kd.S_reads' ae.out).2.1); rintro e w81 ⟨v184, rfl, ho0, hb⟩; refine ⟨_, rfl, ?_⟩; obtain ⟨dZ, d0⟩ := Opens.size_of hb; have aA := zK (Opens.S_elderN d0 (zT ae) (Kd.S_base ho0) hb); have aC := zK (Kd.S_lower (Opens.S_floor d0 (Kd.S_newB (Kd.S_new' ho0 (Kd.S_lt (zT ae))) (g := am) (o := .cells #[.int .i64 ((rd_T30 (rd_L2 ab aa) (ah)).f0), .int .i64 ((rd_T30 (rd_L2 ab aa) (ah)).f1)] 30 (0, 0)) (zk ak))) (below_size (zb HB))); have aI := zK (blk_below (g := ai) (o := .cells #[.int .i64 a0_0, .slice aw aj.length ax] 24 (0, 0)) (zk ad) hb); have aJ := zK (blk_below (g := al) (o := .cells #[.int .i64 aq, .slice a5 ac.length a6] 24 (0, 0)) (zk af) hb); have aZ := zK (blk_below (g := am) (o := .cells #[.int .i64 ((rd_T30 (rd_L2 ab aa) (ah)).f0), .int .i64 ((rd_T30 (rd_L2 ab aa) (ah)).f1)] 30 (0, 0)) (zk ak) hb); have a8 := zK (below_step (zb HB) hb); clear ae; clear ad; clear af; clear ak; clear HB; have ae := aA; have au := aC; have ad := aI; have af := aJ; have ak := aZ; have HB := a8; clear aA aC aI aJ aZ a8; (try clear hb); (try clear ho0)) | ((with_reducible refine gate_dst (N := 9) rfl ?_); (try (refine gate_guard (by rfl) ?_; dsimp only)); refine box_event ?hg (N := 9) ?hd (cs := #[.int .i64 0, .slice none 0 0]) (t := 24) ?hr ?_; (case hd => rfl); (case hg => rfl); (case hr => first | (go_simp; done) | (go_simp; rfl)); intro ar hg eb hbox hb; have aA := zK (Kd.S_below (zT ae) hb); have aC := zK (Kd.S_below (zT au) hb); have aI := zK (blk_below (g := ai) (o := .cells #[.int .i64 a0_0, .slice aw aj.length ax] 24 (0, 0)) (zk ad) hb); have aJ := zK (blk_below (g := al) (o := .cells #[.int .i64 aq, .slice a5 ac.length a6] 24 (0, 0)) (zk af) hb); have aZ := zK (blk_below (g := am) (o := .cells #[.int .i64 ((rd_T30 (rd_L2 ab aa) (ah)).f0), .int .i64 ((rd_T30 (rd_L2 ab aa) (ah)).f1)] 30 (0, 0)) (zk ak) hb); have a8 := zK (below_step (zb HB) hb); have bi := zK (hbox); have cS := zK ((by rw [hg]; exact (below_size (zb HB)) : w.heap.size ≤ ar)); have eH := zK ((by rw [hg]; exact (below_size (zb HB)) : w.heap.size ≤ ar)); have eI := zK ((by rw [hg]; exact Nat.ne_of_lt (blk_lt (g := ai) (o := .cells #[.int .i64 a0_0, .slice aw aj.length ax] 24 (0, 0)) (zk ad)) : ai ≠ ar)); have cV := zK ((by rw [hg]; exact Nat.ne_of_gt (blk_lt (g := ai) (o := .cells #[.int .i64 a0_0, .slice aw aj.length ax] 24 (0, 0)) (zk ad)) : ar ≠ ai)); have cW := zK ((by rw [hg]; exact Nat.ne_of_lt (blk_lt (g := al) (o := .cells #[.int .i64 aq, .slice a5 ac.length a6] 24 (0, 0)) (zk af)) : al ≠ ar)); have gp := zK ((by rw [hg]; exact Nat.ne_of_gt (blk_lt (g := al) (o := .cells #[.int .i64 aq, .slice a5 ac.length a6] 24 (0, 0)) (zk af)) : ar ≠ al)); have gq := zK ((by rw [hg]; exact Nat.ne_of_lt (blk_lt (g := am) (o := .cells #[.int .i64 ((rd_T30 (rd_L2 ab aa) (ah)).f0), .int .i64 ((rd_T30 (rd_L2 ab aa) (ah)).f1)] 30 (0, 0)) (zk ak)) : am ≠ ar)); have gr := zK ((by rw [hg]; exact Nat.ne_of_gt (blk_lt (g := am) (o := .cells #[.int .i64 ((rd_T30 (rd_L2 ab aa) (ah)).f0), .int .i64 ((rd_T30 (rd_L2 ab aa) (ah)).f1)] 30 (0, 0)) (zk ak)) : ar ≠ am)); clear ae; clear au; clear ad; clear af; clear ak; clear HB; have ae := aA; have au := aC; have ad := aI; have af := aJ; have ak := aZ; have HB := a8; have av := bi; have GW186 := cS; have bh := eH; have bv := eI; have dB := cV; have bw := cW; have dC := gp; have bx := gq; have dD := gr; clear aA aC aI aJ aZ a8 bi cS eH eI cV cW gp gq gr; clear hb hbox hg; have hnb83 := dB.out; have hnc83 := bv.out; have hnb84 := dC.out; have hnc84 := bw.out; have hnb85 := dD.out; have hnc85 := bx.out; have ep : eb.cell? ⟨ar, 0, none⟩ = some (.int .i64 0) := (blk_cell av.out 0).trans rfl; have er : eb.cell? ⟨ar, 1, none⟩ = some (.slice none 0 0) := (blk_cell av.out 1).trans rfl; have es := blk_frozen av.out 0; have et := blk_frozen av.out 1; obtain ⟨bz, a2, eo87⟩ := Kd.S_slice au.out; subst eo87))
                 have aA : Aside0 (Kd.S (Kd.slice 30 k30) 28 ((eb.setCell ⟨ar, 0, none⟩ (.int .i64 a1)).setCell ⟨ar, 1, none⟩ (.slice bz ay.length a2)) w.heap.size (fun k_ => ((fun k_ => some k_ ≠ (.slice bz ay.length a2 : Value).ownBlock ∧ k_ ≠ am)) k_ ∧ k_ < dZ) (.slice a5 ac.length a6) ac) := ⟨by (with_reducible repeat (first | apply Kd.S_alloc | apply Kd.S_drewN | apply Kd.S_drew)); exact Kd.S_mono (Kd.S_far (p := ⟨ar, 1, none⟩) (Kd.S_far (p := ⟨ar, 0, none⟩) (Kd.S_types ae.out av.out (by decide)) (fun _ hk => hk.2) (.int .i64 a1)) (fun _ hk => hk.2) (.slice bz ay.length a2)) (fun _ hk => ⟨⟨hk.1.1.2, hk.1.1.1⟩, hk.1.2⟩)⟩
                 have aC : Aside0 (Kd.S (Kd.slice 30 k30) 28 ((eb.setCell ⟨ar, 0, none⟩ (.int .i64 a1)).setCell ⟨ar, 1, none⟩ (.slice bz ay.length a2)) w.heap.size (fun k_ => ((fun k_ => some k_ ≠ (.slice a5 ac.length a6 : Value).ownBlock ∧ k_ ≠ am)) k_ ∧ dZ ≤ k_) (.slice bz ay.length a2) ay) := ⟨by (with_reducible repeat (first | apply Kd.S_alloc | apply Kd.S_drewN | apply Kd.S_drew)); exact Kd.S_mono (Kd.S_far (p := ⟨ar, 1, none⟩) (Kd.S_far (p := ⟨ar, 0, none⟩) (Kd.S_types au.out av.out (by decide)) (fun _ hk => hk.2) (.int .i64 a1)) (fun _ hk => hk.2) (.slice bz ay.length a2)) (fun _ hk => ⟨⟨hk.1.1.1.2, hk.1.1.2⟩, hk.1.2⟩)⟩
                 have aI : Aside0 (((eb.setCell ⟨ar, 0, none⟩ (.int .i64 a1)).setCell ⟨ar, 1, none⟩ (.slice bz ay.length a2)).heap[ai]? = some (.cells #[.int .i64 a0_0, .slice aw aj.length ax] 24 (0, 0))) := ⟨by (with_reducible repeat (first | refine zN ?_ _ | refine zD ?_ | refine zA ?_ _)); refine blk_far ?_ bv.out _; (with_reducible repeat (first | refine zN ?_ _ | refine zD ?_ | refine zA ?_ _)); refine blk_far ?_ bv.out _; (with_reducible repeat (first | refine zN ?_ _ | refine zD ?_ | refine zA ?_ _)); exact ad.out⟩
                 have aJ : Aside0 (((eb.setCell ⟨ar, 0, none⟩ (.int .i64 a1)).setCell ⟨ar, 1, none⟩ (.slice bz ay.length a2)).heap[al]? = some (.cells #[.int .i64 aq, .slice a5 ac.length a6] 24 (0, 0))) := ⟨by (with_reducible repeat (first | refine zN ?_ _ | refine zD ?_ | refine zA ?_ _)); refine blk_far ?_ bw.out _; (with_reducible repeat (first | refine zN ?_ _ | refine zD ?_ | refine zA ?_ _)); refine blk_far ?_ bw.out _; (with_reducible repeat (first | refine zN ?_ _ | refine zD ?_ | refine zA ?_ _)); exact af.out⟩
                 have aZ : Aside0 (((eb.setCell ⟨ar, 0, none⟩ (.int .i64 a1)).setCell ⟨ar, 1, none⟩ (.slice bz ay.length a2)).heap[am]? = some (.cells #[.int .i64 ((rd_T30 (rd_L2 ab aa) (ah)).f0), .int .i64 ((rd_T30 (rd_L2 ab aa) (ah)).f1)] 30 (0, 0))) := ⟨by (with_reducible repeat (first | refine zN ?_ _ | refine zD ?_ | refine zA ?_ _)); refine blk_far ?_ bx.out _; (with_reducible repeat (first | refine zN ?_ _ | refine zD ?_ | refine zA ?_ _)); refine blk_far ?_ bx.out _; (with_reducible repeat (first | refine zN ?_ _ | refine zD ?_ | refine zA ?_ _)); exact ak.out⟩
                 have a8 : Aside0 (((eb.setCell ⟨ar, 0, none⟩ (.int .i64 a1)).setCell ⟨ar, 1, none⟩ (.slice bz ay.length a2)).heap[ar]? = some (.cells #[.int .i64 a1, .slice bz ay.length a2] 24 (0, 0))) := ⟨by (with_reducible repeat (first | refine zN ?_ _ | refine zD ?_ | refine zA ?_ _)); refine blk_put (cs := #[.int .i64 a1, .slice none 0 0]) ?_ 1 _ rfl; (with_reducible repeat (first | refine zN ?_ _ | refine zD ?_ | refine zA ?_ _)); refine blk_put (cs := #[.int .i64 0, .slice none 0 0]) ?_ 0 _ rfl; (with_reducible repeat (first | refine zN ?_ _ | refine zD ?_ | refine zA ?_ _)); exact av.out⟩
                 have bi : Aside0 (Below w.heap.size w ((eb.setCell ⟨ar, 0, none⟩ (.int .i64 a1)).setCell ⟨ar, 1, none⟩ (.slice bz ay.length a2))) := ⟨zb HB⟩
                 (try clear ae); (try clear au); (try clear ad); (try clear af); (try clear ak); (try clear av); (try clear HB)
                 generalize ((eb.setCell ⟨ar, 0, none⟩ (.int .i64 a1)).setCell ⟨ar, 1, none⟩ (.slice bz ay.length a2)) = w88 at aA aC aI aJ aZ a8 bi ⊢
                 have ae := aA; have au := aC; have ad := aI; have af := aJ; have ak := aZ; have av := a8; have HB := bi; clear aA aC aI aJ aZ a8 bi
                 have aA := zK (Kd.S_drew ae.out)
                 have aC := zK (Kd.S_drew au.out)
                 have aI := zK (zD ad.out)
                 have aJ := zK (zD af.out)
                 have aZ := zK (zD ak.out)
                 have a8 := zK (zD av.out)
                 have bi := zK (zE HB.out)
                 clear ae au ad af ak av HB; have ae := aA; have au := aC; have ad := aI; have af := aJ; have ak := aZ; have av := a8; have HB := bi; clear aA aC aI aJ aZ a8 bi
                 have d1 : 0 ≤ (ag : Int) := zd
                 have d2 : ag < (ay.length : Int) := zd
                 obtain ⟨ad187, dj, dk, e187, bd, dv, dw⟩ := at_L2 (Kd.S_reads' au.out).2.2 ag d1 d2
                 cases e187
                 obtain ⟨ce187, fv, fw, d3⟩ := Kd.S_get au.out [] ag d1 (by first | exact d2 | exact zd | (have e_ := (Kd.S_reads' au.out).1; omega))
                 obtain ⟨ve187_0, rfl, cN⟩ := fw
                 have bo := d3 0 _ rfl
                 rw [Nat.add_zero, show ((Kd.slice 30 k30)).sz = 1 from rfl, Nat.mul_one] at bo
                 replace bo := Option.some.inj (bo.symm.trans bd)
                 rw [bo] at cN
                 have aK := zK (show Kd.R k30 30 _ _ _ _ (rd_L2 ay ag) from cN)
                 clear bo cN; have cO := zK bd; clear d3 fv; have eu := zK dw; have HC187_0 := zK dv; clear dw dv; replace d1 := eq_true d1; replace d2 := eq_true d2; have eP := au
                 have n_ := zK (Kd.S_mono (ok' := (fun k_ => some k_ ≠ (.slice a5 ac.length a6 : Value).ownBlock ∧ k_ ≠ am)) au.out (fun k_ hk => ⟨hk.1.1, hk.1.2⟩))
                 clear au; have au := n_; clear n_
                 obtain ⟨aW, co90, gs, gt, gl90, cl90, gu⟩ := Kd.S_form au.out (by have h_ : (ag : Int) < ((ay.length : Int) : Int) := zd; have h2_ : 0 ≤ (ag : Int) := (zd); omega)
                 (first | cases gs | (injection gs with ea_ en_ ec_; (first | subst ea_ | (injection ea_ with ea_; subst ea_)); subst ec_; clear en_))
                 have GB90 := zK gt; have GG90 := zK gu; clear gt gl90 gu
                 (first | simp only [add_plain] at bd | skip)
                 obtain ⟨eQ, ce90, gv, hM90, eR, _, _, gw⟩ := Kd.S_elem au.out [] (ag : Int) (zd) (by have h_ : (ag : Int) < ((ay.length : Int) : Int) := zd; first | exact h_ | (have e_ := (Kd.S_reads' au.out).1; omega) | simpa using h_)
                 obtain ⟨ve90_0, rfl, d4⟩ := hM90
                 have d5 := eR 0 _ rfl; have fx := cO.out; (try simp only [add_plain] at fx); (try simp only [Nat.add_zero] at d5); (try rw [show ((Kd.slice 30 k30)).sz = 1 from rfl, Nat.mul_one] at d5)
                 replace d5 := Option.some.inj (d5.symm.trans fx)
                 subst d5; clear fx eR gv
                 have ew := zK (show Kd.R k30 30 _ w.heap.size eQ (.slice dj (rd_L2 ay ag).length dk) (rd_L2 ay ag) from d4)
                 have dl := zK gw
                 have fy := zK (Kd.S_reads' au.out).1
                 clear gw d4; have d6 := cO.out; (try simp only [add_plain] at d6)
                 have hG90 := zK (Opens.S_floor_at eP.out (fun k_ hk => hk.2) (zd) (by have h_ : (ag : Int) < ((ay.length : Int) : Int) := zd; first | exact h_ | (have e_ := (Kd.S_reads' au.out).1; omega) | simpa using h_) d6)
                 clear d6 eP
                 refine start_ (n := 13) (S := fun w' => w'.cell? ⟨ar, 0, none⟩ = some (.int .i64 a1) ∧ w'.cell? ⟨ar, 1, none⟩ = some (.slice (some ⟨aW, 0, none⟩) ay.length a2) ∧ w'.cell? ⟨am, 0, none⟩ = some (.int .i64 ((rd_T30 (rd_L2 ab aa) (ah)).f0)) ∧ w'.cell? ⟨am, 1, none⟩ = some (.int .i64 ((rd_T30 (rd_L2 ab aa) (ah)).f1)) ∧ w'.cell? ⟨aW, (ag).toNat, none⟩ = some (.slice dj (rd_L2 ay ag).length dk)) (ds := [12]) #[ff, ff, ff, ff, ff, ff, ff, ff, ff, ff, ff, ff, ff] (by kernel_rfl) rfl rfl ⟨(blk_cell av.out 0).trans rfl, (blk_cell av.out 1).trans rfl, (blk_cell ak.out 0).trans rfl, (blk_cell ak.out 1).trans rfl, bd⟩ (fun hHeld => ?_); refine with_tabW impl_leastHops.tab15 impl_leastHops.bits15 (fun HT_ HW_ => ?_)
                 generalize w88.drew = w89 at ae au ad af ak av HB GG90 dl aK eu cO ew bd hHeld ⊢
                 refine zu 0 (some 50) #[tt, ff, ff, ff, ff, ff, ff, ff, ff, ff, ff, ff, ff] (any_of HT_.out (by kernel_rfl)) ?_
                 refine zu 2 (some 52) #[tt, ff, tt, ff, ff, ff, ff, ff, ff, ff, ff, ff, ff] (any_of HT_.out (by kernel_rfl)) ?_
                 refine zu 3 (some 53) #[tt, ff, tt, tt, ff, ff, ff, ff, ff, ff, ff, ff, ff] (any_of HT_.out (by kernel_rfl)) ?_
                 refine zu 5 (some 55) #[tt, ff, tt, tt, ff, tt, ff, ff, ff, ff, ff, ff, ff] (any_of HT_.out (by kernel_rfl)) ?_
                 refine zt 1 (some 51) #[tt, tt, tt, tt, ff, tt, ff, ff, ff, ff, ff, ff, ff] (take_ofW HT_.out HW_.out (by kernel_rfl)) hHeld ?_
                 refine zt 4 (some 54) #[tt, tt, tt, tt, tt, tt, ff, ff, ff, ff, ff, ff, ff] (take_ofW HT_.out HW_.out (by kernel_rfl)) hHeld ?_
                 refine zu 6 (some 56) #[tt, tt, tt, tt, tt, tt, tt, ff, ff, ff, ff, ff, ff] (any_of HT_.out (by kernel_rfl)) ?_
                 refine zt 7 (some 57) #[tt, tt, tt, tt, tt, tt, tt, tt, ff, ff, ff, ff, ff] (take_ofW HT_.out HW_.out (by kernel_rfl)) hHeld ?_
                 refine zt 8 (some 58) #[tt, tt, tt, tt, tt, tt, tt, tt, tt, ff, ff, ff, ff] (take_ofW HT_.out HW_.out (by kernel_rfl)) hHeld ?_
                 refine one_ (i := 9) (N := some 59) #[tt, tt, tt, tt, tt, tt, tt, tt, tt, tt, ff, ff, ff] rfl rfl (one_of HT_.out (by kernel_rfl)) (by decide) (fun K hK => ?_)
                 refine value_ (w1 := ?_) (v := ?_) (by rfl) rfl ?_ ?_
                 rotate_left 2
                 ·go_simp
                  constructor
                  ·rfl
                  ·rfl
                 refine hK.out _ _ ⟨(blk_cell (zA av.out _) 0).trans rfl, (blk_cell (zA av.out _) 1).trans rfl, (blk_cell (zA ak.out _) 0).trans rfl, (blk_cell (zA ak.out _) 1).trans rfl, (World.cell?_alloc_lt _ _ _ (World.block_lt_of_cell? _ _ (hHeld.2.2.2.2))).trans (hHeld.2.2.2.2)⟩ (fun hHeld => ?_)
                 clear hK K
                 refine norm_ (a' := ?_) ?_ ?_
                 rotate_left
                 ·show Act.put _ (some 59) _ = _
                  simp only [Act.put, zp, zq, zr, i64_w, i32_w]
                  rfl
                 refine one_ (i := 10) (N := some 60) #[tt, tt, tt, tt, tt, tt, tt, tt, tt, tt, tt, ff, ff] rfl rfl (one_of HT_.out (by kernel_rfl)) (by decide) (fun K hK => ?_)
                 refine Kd.R_append_step k30 (w0 := w) w.heap.size (by rfl) (.tmp 57) (.tmp 59) 28 30 (.agg #[(.int .i64 0), (.int .i64 0)]) 16 rfl Try.underlying28 info30 rfl (by decide) (by omega) (.slice dj (rd_L2 ay ag).length dk) (rd_L2 ay ag) (⟨((rd_T30 (rd_L2 ab aa) (ah)).f0), ((rd_T30 (rd_L2 ab aa) (ah)).f1)⟩ : S30) [.int .i64 ((rd_T30 (rd_L2 ab aa) (ah)).f0), .int .i64 ((rd_T30 (rd_L2 ab aa) (ah)).f1)] (fun k_ => eQ k_ ∨ ((fun k_ => some k_ ≠ (.slice a5 ac.length a6 : Value).ownBlock ∧ k_ ≠ am)) k_ ∧ w89.heap.size ≤ k_) (fun _ => False) rfl rfl ?aP (fun _ hk => hk.elim) ?aF ?aO ?aB ?aS ?aL ?_
                 (case aP => exact k30_mkM _ _ _ (⟨((rd_T30 (rd_L2 ab aa) (ah)).f0), ((rd_T30 (rd_L2 ab aa) (ah)).f1)⟩ : S30))
                 (case aB => exact (zb HB))
                 (case aF => exact (fun k_ hk => .inr ⟨⟨Kd.fresh' (Kd.S_lt (zT ae)) k_ hk, Kd.freshB (g := am) (o := .cells #[.int .i64 ((rd_T30 (rd_L2 ab aa) (ah)).f0), .int .i64 ((rd_T30 (rd_L2 ab aa) (ah)).f1)] 30 (0, 0)) (zk ak) k_ hk⟩, hk⟩))
                 (case aO => exact (by (with_reducible repeat (first | apply Kd.R_alloc | apply Kd.R_drewN | apply Kd.R_drew)); exact Kd.R_mono ew.out (fun _ hk => .inl hk)))
                 (case aS => exact (below_size (zb HB)))
                 (case aL => have := gm.out; omega)
                 intro v189 eS ho hb hg hat
                 (first | have gx := cell_grown hg (hHeld.2.2.2.2) (by first | (rw [add_block]; exact (fun e_ => ((aK.out.1 _ e_.symm).2) rfl)) | (show some (Addr.add _ _).block ≠ _; rw [add_block]; exact (fun e_ => ((aK.out.1 _ e_.symm).2) rfl)) | exact (fun e_ => ((aK.out.1 _ e_.symm).2) rfl)) | have gx := cell_grown hg (cell_unalloc (hHeld.2.2.2.2) (by first | (rw [add_block]; exact Kd.S_lt au.out _ rfl) | (show (Addr.add _ _).block < _; rw [add_block]; exact Kd.S_lt au.out _ rfl) | exact Kd.S_lt au.out _ rfl)) (by first | (rw [add_block]; exact (fun e_ => ((aK.out.1 _ e_.symm).2) rfl)) | (show some (Addr.add _ _).block ≠ _; rw [add_block]; exact (fun e_ => ((aK.out.1 _ e_.symm).2) rfl)) | exact (fun e_ => ((aK.out.1 _ e_.symm).2) rfl)))
                 rw [← Ny188.out] at ho
                 have aA := zK (Kd.S_grown (zT ae) hg (by intro k_ hk_ e_; exact Nat.lt_irrefl _ (Nat.lt_of_lt_of_le hk_.2 (hG90.out k_ e_.symm))))
                 have aC := zK (blk_grown (g := ai) (o := .cells #[.int .i64 a0_0, .slice aw aj.length ax] 24 (0, 0)) (zk ad) hg (Kd.R_ne aK.out ad.out (by decide)))
                 have aI := zK (blk_grown (g := al) (o := .cells #[.int .i64 aq, .slice a5 ac.length a6] 24 (0, 0)) (zk af) hg (Kd.R_ne aK.out af.out (by decide)))
                 have aJ := zK (blk_grown (g := am) (o := .cells #[.int .i64 ((rd_T30 (rd_L2 ab aa) (ah)).f0), .int .i64 ((rd_T30 (rd_L2 ab aa) (ah)).f1)] 30 (0, 0)) (zk ak) hg (Kd.R_away aK.out (fun _ hk => hk.1.1.2)))
                 have aZ := zK (blk_grown (g := ar) (o := .cells #[.int .i64 a1, .slice (some ⟨aW, 0, none⟩) ay.length a2] 24 (0, 0)) (zk av) hg (Kd.R_ne aK.out av.out (by decide)))
                 have a8 := zK (hb)
                 have bi := zK (Kd.H_grown (Kd.H_widen (by repeat (first | exact dl.out | refine Kd.H_alloc ?_ _ | refine Kd.H_drewN ?_ _ | refine Kd.H_drew ?_))) hg (fun k_ e_ => .inl (ew.out.1 k_ e_)))
                 have cS := zK (ho)
                 clear ae ad af ak av HB dl au ew aK; have ae := aA; have ad := aC; have af := aI; have ak := aJ; have av := aZ; have HB := a8; have dl := bi; have eT := cS; clear aA aC aI aJ aZ a8 bi cS ho hb hg hat
                 have p74 : 0 ≤ (ag : Int) := zd
                 have q74 : (ag : Int) < ((ay.length : Int) : Int) := zd
                 replace p74 := eq_true p74; replace q74 := eq_true q74
                 obtain ⟨bL, bM, gy⟩ := Kd.R_slice eT.out
                 (first | subst gy | (injection gy with f1_ f2_ f3_; have f4_ := f1_.symm; have f5_ := f3_.symm; clear f1_ f2_ f3_; subst f4_; subst f5_))
                 obtain ⟨_, _, bH, _, _, eU, _⟩ := Kd.H_raw dl.out (zd) (by have h_ : (ag : Int) < ((ay.length : Int) : Int) := zd; first | exact h_ | (have e_ := (fy.out); omega) | simpa using h_)
                 obtain ⟨_, eV⟩ := Kd.H_at dl.out (zd) (by have h_ : (ag : Int) < ((ay.length : Int) : Int) := zd; first | exact h_ | (have e_ := (fy.out); omega) | simpa using h_)
                 have dm := eU 0 _ rfl; have d7 := eV 0; (try simp only [Nat.add_zero] at dm d7); (try rw [show ((Kd.slice 30 k30)).sz = 1 from rfl, Nat.mul_one] at dm); (try rw [show ((Kd.slice 30 k30)).sz = 1 from rfl, Nat.mul_one] at d7)
                 have fz := Kd.S_seg0 dl.out (zd) (by have h_ : (ag : Int) < ((ay.length : Int) : Int) := zd; first | exact h_ | (have e_ := (fy.out); omega) | simpa using h_) (seg := [.slice bL bt.length bM]) (j := 0) (show 1 ≤ 1 from by decide) (x' := bt) (Kd.M_row eT.out) (fun _ hk => hk)
                 (try simp only [show ((Kd.slice 30 k30)).sz = 1 from rfl, Nat.mul_one, Nat.add_zero] at fz); clear eU eV
                 have HNB164_go90 := zK (show ai ≠ aW from by have h_ := Kd.R_ne bH ad.out (by decide); intro e_; exact h_ (by rw [e_]; rfl))
                 have HNB171_go90 := zK (show al ≠ aW from by have h_ := Kd.R_ne bH af.out (by decide); intro e_; exact h_ (by rw [e_]; rfl))
                 have HNB179_go90 := zK (show am ≠ aW from by have h_ := Kd.R_ne bH ak.out (by decide); intro e_; exact h_ (by rw [e_]; rfl))
                 have HNB186_go90 := zK (show ar ≠ aW from by have h_ := Kd.R_ne bH av.out (by decide); intro e_; exact h_ (by rw [e_]; rfl))
                 have fA := fz.1
                 rw [← Ny191.out] at fA
                 have HQ92 := zK fA
                 obtain ⟨_, eW⟩ := Kd.R_typed bH aW rfl
                 have GG92_ := zK eW; clear fz fA eW
                 refine hK.out _ _ ⟨(blk_cell av.out 0).trans rfl, (blk_cell av.out 1).trans rfl, (blk_cell ak.out 0).trans rfl, (blk_cell ak.out 1).trans rfl, gx⟩ (fun hHeld => ?_)
                 clear hK K
                 refine norm_ (a' := ?_) ?_ ?_
                 rotate_left
                 ·show Act.put _ (some 60) _ = _
                  simp only [Act.put, zp, zq, zr, i64_w, i32_w]
                  rfl
                 refine zu 11 (some 61) #[tt, tt, tt, tt, tt, tt, tt, tt, tt, tt, tt, tt, ff] (any_of HT_.out (by kernel_rfl)) ?_
                 refine last_ (i := 12) (N := none) #[tt, tt, tt, tt, tt, tt, tt, tt, tt, tt, tt, tt, tt] rfl rfl (one_of HT_.out (by kernel_rfl)) (by decide) (fun K hK => ?_)
                 refine skip_ (w1 := ?_) (by rfl) rfl ?_ ?_
                 rotate_left
                 ·go_simp
                  rfl
                 refine hK.out _ _ ?_
                 clear hK K
                 refine done_ (done_of HT_.out (by kernel_rfl)) ?_
                 have aA : Aside0 (Kd.S (Kd.slice 30 k30) 28 (eS.setCell ⟨aW, (ag : Int).toNat, none⟩ (.slice bL bt.length bM)) w.heap.size (fun k_ => ((fun k_ => some k_ ≠ (.slice (some ⟨aW, 0, none⟩) ay.length a2 : Value).ownBlock ∧ k_ ≠ am)) k_ ∧ k_ < dZ) (.slice a5 ac.length a6) ac) := ⟨by (with_reducible repeat (first | apply Kd.S_alloc | apply Kd.S_drewN | apply Kd.S_drew)); exact Kd.S_mono (Kd.S_far (p := ⟨aW, (ag : Int).toNat, none⟩) (Kd.S_mono ae.out (fun k_ hk => (⟨hk, fun e_ => hk.1.1 (by rw [e_]; rfl)⟩ : _ ∧ k_ ≠ aW))) (fun _ hk => hk.2) (.slice bL bt.length bM)) (fun _ hk => ⟨⟨hk.1.1.1, hk.1.1.2⟩, hk.1.2⟩)⟩
                 have aC : Aside0 (Kd.S (Kd.slice 30 k30) 28 (eS.setCell ⟨aW, (ag : Int).toNat, none⟩ (.slice bL bt.length bM)) w.heap.size (fun k_ => some k_ ≠ (.slice a5 ac.length a6 : Value).ownBlock ∧ k_ ≠ am) (.slice (some ⟨aW, 0, none⟩) ay.length a2) di) := ⟨zT HQ92⟩
                 have aI : Aside0 ((eS.setCell ⟨aW, (ag : Int).toNat, none⟩ (.slice bL bt.length bM)).heap[ai]? = some (.cells #[.int .i64 a0_0, .slice aw aj.length ax] 24 (0, 0))) := ⟨by (with_reducible repeat (first | refine zN ?_ _ | refine zD ?_ | refine zA ?_ _)); refine blk_far ?_ HNB164_go90.out _; (with_reducible repeat (first | refine zN ?_ _ | refine zD ?_ | refine zA ?_ _)); exact ad.out⟩
                 have aJ : Aside0 ((eS.setCell ⟨aW, (ag : Int).toNat, none⟩ (.slice bL bt.length bM)).heap[al]? = some (.cells #[.int .i64 aq, .slice a5 ac.length a6] 24 (0, 0))) := ⟨by (with_reducible repeat (first | refine zN ?_ _ | refine zD ?_ | refine zA ?_ _)); refine blk_far ?_ HNB171_go90.out _; (with_reducible repeat (first | refine zN ?_ _ | refine zD ?_ | refine zA ?_ _)); exact af.out⟩
                 have aZ : Aside0 ((eS.setCell ⟨aW, (ag : Int).toNat, none⟩ (.slice bL bt.length bM)).heap[am]? = some (.cells #[.int .i64 ((rd_T30 (rd_L2 ab aa) (ah)).f0), .int .i64 ((rd_T30 (rd_L2 ab aa) (ah)).f1)] 30 (0, 0))) := ⟨by (with_reducible repeat (first | refine zN ?_ _ | refine zD ?_ | refine zA ?_ _)); refine blk_far ?_ HNB179_go90.out _; (with_reducible repeat (first | refine zN ?_ _ | refine zD ?_ | refine zA ?_ _)); exact ak.out⟩
                 have a8 : Aside0 ((eS.setCell ⟨aW, (ag : Int).toNat, none⟩ (.slice bL bt.length bM)).heap[ar]? = some (.cells #[.int .i64 a1, .slice (some ⟨aW, 0, none⟩) ay.length a2] 24 (0, 0))) := ⟨by (with_reducible repeat (first | refine zN ?_ _ | refine zD ?_ | refine zA ?_ _)); refine blk_far ?_ HNB186_go90.out _; (with_reducible repeat (first | refine zN ?_ _ | refine zD ?_ | refine zA ?_ _)); exact av.out⟩
                 have bi : Aside0 (Below w.heap.size w (eS.setCell ⟨aW, (ag : Int).toNat, none⟩ (.slice bL bt.length bM))) := ⟨zb HB⟩
                 (try clear ae); (try clear au); (try clear ad); (try clear af); (try clear ak); (try clear av); (try clear HB)
                 generalize (eS.setCell ⟨aW, (ag : Int).toNat, none⟩ (.slice bL bt.length bM)) = w95 at aA aC aI aJ aZ a8 bi ⊢
                 have ae := aA; have au := aC; have ad := aI; have af := aJ; have ak := aZ; have av := a8; have HB := bi; clear aA aC aI aJ aZ a8 bi
                 have ex : w95.cell? ⟨ar, 0, none⟩ = some (.int .i64 a1) := (blk_cell av.out 0).trans rfl
                 have ey : w95.cell? ⟨ar, 1, none⟩ = some (.slice (some ⟨aW, 0, none⟩) ay.length a2) := (blk_cell av.out 1).trans rfl
                 have ez := blk_frozen av.out 0; have eA := blk_frozen av.out 1
                 go_upto_region 17 with (first | ((with_reducible refine gate_callee (f := 51) rfl ?_); refine goesL_ (some 63) rfl rfl Try.func51 (by kernel_rfl) rfl #[.agg #[.int .i64 a1, .slice (some ⟨aW, 0, none⟩) di.length a2]] rfl (by (try simp only [List.map_toArray, List.map_cons, List.map_nil]); first | done | (rw [show di.length = ay.length from (Kd.S_reads' au.out).1.symm] <;> rfl) | rfl | (simp only [List.length_drop, List.length_take]; rfl)) ?_; (with_reducible refine (ih kj61 (by have := dE.out; have := bK.out; omega) a1 _ _ di aG _ ?side1 ?side2 A75.out).mono ?_); (case side1 => repeat (first | exact (Kd.S_reads' au.out).2.2 | (with_reducible refine Kd.C_alloc ?_ _) | (with_reducible refine Kd.C_drewN ?_ _) | (with_reducible refine Kd.C_drew ?_))); (case side2 => rw [show di.length = ay.length from (Kd.S_reads' au.out).1.symm]; exact (Kd.S_reads' au.out).2.1); rintro e w97 ⟨rfl, hb⟩; refine ⟨_, rfl, ?_⟩; have aA := zK (Kd.S_below (zT ae) hb); have aC := zK (Kd.S_below (zT au) hb); have aI := zK (blk_below (g := ai) (o := .cells #[.int .i64 a0_0, .slice aw aj.length ax] 24 (0, 0)) (zk ad) hb); have aJ := zK (blk_below (g := al) (o := .cells #[.int .i64 aq, .slice a5 ac.length a6] 24 (0, 0)) (zk af) hb); have aZ := zK (blk_below (g := am) (o := .cells #[.int .i64 ((rd_T30 (rd_L2 ab aa) (ah)).f0), .int .i64 ((rd_T30 (rd_L2 ab aa) (ah)).f1)] 30 (0, 0)) (zk ak) hb); have a8 := zK (blk_below (g := ar) (o := .cells #[.int .i64 a1, .slice (some ⟨aW, 0, none⟩) ay.length a2] 24 (0, 0)) (zk av) hb); have bi := zK (below_step (zb HB) hb); clear ae; clear au; clear ad; clear af; clear ak; clear av; clear HB; have ae := aA; have au := aC; have ad := aI; have af := aJ; have ak := aZ; have av := a8; have HB := bi; clear aA aC aI aJ aZ a8 bi; (try clear hb)))
                 (try simp only [Act.put, zp, zq, zr])
                 go_cut [75] (fun v75 wc => ∃ (kq : Nat) (cP : Bool), v75 = .bool cP ∧ Aside0 (impl_leastHops.j2 kq aa aE aG (ab.length : Int) ag cP a0_0 aj aq ac ((rd_T30 (rd_L2 ab aa) (ah)).f0) ((rd_T30 (rd_L2 ab aa) (ah)).f1) = some r) ∧ Aside0 (kq ≤ kj61) ∧ Aside0 (Kd.S (Kd.slice 30 k30) 28 wc w.heap.size (fun k_ => some k_ ≠ ((.slice (some ⟨aW, 0, none⟩) ay.length a2) : Value).ownBlock ∧ k_ ≠ am) (.slice a5 ac.length a6) ac) ∧ Aside0 (Kd.S (Kd.slice 30 k30) 28 wc w.heap.size (fun k_ => some k_ ≠ ((.slice a5 ac.length a6) : Value).ownBlock ∧ k_ ≠ am) (.slice (some ⟨aW, 0, none⟩) ay.length a2) di) ∧ Aside0 (wc.heap[ai]? = some (.cells #[.int .i64 a0_0, (.slice aw aj.length ax)] 24 (0, 0))) ∧ Aside0 (wc.heap[al]? = some (.cells #[.int .i64 aq, (.slice a5 ac.length a6)] 24 (0, 0))) ∧ Aside0 (wc.heap[am]? = some (.cells #[.int .i64 ((rd_T30 (rd_L2 ab aa) (ah)).f0), .int .i64 ((rd_T30 (rd_L2 ab aa) (ah)).f1)] 30 (0, 0))) ∧ Aside0 (wc.heap[ar]? = some (.cells #[.int .i64 a1, (.slice (some ⟨aW, 0, none⟩) ay.length a2)] 24 (0, 0))) ∧ Aside0 (Below w.heap.size w wc))
                 case first =>
                  have H := fu.out; clear fu
                  by_cases fB : aG ≥ 0
                  ·rw [if_pos fB] at H
                   have bN : decide (0 ≤ aG) = true := decide_eq_true fB
                   clear fB
                   (first | rw [bN] | (simp only [i64_w, i32_w]; rw [bN]) | skip)
                   by_cases fC : aE < 0
                   ·rw [if_pos fC] at H
                    have eX : decide (aE < 0) = true := decide_eq_true fC
                    clear fC; have H' := zK H; clear H
                    go_wp2
                    go_meet
                    case rel => exact ⟨_, (true), (by first | rfl | (simp; done) | (simp [*]; done)), H', ⟨by have := dE.out; have := bK.out; first | omega | exact Nat.le_refl _⟩, ⟨by (with_reducible repeat (first | apply Kd.S_alloc | apply Kd.S_drewN | apply Kd.S_drew)); exact Kd.S_mono ae.out (fun _ hk => ⟨hk.1.1, hk.1.2⟩)⟩, ⟨zT au⟩, ⟨zk ad⟩, ⟨zk af⟩, ⟨zk ak⟩, ⟨zk av⟩, ⟨zb HB⟩⟩
                   ·rw [if_neg fC] at H
                    have eX : decide (aE < 0) = false := decide_eq_false fC
                    clear fC; have H' := zK H; clear H
                    go_wp2
                    go_meet
                    case rel => exact ⟨_, (decide ((wrap64 (aG + 1)) < aE)), (by first | rfl | (simp; done) | (simp [*]; done)), H', ⟨by have := dE.out; have := bK.out; first | omega | exact Nat.le_refl _⟩, ⟨by (with_reducible repeat (first | apply Kd.S_alloc | apply Kd.S_drewN | apply Kd.S_drew)); exact Kd.S_mono ae.out (fun _ hk => ⟨hk.1.1, hk.1.2⟩)⟩, ⟨zT au⟩, ⟨zk ad⟩, ⟨zk af⟩, ⟨zk ak⟩, ⟨zk av⟩, ⟨zb HB⟩⟩
                  ·rw [if_neg fB] at H
                   have bN : decide (0 ≤ aG) = false := decide_eq_false fB
                   clear fB
                   (first | rw [bN] | (simp only [i64_w, i32_w]; rw [bN]) | skip)
                   have H' := zK H; clear H
                   go_wp2
                   go_meet
                   case rel => exact ⟨_, (false), (by first | rfl | (simp; done) | (simp [*]; done)), H', ⟨by have := dE.out; have := bK.out; first | omega | exact Nat.le_refl _⟩, ⟨by (with_reducible repeat (first | apply Kd.S_alloc | apply Kd.S_drewN | apply Kd.S_drew)); exact Kd.S_mono ae.out (fun _ hk => ⟨hk.1.1, hk.1.2⟩)⟩, ⟨zT au⟩, ⟨zk ad⟩, ⟨zk af⟩, ⟨zk ak⟩, ⟨zk av⟩, ⟨zb HB⟩⟩
                 case rest =>
                  clear fu
                  try clear c1
                  try clear p1
                  try clear q1
                  try clear hx1
                  try clear hf1
                  try clear c2
                  try clear p2
                  try clear c3
                  try clear ec
                  try clear ed
                  try clear q3
                  try clear hx3
                  try clear hf3
                  try clear c4
                  try clear c5
                  try clear q5
                  try clear hx5
                  try clear hf5
                  try clear c6
                  try clear p6
                  try clear c7
                  try clear p7
                  try clear q7
                  try clear c8
                  try clear c9
                  try clear eY
                  try clear hx9
                  try clear hf9
                  try clear c10
                  try clear dG
                  try clear eZ
                  try clear dH
                  try clear e0
                  try clear dI
                  try clear eE
                  try clear dJ
                  try clear dK
                  try clear c15
                  try clear dx
                  try clear dy
                  try clear f4
                  try clear f5
                  try clear d8
                  try clear dn
                  try clear dp
                  try clear c17
                  try clear p17
                  try clear q17
                  try clear f6
                  try clear c18
                  try clear p18
                  try clear q18
                  try clear hx18
                  try clear c26
                  try clear d9
                  try clear c32
                  try clear f7
                  try clear f8
                  try clear c35
                  try clear c36
                  try clear c48
                  try clear c51
                  try clear ea
                  try clear c54
                  try clear f9
                  try clear ga
                  try clear c57
                  try clear c58
                  try clear c60
                  try clear eL
                  try clear dW
                  try clear eh
                  try clear bG
                  try clear dX
                  try clear p64
                  try clear fD
                  try clear eM
                  try clear fE
                  try clear eN
                  try clear c67
                  try clear gc
                  try clear gg
                  try clear gh
                  try clear gi
                  try clear gj
                  try clear gl
                  try clear p74
                  try clear q74
                  try clear c77
                  try clear c78
                  try clear c83
                  try clear c84
                  try clear c85
                  try clear c90
                  try clear c92
                  try clear hx92
                  try clear hf92
                  try clear fB
                  try clear bN
                  try clear fC
                  try clear eX
                  try clear bP
                  try clear bQ
                  try clear bT
                  try clear bU
                  try clear bX
                  try clear bY
                  try clear b1
                  try clear b2
                  try clear b5
                  try clear b6
                  try clear ca
                  try clear cb
                  try clear ce
                  try clear cf
                  try clear ci
                  try clear cj
                  try clear cm
                  try clear cn
                  try clear cq
                  try clear cr
                  try clear cv
                  try clear cw
                  try clear cz
                  try clear cA
                  try clear cD
                  try clear cE
                  try clear cZ
                  try clear c0
                  try clear cH
                  try clear cI
                  try clear el
                  try clear em
                  try clear ep
                  try clear er
                  try clear ex
                  try clear ey
                  try clear bR
                  try clear bS
                  try clear bV
                  try clear bW
                  try clear bZ
                  try clear b0
                  try clear b3
                  try clear b4
                  try clear b7
                  try clear b8
                  try clear cc
                  try clear cd
                  try clear cg
                  try clear ch
                  try clear ck
                  try clear cl
                  try clear co
                  try clear cp
                  try clear ct
                  try clear cu
                  try clear cx
                  try clear cy
                  try clear cB
                  try clear cC
                  try clear cF
                  try clear cG
                  try clear da
                  try clear db
                  try clear cJ
                  try clear cK
                  try clear en
                  try clear eo
                  try clear es
                  try clear et
                  try clear ez
                  try clear eA
                  try clear bp
                  try clear aX
                  try clear a3
                  try clear a4
                  try clear bc
                  try clear bd
                  try clear bq
                  try clear bs
                  try clear dm
                  try clear p1
                  try clear dx
                  try clear p17
                  try clear bB
                  try clear bI
                  try clear p18
                  try clear dz
                  try clear d1
                  try clear p2
                  try clear p6
                  try clear p64
                  try clear p74
                  try clear q1
                  try clear dy
                  try clear q17
                  try clear bC
                  try clear bJ
                  try clear q18
                  try clear dA
                  try clear d2
                  try clear q3
                  try clear d9
                  try clear q5
                  try clear ea
                  try clear q74
                  obtain ⟨kq, cP, rfl, HA, eB, ae, bO, ad, af, ak, av, HB⟩ := hcut
                  have ao := (Kd.S_reads' bO.out).1
                  rw [ao] at bO
                  (try simp only [ao]); (try simp only [ao] at ad); (try simp only [ao] at af); (try simp only [ao] at ak); (try simp only [ao] at av); (try simp only [ao] at ae)
                  cases kq with
                  | zero => exact absurd HA.out (by simp [impl_leastHops.j2])
                  | succ kj75 =>
                   have H := HA.out; clear HA
                   simp only [impl_leastHops.j2] at H
                   by_cases eC : cP = true
                   ·subst eC
                    have H1 : (impl_leastHops.l0 kj75 aa (wrap64 (aG + 1)) (ab.length : Int) (wrap64 (ag + 1)) a0_0 aj aq ac ((rd_T30 (rd_L2 ab aa) (ah)).f0) ((rd_T30 (rd_L2 ab aa) (ah)).f1)) = some r := by rw [if_pos rfl] at H; exact H
                    clear H; have H := H1; clear H1; have H' := zK H; clear H
                    go_wp2
                    (try simp only [← ao])
                    go_roundg kj75
                    case measure => have := dE.out; have := bK.out; have := eB.out; omega
                    case rel => exact ⟨(wrap64 (aG + 1)), (wrap64 (ag + 1)), (ac), (.slice a5 ac.length a6), (by first | rfl | (simp; done) | (simp [*]; done)), (by first | rfl | (simp; done) | (simp [*]; done)), H', ⟨by have := dE.out; have := bK.out; have := eB.out; omega⟩, ⟨by (try simp only [ao]); (with_reducible repeat (first | apply Kd.S_alloc | apply Kd.S_drewN | apply Kd.S_drew)); exact Kd.S_mono ae.out (fun _ hk => hk.2)⟩, ⟨by (try simp only [ao]); (with_reducible repeat (first | refine zN ?_ _ | refine zD ?_ | refine zA ?_ _)); exact ad.out⟩, ⟨by (try simp only [ao]); (with_reducible repeat (first | refine zN ?_ _ | refine zD ?_ | refine zA ?_ _)); exact af.out⟩, ⟨by (try simp only [ao]); (with_reducible repeat (first | refine zN ?_ _ | refine zD ?_ | refine zA ?_ _)); exact ak.out⟩, ⟨zb HB⟩⟩
                   ·replace eC := Bool.eq_false_iff.mpr eC
                    subst eC
                    have H1 : (impl_leastHops.l0 kj75 aa aE (ab.length : Int) (wrap64 (ag + 1)) a0_0 aj aq ac ((rd_T30 (rd_L2 ab aa) (ah)).f0) ((rd_T30 (rd_L2 ab aa) (ah)).f1)) = some r := by rw [if_neg (show ¬ (false = true) by decide)] at H; exact H
                    clear H; have H := H1; clear H1; have H' := zK H; clear H
                    go_wp2
                    (try simp only [← ao])
                    go_roundg kj75
                    case measure => have := dE.out; have := bK.out; have := eB.out; omega
                    case rel => exact ⟨(aE), (wrap64 (ag + 1)), (ac), (.slice a5 ac.length a6), (by first | rfl | (simp; done) | (simp [*]; done)), (by first | rfl | (simp; done) | (simp [*]; done)), H', ⟨by have := dE.out; have := bK.out; have := eB.out; omega⟩, ⟨by (try simp only [ao]); (with_reducible repeat (first | apply Kd.S_alloc | apply Kd.S_drewN | apply Kd.S_drew)); exact Kd.S_mono ae.out (fun _ hk => hk.2)⟩, ⟨by (try simp only [ao]); (with_reducible repeat (first | refine zN ?_ _ | refine zD ?_ | refine zA ?_ _)); exact ad.out⟩, ⟨by (try simp only [ao]); (with_reducible repeat (first | refine zN ?_ _ | refine zD ?_ | refine zA ?_ _)); exact af.out⟩, ⟨by (try simp only [ao]); (with_reducible repeat (first | refine zN ?_ _ | refine zD ?_ | refine zA ?_ _)); exact ak.out⟩, ⟨zb HB⟩⟩
                ·rw [if_neg gl] at H
                 exact absurd H (by simp)
               ·rw [if_neg gi] at H
                exact absurd H (by simp)
              ·rw [if_neg gg] at H
               exact absurd H (by simp)
          ·rw [if_neg eL] at H
           have dW : decide (ag < (ab.length : Int)) = false := decide_eq_false eL
           clear eL; obtain rfl := Option.some.inj H
           go_wp2
           go_ret
           exact ⟨by first | rfl | (simp [errW_none, errW_some] <;> rfl) | (simp only [← bA]; first | rfl | (simp [errW_none, errW_some] <;> rfl)) | (simp [*, errW_none, errW_some] <;> rfl), by repeat (first | (with_reducible first | exact HB.out | apply zB | apply zC | apply zE | refine zS ?_ ap.out | refine zS ?_ az.out | refine zS ?_ aH.out) | exact HB.out)⟩
      ·rw [if_neg eE] at H
       exact absurd H (by simp)
     ·rw [if_neg e0] at H
      exact absurd H (by simp)
    ·rw [if_neg eZ] at H
     exact absurd H (by simp)
   ·rw [if_neg c10] at H
    exact absurd H (by simp)
  ·rw [if_neg c9] at H
   exact absurd H (by simp)
def impl_LeastHops.j0 : Nat → Bool → Int → List (List (S30)) → Option (Int × Bool)
 | 0, _, _, _ => none
 | k + 1, x13, x194000, x194001 => if x13 = true then (some (0, false)) else ((impl_leastHops.f k x194000 x194001).bind fun t198 => (if t198 < 0 then (some (0, false)) else (some (t198, true))))
def impl_LeastHops.f (k : Nat) (a0_0 : Int) (l0_1 : List (List (S30))) : Option (Int × Bool) := (impl_StoreOk.f k a0_0 l0_1).bind fun t194 => (if t194 = true then ((impl_bagsIn.f k a0_0 l0_1).bind fun t195 => (impl_LeastHops.j0 k (decide ((t195.length : Int) > 5)) a0_0 l0_1)) else (impl_LeastHops.j0 k true a0_0 l0_1))
set_option maxHeartbeats 8000000 in
set_option maxRecDepth 100000 in
theorem impl_LeastHops.calls (k : Nat) (a0_0 : Int) (ad : Option Addr) (ae : Nat) (ab : List (List (S30))) (r1 : Int) (r2 : Bool) (w : World) (au : Kd.C (Kd.slice 30 k30) w ad ab.length ab) (hc0_1 : ab.length ≤ ae) (h : impl_LeastHops.f k a0_0 ab = some (r1, r2)) :
  Calls Try.prog 18 #[.agg #[.int .i64 a0_0, .slice ad ab.length ae]] w fun e w' => e = .returned (.tuple #[.int .i64 r1, .bool r2]) ∧ Below w.heap.size w w' := by
 have hu24 := Try.underlying24; have ai := zK au; have aj := zK hc0_1; clear au hc0_1
 have HB := zK (Below.refl w.heap.size w)
 have H : ((impl_StoreOk.f k a0_0 ab).bind fun an => (if an = true then ((impl_bagsIn.f k a0_0 ab).bind fun ah => (impl_LeastHops.j0 k (decide ((ah.length : Int) > 5)) a0_0 ab)) else (impl_LeastHops.j0 k true a0_0 ab))) = some (r1, r2) := h
 clear h; have HC2 := zK H; clear H
 go_enter Try.func18, Try.ntmps18
 go_upto_region 1 with (first | ((with_reducible refine gate_dst (N := 1) rfl ?_); (try (refine gate_guard (by rfl) ?_; dsimp only)); refine box_event ?hg (N := 1) ?hd (cs := #[.int .i64 a0_0, .slice ad ab.length ae]) (t := 24) ?hr ?_; (case hd => rfl); (case hg => rfl); (case hr => first | (go_simp; done) | (go_simp; rfl)); intro ac hg w3 hbox hb; have ak := zK (below_step (zb HB) hb); have al := zK (hbox); have aE := zK ((by rw [hg]; exact (below_size (zb HB)) : w.heap.size ≤ ac)); have n3_ := zK ((by rw [hg]; exact (below_size (zb HB)) : w.heap.size ≤ ac)); clear HB; have HB := ak; have aa := al; have GW193 := aE; have af := n3_; clear ak al aE n3_; clear hb hbox hg))
 (try simp only [Act.put, zp, zq, zr])
 go_cut [13] (fun v13 wc => ∃ (kq : Nat) (am : Bool), v13 = .bool am ∧ Aside0 (impl_LeastHops.j0 kq am a0_0 ab = some (r1, r2)) ∧ Aside0 (kq ≤ k) ∧ Aside0 (wc.heap[ac]? = some (.cells #[.int .i64 a0_0, (.slice ad ab.length ae)] 24 (0, 0))) ∧ Aside0 (Below w.heap.size w wc))
 case first =>
  have H := HC2.out; clear HC2; replace H := Option.bind_eq_some_iff.mp H
  obtain ⟨an, A40, H⟩ := H
  replace H : (if an = true then ((impl_bagsIn.f k a0_0 ab).bind fun ah => (impl_LeastHops.j0 k (decide ((ah.length : Int) > 5)) a0_0 ab)) else (impl_LeastHops.j0 k true a0_0 ab)) = some (r1, r2) := H
  have A4 := zK A40; clear A40
  by_cases c5 : an = true
  ·subst c5
   have H1 : ((impl_bagsIn.f k a0_0 ab).bind fun ah => (impl_LeastHops.j0 k (decide ((ah.length : Int) > 5)) a0_0 ab)) = some (r1, r2) := by rw [if_pos rfl] at H; exact H
   clear H; have H := H1; clear H1; replace H := Option.bind_eq_some_iff.mp H
   obtain ⟨ah, A60, H⟩ := H
   replace H : (impl_LeastHops.j0 k (decide ((ah.length : Int) > 5)) a0_0 ab) = some (r1, r2) := H
   have A6 := zK A60; clear A60; have H' := zK H; clear H
   have av : w3.cell? ⟨ac, 0, none⟩ = some (.int .i64 a0_0) := (blk_cell aa.out 0).trans rfl
   have aw : w3.cell? ⟨ac, 1, none⟩ = some (.slice ad ab.length ae) := (blk_cell aa.out 1).trans rfl
   have ax := blk_frozen aa.out 0; have ay := blk_frozen aa.out 1
   go_wp2_with (first | ((with_reducible refine gate_callee (f := 22) rfl ?_); refine goesL_ (some 6) rfl rfl Try.func22 (by kernel_rfl) rfl #[.agg #[.int .i64 a0_0, .slice ad ab.length ae]] rfl (by (try simp only [List.map_toArray, List.map_cons, List.map_nil]); first | done | rfl | (simp only [List.length_drop, List.length_take]; rfl)) ?_; (with_reducible refine (impl_StoreOk.calls k a0_0 _ _ ab true _ ?side1 ?side2 A4.out).mono ?_); (case side1 => repeat (first | exact (Kd.C_below ai.out HB.out) | (with_reducible refine Kd.C_alloc ?_ _) | (with_reducible refine Kd.C_drewN ?_ _) | (with_reducible refine Kd.C_drew ?_))); (case side2 => exact aj.out); rintro e w8 ⟨rfl, hb⟩; refine ⟨_, rfl, ?_⟩; have ak := zK (blk_below (g := ac) (o := .cells #[.int .i64 a0_0, .slice ad ab.length ae] 24 (0, 0)) (zk aa) hb); have al := zK (below_step (zb HB) hb); clear aa; clear HB; have aa := ak; have HB := al; clear ak al; (try clear hb); have az : w8.cell? ⟨ac, 0, none⟩ = some (.int .i64 a0_0) := (blk_cell aa.out 0).trans rfl; have aA : w8.cell? ⟨ac, 1, none⟩ = some (.slice ad ab.length ae) := (blk_cell aa.out 1).trans rfl; have aB := blk_frozen aa.out 0; have aC := blk_frozen aa.out 1) | (go_at_call 50; (with_reducible refine (impl_bagsIn.calls k a0_0 _ _ ab ah _ ?side1 ?side2 A6.out).mono ?_); (case side1 => repeat (first | exact (Kd.C_below ai.out HB.out) | (with_reducible refine Kd.C_alloc ?_ _) | (with_reducible refine Kd.C_drewN ?_ _) | (with_reducible refine Kd.C_drew ?_))); (case side2 => exact aj.out); rintro e w10 ⟨v196, rfl, ho0, hb⟩; have ak := zK (Kd.R_lower ho0 (below_size (zb HB))); have al := zK (blk_below (g := ac) (o := .cells #[.int .i64 a0_0, .slice ad ab.length ae] 24 (0, 0)) (zk aa) hb); have aE := zK (below_step (zb HB) hb); clear aa; clear HB; have aF := ak; have aa := al; have HB := aE; clear ak al aE; (try clear hb); (try clear ho0); obtain ⟨Ao11, co11, eo11⟩ := Kd.R_slice aF.out; subst eo11))
   go_meet
   case rel => exact ⟨_, (decide ((ah.length : Int) > 5)), (by first | rfl | (simp; done) | (simp [*]; done)), H', ⟨by first | omega | exact Nat.le_refl _⟩, ⟨zk aa⟩, ⟨zb HB⟩⟩
  ·replace c5 := Bool.eq_false_iff.mpr c5
   subst c5
   have H1 : (impl_LeastHops.j0 k true a0_0 ab) = some (r1, r2) := by rw [if_neg (show ¬ (false = true) by decide)] at H; exact H
   clear H; have H := H1; clear H1; have H' := zK H; clear H
   have ao : w3.cell? ⟨ac, 0, none⟩ = some (.int .i64 a0_0) := (blk_cell aa.out 0).trans rfl
   have ap : w3.cell? ⟨ac, 1, none⟩ = some (.slice ad ab.length ae) := (blk_cell aa.out 1).trans rfl
   have aq := blk_frozen aa.out 0; have ar := blk_frozen aa.out 1
   go_wp2_with (first | ((with_reducible refine gate_callee (f := 22) rfl ?_); refine goesL_ (some 6) rfl rfl Try.func22 (by kernel_rfl) rfl #[.agg #[.int .i64 a0_0, .slice ad ab.length ae]] rfl (by (try simp only [List.map_toArray, List.map_cons, List.map_nil]); first | done | rfl | (simp only [List.length_drop, List.length_take]; rfl)) ?_; (with_reducible refine (impl_StoreOk.calls k a0_0 _ _ ab false _ ?side1 ?side2 A4.out).mono ?_); (case side1 => repeat (first | exact (Kd.C_below ai.out HB.out) | (with_reducible refine Kd.C_alloc ?_ _) | (with_reducible refine Kd.C_drewN ?_ _) | (with_reducible refine Kd.C_drew ?_))); (case side2 => exact aj.out); rintro e w13 ⟨rfl, hb⟩; refine ⟨_, rfl, ?_⟩; have ak := zK (blk_below (g := ac) (o := .cells #[.int .i64 a0_0, .slice ad ab.length ae] 24 (0, 0)) (zk aa) hb); have al := zK (below_step (zb HB) hb); clear aa; clear HB; have aa := ak; have HB := al; clear ak al; (try clear hb)))
   go_meet
   case rel => exact ⟨_, (true), (by first | rfl | (simp; done) | (simp [*]; done)), H', ⟨by first | omega | exact Nat.le_refl _⟩, ⟨zk aa⟩, ⟨zb HB⟩⟩
 case rest =>
  clear HC2
  try clear c1
  try clear c2
  try clear p2
  try clear c5
  try clear ao
  try clear ap
  try clear av
  try clear aw
  try clear az
  try clear aA
  try clear aq
  try clear ar
  try clear ax
  try clear ay
  try clear aB
  try clear aC
  obtain ⟨kq, am, rfl, HA, HJ1, aa, HB⟩ := hcut
  cases kq with
  | zero => exact absurd HA.out (by simp [impl_LeastHops.j0])
  | succ kj1 =>
   have H := HA.out; clear HA
   simp only [impl_LeastHops.j0] at H
   by_cases c14 : am = true
   ·subst c14
    have H1 : (some (0, false)) = some (r1, r2) := by rw [if_pos rfl] at H; exact H
    clear H; have H := H1; clear H1
    simp only [Option.some.injEq, Prod.mk.injEq] at H
    obtain ⟨rfl, rfl⟩ := H
    go_wp2
    go_ret2
    exact ⟨by first | rfl | (simp [errW_none, errW_some] <;> rfl) | (simp [*, errW_none, errW_some] <;> rfl), by repeat (first | (with_reducible first | exact HB.out | apply zB | apply zC | apply zE | refine zS ?_ af.out) | exact HB.out)⟩
   ·replace c14 := Bool.eq_false_iff.mpr c14
    subst c14
    have H1 : ((impl_leastHops.f kj1 a0_0 ab).bind fun ag => (if ag < 0 then (some (0, false)) else (some (ag, true)))) = some (r1, r2) := by rw [if_neg (show ¬ (false = true) by decide)] at H; exact H
    clear H; have H := H1; clear H1; replace H := Option.bind_eq_some_iff.mp H
    obtain ⟨ag, aG, H⟩ := H
    replace H : (if ag < 0 then (some (0, false)) else (some (ag, true))) = some (r1, r2) := H
    have A15 := zK aG; clear aG
    by_cases aD : ag < 0
    ·rw [if_pos aD] at H
     have aH : decide (ag < 0) = true := decide_eq_true aD
     clear aD
     simp only [Option.some.injEq, Prod.mk.injEq] at H
     obtain ⟨rfl, rfl⟩ := H
     have hcz17_0 : wc.cell? ⟨ac, 0, none⟩ = some (.int .i64 a0_0) := (blk_cell aa.out 0).trans rfl
     have hcz17_1 : wc.cell? ⟨ac, 1, none⟩ = some (.slice ad ab.length ae) := (blk_cell aa.out 1).trans rfl
     have hfz17_0 := blk_frozen aa.out 0; have hfz17_1 := blk_frozen aa.out 1
     go_wp2_with (first | ((with_reducible refine gate_callee (f := 51) rfl ?_); refine goesL_ (some 15) rfl rfl Try.func51 (by kernel_rfl) rfl #[.agg #[.int .i64 a0_0, .slice ad ab.length ae]] rfl (by (try simp only [List.map_toArray, List.map_cons, List.map_nil]); first | done | rfl | (simp only [List.length_drop, List.length_take]; rfl)) ?_; (with_reducible refine (impl_leastHops.calls kj1 a0_0 _ _ ab ag _ ?side1 ?side2 A15.out).mono ?_); (case side1 => repeat (first | exact (Kd.C_below ai.out HB.out) | (with_reducible refine Kd.C_alloc ?_ _) | (with_reducible refine Kd.C_drewN ?_ _) | (with_reducible refine Kd.C_drew ?_))); (case side2 => exact aj.out); rintro e w18 ⟨rfl, hb⟩; refine ⟨_, rfl, ?_⟩; have ak := zK (blk_below (g := ac) (o := .cells #[.int .i64 a0_0, .slice ad ab.length ae] 24 (0, 0)) (zk aa) hb); have al := zK (below_step (zb HB) hb); clear aa; clear HB; have aa := ak; have HB := al; clear ak al; (try clear hb)))
     go_ret2
     exact ⟨by first | rfl | (simp [errW_none, errW_some] <;> rfl) | (simp [*, errW_none, errW_some] <;> rfl), by repeat (first | (with_reducible first | exact HB.out | apply zB | apply zC | apply zE | refine zS ?_ af.out) | exact HB.out)⟩
    ·rw [if_neg aD] at H
     have aH : decide (ag < 0) = false := decide_eq_false aD
     clear aD
     simp only [Option.some.injEq, Prod.mk.injEq] at H
     obtain ⟨rfl, rfl⟩ := H
     have hcz19_0 : wc.cell? ⟨ac, 0, none⟩ = some (.int .i64 a0_0) := (blk_cell aa.out 0).trans rfl
     have hcz19_1 : wc.cell? ⟨ac, 1, none⟩ = some (.slice ad ab.length ae) := (blk_cell aa.out 1).trans rfl
     have hfz19_0 := blk_frozen aa.out 0; have hfz19_1 := blk_frozen aa.out 1
     go_wp2_with (first | ((with_reducible refine gate_callee (f := 51) rfl ?_); refine goesL_ (some 15) rfl rfl Try.func51 (by kernel_rfl) rfl #[.agg #[.int .i64 a0_0, .slice ad ab.length ae]] rfl (by (try simp only [List.map_toArray, List.map_cons, List.map_nil]); first | done | rfl | (simp only [List.length_drop, List.length_take]; rfl)) ?_; (with_reducible refine (impl_leastHops.calls kj1 a0_0 _ _ ab ag _ ?side1 ?side2 A15.out).mono ?_); (case side1 => repeat (first | exact (Kd.C_below ai.out HB.out) | (with_reducible refine Kd.C_alloc ?_ _) | (with_reducible refine Kd.C_drewN ?_ _) | (with_reducible refine Kd.C_drew ?_))); (case side2 => exact aj.out); rintro e w20 ⟨rfl, hb⟩; refine ⟨_, rfl, ?_⟩; have ak := zK (blk_below (g := ac) (o := .cells #[.int .i64 a0_0, .slice ad ab.length ae] 24 (0, 0)) (zk aa) hb); have al := zK (below_step (zb HB) hb); clear aa; clear HB; have aa := ak; have HB := al; clear ak al; (try clear hb)))
     go_ret2
     exact ⟨by first | rfl | (simp [errW_none, errW_some] <;> rfl) | (simp [*, errW_none, errW_some] <;> rfl), by repeat (first | (with_reducible first | exact HB.out | apply zB | apply zC | apply zE | refine zS ?_ af.out) | exact HB.out)⟩
end Go.Proofs.Ytheckjlldkkceaa.Px
