import Derived.Test.YtheckjlldkkceaaZnPx0
import Derived.Test.YtheckjlldkkceaaZnPx8
namespace Go.Proofs.Ytheckjlldkkceaa.Px
open Go.RowKit Go.Proofs.YtheckjlldkkceaaW.PrintWords Go.Proofs.YtheckjlldkkceaaW.PrintLast Go.Proofs.YtheckjlldkkceaaW.PrintMore
attribute [local go_sem] max2_int min2_int max_two min_two max_three min_three max_four min_four   
set_option linter.unusedVariables false
set_option linter.unusedSimpArgs false
def spec_l06Hop.f (k : Nat) (a0_0 : Int) (l0_1 : List (List (S30))) (a1 : Int) (a2 : Int) : Option (Int × (List (List (S30)))) := (spec_l06Copy.f k a0_0 l0_1).bind fun bt430 => (if 0 ≤ a1 then (if a1 < (bt430.2.length : Int) then (if 0 ≤ a2 then (if a2 < (bt430.2.length : Int) then (if 0 ≤ (wrap64 (((rd_L2 bt430.2 a1).length : Int) - 1)) then (if (wrap64 (((rd_L2 bt430.2 a1).length : Int) - 1)) < ((rd_L2 bt430.2 a1).length : Int) then (if a2 = a1 then (none) else (if (rd_L2 bt430.2 a2).length < 8796093022208 then ((some (bt430.2.set (a2 : Int).toNat ((rd_L2 bt430.2 a2) ++ [(⟨(rd_T30 (rd_L2 bt430.2 a1) (wrap64 (((rd_L2 bt430.2 a1).length : Int) - 1))).f0, (rd_T30 (rd_L2 bt430.2 a1) (wrap64 (((rd_L2 bt430.2 a1).length : Int) - 1))).f1⟩ : S30)]) : List (List (S30)))).bind fun y442 => (if (wrap64 (((rd_L2 bt430.2 a1).length : Int) - 1)) ≤ ((rd_L2 y442 a1).length : Int) then (some (bt430.1, (y442.set (a1 : Int).toNat ((rd_L2 y442 a1).take ((wrap64 (((rd_L2 bt430.2 a1).length : Int) - 1)) : Int).toNat)))) else (none))) else (none))) else (none)) else (none)) else (none)) else (none)) else (none)) else (none))
def spec_l06Hop.T3 : Bool × List (List Nat × List Nat) := (true, [([], []), ([0], [0]), ([], []), ([], []), ([3], [3]), ([], []), ([4, 5], [4, 5]), ([6], [6]), ([], []), ([8], [8]), ([], []), ([9, 10], [9, 10]), ([11], [11]), ([], []), ([12, 13], [12, 13]), ([14], [14]), ([15], [15]), ([7, 16], [7, 16]), ([1, 2, 0, 1, 2, 3, 4, 5, 6, 7, 8, 9, 10, 11, 12, 13, 14, 15, 16, 17], [1, 2]), ([18, 17, 17, 0, 1, 2, 3, 4, 5, 6, 7, 8, 9, 10, 11, 12, 13, 14, 15, 16, 17], [17, 18])])
def spec_l06Hop.B3 : List Nat := [0, 1, 0, 0, 8, 0, 56, 120, 0, 256, 0, 1792, 3840, 0, 16128, 32512, 65280, 131064, 262143, 524287]
theorem spec_l06Hop.tab3 : rtab .any (opsOf Try.f76 3) = spec_l06Hop.T3 := by kernel_rfl
theorem spec_l06Hop.bits3 : waitsOk spec_l06Hop.T3.2 spec_l06Hop.B3 = true := by kernel_rfl
def spec_l06Hop.T4 : Bool × List (List Nat × List Nat) := (true, [([], []), ([0], [0]), ([], []), ([], []), ([3], [3]), ([], []), ([4, 5], [4, 5]), ([6], [6]), ([], []), ([7, 8], [7, 8]), ([1, 2, 0, 1, 2, 3, 4, 5, 6, 7, 8, 9], [1, 2]), ([10, 9, 0, 1, 2, 3, 4, 5, 6, 7, 8, 9], [9, 10])])
def spec_l06Hop.B4 : List Nat := [0, 1, 0, 0, 8, 0, 56, 120, 0, 504, 1023, 2047]
theorem spec_l06Hop.tab4 : rtab .any (opsOf Try.f76 4) = spec_l06Hop.T4 := by kernel_rfl
theorem spec_l06Hop.bits4 : waitsOk spec_l06Hop.T4.2 spec_l06Hop.B4 = true := by kernel_rfl
set_option maxHeartbeats 8000000 in
set_option maxRecDepth 100000 in
theorem spec_l06Hop.calls (k : Nat) (a0_0 : Int) (aw : Option Addr) (ax : Nat) (ap : List (List (S30))) (a1 : Int) (a2 : Int) (r1 : Int) (r2 : List (List (S30))) (w : World) (b2 : Kd.C (Kd.slice 30 k30) w aw ap.length ap) (hc0_1 : ap.length ≤ ax) (h : spec_l06Hop.f k a0_0 ap a1 a2 = some (r1, r2)) :
  Calls Try.prog 76 #[.agg #[.int .i64 a0_0, .slice aw ap.length ax], .int .i64 a1, .int .i64 a2] w fun e w' => ∃ v1_ : Value, e = .returned (.agg #[.int .i64 r1, v1_]) ∧ Kd.S (Kd.slice 30 k30) 28 w' w.heap.size (fun _ => True) v1_ r2 ∧ Below w.heap.size w w' := by
 have hu24 := Try.underlying24; have hu30 := Try.underlying30; have cE := zK b2; have cF := zK hc0_1; clear b2 hc0_1
 have HB := zK (Below.refl w.heap.size w)
 have H : ((spec_l06Copy.f k a0_0 ap).bind fun bt430 => (if 0 ≤ a1 then (if a1 < (bt430.2.length : Int) then (if 0 ≤ a2 then (if a2 < (bt430.2.length : Int) then (if 0 ≤ (wrap64 (((rd_L2 bt430.2 a1).length : Int) - 1)) then (if (wrap64 (((rd_L2 bt430.2 a1).length : Int) - 1)) < ((rd_L2 bt430.2 a1).length : Int) then (if a2 = a1 then (none) else (if (rd_L2 bt430.2 a2).length < 8796093022208 then ((some (bt430.2.set (a2 : Int).toNat ((rd_L2 bt430.2 a2) ++ [(⟨(rd_T30 (rd_L2 bt430.2 a1) (wrap64 (((rd_L2 bt430.2 a1).length : Int) - 1))).f0, (rd_T30 (rd_L2 bt430.2 a1) (wrap64 (((rd_L2 bt430.2 a1).length : Int) - 1))).f1⟩ : S30)]) : List (List (S30)))).bind fun ah => (if (wrap64 (((rd_L2 bt430.2 a1).length : Int) - 1)) ≤ ((rd_L2 ah a1).length : Int) then (some (bt430.1, (ah.set (a1 : Int).toNat ((rd_L2 ah a1).take ((wrap64 (((rd_L2 bt430.2 a1).length : Int) - 1)) : Int).toNat)))) else (none))) else (none))) else (none)) else (none)) else (none)) else (none)) else (none)) else (none))) = some (r1, r2) := h
 clear h; replace H := Option.bind_eq_some_iff.mp H
 obtain ⟨⟨aq, aa⟩, A40, H⟩ := H
 replace H : (if 0 ≤ a1 then (if a1 < (aa.length : Int) then (if 0 ≤ a2 then (if a2 < (aa.length : Int) then (if 0 ≤ (wrap64 (((rd_L2 aa a1).length : Int) - 1)) then (if (wrap64 (((rd_L2 aa a1).length : Int) - 1)) < ((rd_L2 aa a1).length : Int) then (if a2 = a1 then (none) else (if (rd_L2 aa a2).length < 8796093022208 then ((some (aa.set (a2 : Int).toNat ((rd_L2 aa a2) ++ [(⟨(rd_T30 (rd_L2 aa a1) (wrap64 (((rd_L2 aa a1).length : Int) - 1))).f0, (rd_T30 (rd_L2 aa a1) (wrap64 (((rd_L2 aa a1).length : Int) - 1))).f1⟩ : S30)]) : List (List (S30)))).bind fun ah => (if (wrap64 (((rd_L2 aa a1).length : Int) - 1)) ≤ ((rd_L2 ah a1).length : Int) then (some (aq, (ah.set (a1 : Int).toNat ((rd_L2 ah a1).take ((wrap64 (((rd_L2 aa a1).length : Int) - 1)) : Int).toNat)))) else (none))) else (none))) else (none)) else (none)) else (none)) else (none)) else (none)) else (none)) = some (r1, r2) := H
 have A4 := zK A40; clear A40
 by_cases c5 : 0 ≤ a1
 ·rw [if_pos c5] at H
  have c5b0 : decide (0 ≤ a1) = true := decide_eq_true c5
  clear c5
  by_cases c6 : a1 < (aa.length : Int)
  ·rw [if_pos c6] at H
   have c6b0 : decide (a1 < (aa.length : Int)) = true := decide_eq_true c6
   clear c6
   by_cases c7 : 0 ≤ a2
   ·rw [if_pos c7] at H
    have c7b0 : decide (0 ≤ a2) = true := decide_eq_true c7
    clear c7
    by_cases c8 : a2 < (aa.length : Int)
    ·rw [if_pos c8] at H
     have c8b0 : decide (a2 < (aa.length : Int)) = true := decide_eq_true c8
     clear c8
     obtain ⟨ar, bB⟩ : ∃ j_ : Int, (wrap64 (((rd_L2 aa a1).length : Int) - 1)) = j_ := ⟨_, rfl⟩
     replace H : (if 0 ≤ (ar) then (if (ar) < ((rd_L2 aa a1).length : Int) then (if a2 = a1 then (none) else (if (rd_L2 aa a2).length < 8796093022208 then ((some (aa.set (a2 : Int).toNat ((rd_L2 aa a2) ++ [(⟨(rd_T30 (rd_L2 aa a1) (ar)).f0, (rd_T30 (rd_L2 aa a1) (ar)).f1⟩ : S30)]) : List (List (S30)))).bind fun ah => (if (ar) ≤ ((rd_L2 ah a1).length : Int) then (some (aq, (ah.set (a1 : Int).toNat ((rd_L2 ah a1).take ((ar) : Int).toNat)))) else (none))) else (none))) else (none)) else (none)) = some (r1, r2) := by first | (rw [bB] at H; exact H) | (simp only [bB] at H ⊢; exact H)
     (try rw [bB] at A4)
     have hji9w : (IntKind.i64.wrap (((rd_L2 aa a1).length : Int) - 1)) = ar := (i64_w _).trans bB
     by_cases c10 : 0 ≤ (ar)
     ·rw [if_pos c10] at H
      have c10b0 : decide (0 ≤ (ar)) = true := decide_eq_true c10
      clear c10
      by_cases c11 : (ar) < ((rd_L2 aa a1).length : Int)
      ·rw [if_pos c11] at H
       have c11b0 : decide ((ar) < ((rd_L2 aa a1).length : Int)) = true := decide_eq_true c11
       clear c11
       by_cases c12 : a2 = a1
       ·rw [if_pos c12] at H
        exact absurd H (by simp)
       ·rw [if_neg c12] at H
        have c12b0 : (a2 == a1) = false := beq_eq_false_iff_ne.mpr c12
        have c12b1 : (a2 != a1) = true := bne_iff_ne.mpr c12
        by_cases c13 : (rd_L2 aa a2).length < 8796093022208
        ·rw [if_pos c13] at H
         have cG := zK c13; clear c13
         obtain ⟨aW, a8⟩ : ∃ y_ : List (S30), y_ = ((rd_L2 aa a2) ++ [(⟨(rd_T30 (rd_L2 aa a1) (ar)).f0, (rd_T30 (rd_L2 aa a1) (ar)).f1⟩ : S30)]) := ⟨_, rfl⟩
         replace H : ((some (aa.set (a2 : Int).toNat aW : List (List (S30)))).bind fun ah => (if (ar) ≤ ((rd_L2 ah a1).length : Int) then (some (aq, (ah.set (a1 : Int).toNat ((rd_L2 ah a1).take ((ar) : Int).toNat)))) else (none))) = some (r1, r2) := by first | (rw [a8]; with_reducible exact H) | (have H2_ := (Option.bind_some _ _).symm.trans H; rw [a8]; with_reducible exact H2_) | (have H2_ := (Option.bind_some _ _).symm.trans H; with_reducible exact H2_) | with_reducible exact H | (rw [a8]; exact H) | exact H
         have Ny439 := zK a8; clear a8
         obtain ⟨ah, a9⟩ : ∃ y_ : List (List (S30)), y_ = (aa.set (a2 : Int).toNat aW) := ⟨_, rfl⟩
         replace H : (if (ar) ≤ ((rd_L2 ah a1).length : Int) then (some (aq, (ah.set (a1 : Int).toNat ((rd_L2 ah a1).take ((ar) : Int).toNat)))) else (none)) = some (r1, r2) := by first | (rw [a9]; with_reducible exact H) | (have H2_ := (Option.bind_some _ _).symm.trans H; rw [a9]; with_reducible exact H2_) | (have H2_ := (Option.bind_some _ _).symm.trans H; with_reducible exact H2_) | with_reducible exact H | (rw [a9]; exact H) | exact H
         have Ny442 := zK a9; clear a9
         have c15b0 := eq_true (zd : 0 ≤ (ar))
         by_cases cH : (ar) ≤ ((rd_L2 ah a1).length : Int)
         ·rw [if_pos cH] at H
          have c16b0 := eq_true cH
          have c16b1 : decide ((ar) ≤ ((rd_L2 ah a1).length : Int)) = true := decide_eq_true cH
          clear cH
          obtain ⟨aE, ba⟩ : ∃ y_ : List (S30), y_ = ((rd_L2 ah a1).take ((ar) : Int).toNat) := ⟨_, rfl⟩
          replace H : (some (aq, (ah.set (a1 : Int).toNat aE))) = some (r1, r2) := by first | (rw [ba]; with_reducible exact H) | (have H2_ := (Option.bind_some _ _).symm.trans H; rw [ba]; with_reducible exact H2_) | (have H2_ := (Option.bind_some _ _).symm.trans H; with_reducible exact H2_) | with_reducible exact H | (rw [ba]; exact H) | exact H
          have Ny444 := zK ba; clear ba
          obtain ⟨cI, bb⟩ : ∃ y_ : List (List (S30)), y_ = (ah.set (a1 : Int).toNat aE) := ⟨_, rfl⟩
          replace H : (some (aq, cI)) = some (r1, r2) := by first | (rw [bb]; with_reducible exact H) | (have H2_ := (Option.bind_some _ _).symm.trans H; rw [bb]; with_reducible exact H2_) | (have H2_ := (Option.bind_some _ _).symm.trans H; with_reducible exact H2_) | with_reducible exact H | (rw [bb]; exact H) | exact H
          have Ny448 := zK bb; clear bb
          simp only [Option.some.injEq, Prod.mk.injEq] at H
          obtain ⟨rfl, rfl⟩ := H
          go_enter Try.func76, Try.ntmps76
          try go_wp2_with (first | ((with_reducible refine gate_dst (N := 3) rfl ?_); refine box_event ?hg (N := 3) ?hd (cs := #[.int .i64 a0_0, .slice aw ap.length ax]) (t := 24) ?hr ?_; (case hd => rfl); (case hg => rfl); (case hr => first | (go_simp; done) | (go_simp; rfl)); intro aj hg w18 hbox hb; have az := zK (below_step (zb HB) hb); have aA := zK (hbox); have aC := zK ((by rw [hg]; exact (below_size (zb HB)) : w.heap.size ≤ aj)); have aD := zK ((by rw [hg]; exact (below_size (zb HB)) : w.heap.size ≤ aj)); clear HB; have HB := az; have ad := aA; have GW428 := aC; have an := aD; clear az aA aC aD; clear hb hbox hg) | ((with_reducible refine gate_dst (N := 6) rfl ?_); refine box_event ?hg (N := 6) ?hd (cs := #[.int .i64 0, .slice none 0 0]) (t := 24) ?hr ?_; (case hd => rfl); (case hg => rfl); (case hr => first | (go_simp; done) | (go_simp; rfl)); intro ak hg w19 hbox hb; have az := zK (blk_below (g := aj) (o := .cells #[.int .i64 a0_0, .slice aw ap.length ax] 24 (0, 0)) (zk ad) hb); have aA := zK (below_step (zb HB) hb); have aC := zK (hbox); have aD := zK ((by rw [hg]; exact (below_size (zb HB)) : w.heap.size ≤ ak)); have aT := zK ((by rw [hg]; exact (below_size (zb HB)) : w.heap.size ≤ ak)); have bC := zK ((by rw [hg]; exact Nat.ne_of_lt (blk_lt (g := aj) (o := .cells #[.int .i64 a0_0, .slice aw ap.length ax] 24 (0, 0)) (zk ad)) : aj ≠ ak)); have b3 := zK ((by rw [hg]; exact Nat.ne_of_gt (blk_lt (g := aj) (o := .cells #[.int .i64 a0_0, .slice aw ap.length ax] 24 (0, 0)) (zk ad)) : ak ≠ aj)); clear ad; clear HB; have ad := az; have HB := aA; have ae := aC; have GW429 := aD; have av := aT; have bw := bC; have bx := b3; clear az aA aC aD aT bC b3; clear hb hbox hg; have hnb20 := bw.out; have hnc20 := bx.out; have hcz21_0 : w19.cell? ⟨aj, 0, none⟩ = some (.int .i64 a0_0) := (blk_cell ad.out 0).trans rfl; have hcz21_1 : w19.cell? ⟨aj, 1, none⟩ = some (.slice aw ap.length ax) := (blk_cell ad.out 1).trans rfl; have hfz21_0 := blk_frozen ad.out 0; have hfz21_1 := blk_frozen ad.out 1) | ((with_reducible refine gate_callee (f := 69) rfl ?_); refine goesL_ (some 10) rfl rfl Try.func69 (by kernel_rfl) rfl #[.agg #[.int .i64 a0_0, .slice aw ap.length ax]] rfl (by (try simp only [List.map_toArray, List.map_cons, List.map_nil]); first | done | rfl | (simp only [List.length_drop, List.length_take]; rfl)) ?_; (with_reducible refine (spec_l06Copy.calls k a0_0 _ _ ap aq aa _ ?side1 ?side2 A4.out).mono ?_); (case side1 => repeat (first | exact (Kd.C_below cE.out HB.out) | (with_reducible refine Kd.C_alloc ?_ _) | (with_reducible refine Kd.C_drewN ?_ _) | (with_reducible refine Kd.C_drew ?_))); (case side2 => exact cF.out); rintro e w22 ⟨v432, rfl, ho0, hb⟩; refine ⟨_, rfl, ?_⟩; have az := zK (Kd.S_lower ho0 (below_size (zb HB))); have aA := zK (blk_below (g := aj) (o := .cells #[.int .i64 a0_0, .slice aw ap.length ax] 24 (0, 0)) (zk ad) hb); have aC := zK (blk_below (g := ak) (o := .cells #[.int .i64 0, .slice none 0 0] 24 (0, 0)) (zk ae) hb); have aD := zK (below_step (zb HB) hb); clear ad; clear ae; clear HB; have ab := az; have ad := aA; have ae := aC; have HB := aD; clear az aA aC aD; (try clear hb); (try clear hk); (try clear ho0)) | ((with_reducible refine gate_dst (N := 7) rfl ?_); refine box_event ?hg (N := 7) ?hd (cs := #[.int .i64 0, .slice none 0 0]) (t := 24) ?hr ?_; (case hd => rfl); (case hg => rfl); (case hr => first | (go_simp; done) | (go_simp; rfl)); intro ag hg w23 hbox hb; have az := zK (Kd.S_below (zT ab) hb); have aA := zK (blk_below (g := aj) (o := .cells #[.int .i64 a0_0, .slice aw ap.length ax] 24 (0, 0)) (zk ad) hb); have aC := zK (blk_below (g := ak) (o := .cells #[.int .i64 0, .slice none 0 0] 24 (0, 0)) (zk ae) hb); have aD := zK (below_step (zb HB) hb); have aT := zK (hbox); have bC := zK ((by rw [hg]; exact (below_size (zb HB)) : w.heap.size ≤ ag)); have b3 := zK ((by rw [hg]; exact (below_size (zb HB)) : w.heap.size ≤ ag)); have n7_ := zK ((by rw [hg]; exact Nat.ne_of_lt (blk_lt (g := aj) (o := .cells #[.int .i64 a0_0, .slice aw ap.length ax] 24 (0, 0)) (zk ad)) : aj ≠ ag)); have n8_ := zK ((by rw [hg]; exact Nat.ne_of_gt (blk_lt (g := aj) (o := .cells #[.int .i64 a0_0, .slice aw ap.length ax] 24 (0, 0)) (zk ad)) : ag ≠ aj)); have n9_ := zK ((by rw [hg]; exact Nat.ne_of_lt (blk_lt (g := ak) (o := .cells #[.int .i64 0, .slice none 0 0] 24 (0, 0)) (zk ae)) : ak ≠ ag)); have cJ := zK ((by rw [hg]; exact Nat.ne_of_gt (blk_lt (g := ak) (o := .cells #[.int .i64 0, .slice none 0 0] 24 (0, 0)) (zk ae)) : ag ≠ ak)); clear ab; clear ad; clear ae; clear HB; have ab := az; have ad := aA; have ae := aC; have HB := aD; have ac := aT; have GW434 := bC; have aX := b3; have aQ := n7_; have bz := n8_; have aR := n9_; have bA := cJ; clear az aA aC aD aT bC b3 n7_ n8_ n9_ cJ; clear hb hbox hg; have hnb24 := bz.out; have hnc24 := aQ.out; have hnb25 := bA.out; have hnc25 := aR.out; have hcz26_0 : w23.cell? ⟨ag, 0, none⟩ = some (.int .i64 0) := (blk_cell ac.out 0).trans rfl; have hcz26_1 : w23.cell? ⟨ag, 1, none⟩ = some (.slice none 0 0) := (blk_cell ac.out 1).trans rfl; have hfz26_0 := blk_frozen ac.out 0; have hfz26_1 := blk_frozen ac.out 1; obtain ⟨bD, ay, eo27⟩ := Kd.S_slice ab.out; subst eo27) | ((with_reducible refine gate_store (t := 24) (p := 7) rfl ?_); refine store_event (t := 24) (p := 7) (v := ?vo_w28) (w1 := ((w23.setCell ⟨ag, 0, none⟩ (.int .i64 aq)).setCell ⟨ag, 1, none⟩ (.slice bD aa.length ay))) ?hg ?ho ?hn ?hr ?_; (case ho => rfl); (case hg => rfl); (case hn => rfl); (case hr => first | (go_simp; done) | (go_simp; rfl)); intro b4 hw; have az : Aside0 (Kd.S (Kd.slice 30 k30) 28 b4 w.heap.size (fun _ => True) (.slice bD aa.length ay) aa) := ⟨(by rw [hw]; exact (by (with_reducible repeat (first | apply Kd.S_alloc | apply Kd.S_drewN | apply Kd.S_drew)); exact Kd.S_mono (Kd.S_far (p := ⟨ag, 1, none⟩) (Kd.S_far (p := ⟨ag, 0, none⟩) (Kd.S_types ab.out ac.out (by decide)) (fun _ hk => hk.2) (.int .i64 aq)) (fun _ hk => hk.2) (.slice bD aa.length ay)) (fun _ hk => trivial)))⟩; have aA : Aside0 (b4.heap[aj]? = some (.cells #[.int .i64 a0_0, .slice aw ap.length ax] 24 (0, 0))) := ⟨(by rw [hw]; exact (by (with_reducible repeat (first | refine zN ?_ _ | refine zD ?_ | refine zA ?_ _)); refine blk_far ?_ aQ.out _; (with_reducible repeat (first | refine zN ?_ _ | refine zD ?_ | refine zA ?_ _)); refine blk_far ?_ aQ.out _; (with_reducible repeat (first | refine zN ?_ _ | refine zD ?_ | refine zA ?_ _)); exact ad.out))⟩; have aC : Aside0 (b4.heap[ak]? = some (.cells #[.int .i64 0, .slice none 0 0] 24 (0, 0))) := ⟨(by rw [hw]; exact (by (with_reducible repeat (first | refine zN ?_ _ | refine zD ?_ | refine zA ?_ _)); refine blk_far ?_ aR.out _; (with_reducible repeat (first | refine zN ?_ _ | refine zD ?_ | refine zA ?_ _)); refine blk_far ?_ aR.out _; (with_reducible repeat (first | refine zN ?_ _ | refine zD ?_ | refine zA ?_ _)); exact ae.out))⟩; have aD : Aside0 (b4.heap[ag]? = some (.cells #[.int .i64 aq, .slice bD aa.length ay] 24 (0, 0))) := ⟨(by rw [hw]; exact (by (with_reducible repeat (first | refine zN ?_ _ | refine zD ?_ | refine zA ?_ _)); refine blk_put (cs := #[.int .i64 aq, .slice none 0 0]) ?_ 1 _ rfl; (with_reducible repeat (first | refine zN ?_ _ | refine zD ?_ | refine zA ?_ _)); refine blk_put (cs := #[.int .i64 0, .slice none 0 0]) ?_ 0 _ rfl; (with_reducible repeat (first | refine zN ?_ _ | refine zD ?_ | refine zA ?_ _)); exact ac.out))⟩; have aT : Aside0 (Below w.heap.size w b4) := ⟨(by rw [hw]; exact (zb HB))⟩; clear hw; clear ab; clear ad; clear ae; clear ac; clear HB; have ab := az; have ad := aA; have ae := aC; have ac := aD; have HB := aT; clear az aA aC aD aT; have hcz29_0 : b4.cell? ⟨ag, 0, none⟩ = some (.int .i64 aq) := (blk_cell ac.out 0).trans rfl; have hcz29_1 : b4.cell? ⟨ag, 1, none⟩ = some (.slice bD aa.length ay) := (blk_cell ac.out 1).trans rfl; have hfz29_0 := blk_frozen ac.out 0; have hfz29_1 := blk_frozen ac.out 1; have bP : 0 ≤ (a1 : Int) := zd; have bQ : a1 < (aa.length : Int) := zd; obtain ⟨b5, A435_0, c435_0, e435, aU, bh, bi⟩ := at_L2 (Kd.S_reads' ab.out).2.2 a1 bP bQ; cases e435; obtain ⟨ce435, cg, ch, bE⟩ := Kd.S_get ab.out [] a1 bP (by first | exact bQ | exact zd | (have e_ := (Kd.S_reads' ab.out).1; omega)); obtain ⟨ve435_0, rfl, aY⟩ := ch; have aG := bE 0 _ rfl; rw [Nat.add_zero, show ((Kd.slice 30 k30)).sz = 1 from rfl, Nat.mul_one] at aG; replace aG := Option.some.inj (aG.symm.trans aU); rw [aG] at aY; have aH := zK (show Kd.R k30 30 _ _ _ _ (rd_L2 aa a1) from aY); clear aG aY; have HX435_0 := zK aU; clear bE cg; have aV := zK bi; have HC435_0 := zK bh; clear bi bh; replace bP := eq_true bP; replace bQ := eq_true bQ))
          have az := zK (Kd.S_drew ab.out)
          have aA := zK (Kd.R_drew aH.out)
          have aC := zK (zD ad.out)
          have aD := zK (zD ae.out)
          have aT := zK (zD ac.out)
          have bC := zK (Kd.C_drew aV.out)
          have b3 := zK (zE HB.out)
          clear ab aH ad ae ac aV HB; have ab := az; have aH := aA; have ad := aC; have ae := aD; have ac := aT; have aV := bC; have HB := b3; clear az aA aC aD aT bC b3
          have bR : 0 ≤ (a2 : Int) := zd
          have bS : a2 < (aa.length : Int) := zd
          obtain ⟨cK, bc, bd, e436, aI, bj, bk⟩ := at_L2 (Kd.S_reads' ab.out).2.2 a2 bR bS
          obtain rfl : b5 = cK := (by injection e436)
          obtain ⟨ce436, ci, cj, bF⟩ := Kd.S_get ab.out [] a2 bR (by first | exact bS | exact zd | (have e_ := (Kd.S_reads' ab.out).1; omega))
          obtain ⟨ve436_0, rfl, aZ⟩ := cj
          have aJ := bF 0 _ rfl
          rw [Nat.add_zero, show ((Kd.slice 30 k30)).sz = 1 from rfl, Nat.mul_one] at aJ
          replace aJ := Option.some.inj (aJ.symm.trans aI)
          rw [aJ] at aZ
          have af := zK (show Kd.R k30 30 _ _ _ _ (rd_L2 aa a2) from aZ)
          clear aJ aZ; have a0 := zK aI; clear bF ci; have bT := zK bk; have HC436_0 := zK bj; clear bk bj; replace bR := eq_true bR; replace bS := eq_true bS
          have bU : 0 ≤ (a1 : Int) := zd
          have bV : a1 < (aa.length : Int) := zd
          obtain ⟨cL, A437_0, ck, e437, aK, bl, bm⟩ := at_L2 (Kd.S_reads' ab.out).2.2 a1 bU bV
          obtain rfl : b5 = cL := (by injection e437)
          obtain ⟨ce437, cl, cm, bG⟩ := Kd.S_get ab.out [] a1 bU (by first | exact bV | exact zd | (have e_ := (Kd.S_reads' ab.out).1; omega))
          obtain ⟨ve437_0, rfl, a3⟩ := cm
          have aM := bG 0 _ rfl
          rw [Nat.add_zero, show ((Kd.slice 30 k30)).sz = 1 from rfl, Nat.mul_one] at aM
          replace aM := Option.some.inj (aM.symm.trans aK)
          rw [aM] at a3
          have ao := zK (show Kd.R k30 30 _ _ _ _ (rd_L2 aa a1) from a3)
          clear aM a3; have bn := zK aK; clear bG cl; have a4 := zK bm; have HC437_0 := zK bl; clear bm bl; replace bU := eq_true bU; replace bV := eq_true bV
          have cn : 0 ≤ ((ar) : Int) := zd
          have co : (ar) < ((rd_L2 aa a1).length : Int) := zd
          obtain ⟨bo, e438, bp, bq⟩ := at_T30 (by repeat (first | (with_reducible exact a4.out) | (with_reducible refine Kd.C_alloc ?_ _) | (with_reducible refine Kd.C_drewN ?_ _) | (with_reducible refine Kd.C_drew ?_) | exact a4.out)) (ar) cn co
          cases e438
          replace cn := eq_true cn; replace co := eq_true co
          obtain ⟨ai, co31, cM, cN, gl31, cl31, cO⟩ := Kd.S_form ab.out (by have h_ : (a2 : Int) < ((aa.length : Int) : Int) := zd; have h2_ : 0 ≤ (a2 : Int) := (zd); omega)
          (first | cases cM | (injection cM with ea_ en_ ec_; (first | subst ea_ | (injection ea_ with ea_; subst ea_)); subst ec_; clear en_))
          have cP := zK cN; have GG31 := zK cO; clear cN gl31 cO
          (first | simp only [add_plain] at aU | skip)
          (first | simp only [add_plain] at aI | skip)
          (first | simp only [add_plain] at aK | skip)
          obtain ⟨b6, ce31, cQ, hM31, b7, _, _, cR⟩ := Kd.S_elem ab.out [] (a2 : Int) (zd) (by have h_ : (a2 : Int) < ((aa.length : Int) : Int) := zd; first | exact h_ | (have e_ := (Kd.S_reads' ab.out).1; omega) | simpa using h_)
          obtain ⟨ve31_0, rfl, bH⟩ := hM31
          have bI := b7 0 _ rfl; have cp := a0.out; (try simp only [add_plain] at cp); (try simp only [Nat.add_zero] at bI); (try rw [show ((Kd.slice 30 k30)).sz = 1 from rfl, Nat.mul_one] at bI)
          replace bI := Option.some.inj (bI.symm.trans cp)
          subst bI; clear cp b7 cQ
          have bW := zK (show Kd.R k30 30 _ w.heap.size b6 (.slice bc (rd_L2 aa a2).length bd) (rd_L2 aa a2) from bH)
          have be := zK cR
          have cq := zK (Kd.S_reads' ab.out).1
          clear cR bH; have hTi31 := a0.out; have hTj31 := bn.out; (try simp only [add_plain] at hTi31 hTj31)
          have hT31_437 := zK (Opens.S_two ab.out (zd) (by have h_ : (a2 : Int) < ((aa.length : Int) : Int) := zd; first | exact h_ | (have e_ := (Kd.S_reads' ab.out).1; omega) | simpa using h_) (zd) (by have h_ : (a1 : Int) < ((aa.length : Int) : Int) := zd; first | exact h_ | (have e_ := (Kd.S_reads' ab.out).1; omega) | simpa using h_) (by first | assumption | exact fun h_ => absurd h_.symm (by assumption)) hTi31 hTj31)
          clear hTi31 hTj31
          refine start_ (n := 20) (S := fun w' => w'.cell? ⟨ag, 0, none⟩ = some (.int .i64 aq) ∧ w'.cell? ⟨ag, 1, none⟩ = some (.slice (some ⟨ai, 0, none⟩) aa.length ay) ∧ w'.cell? ⟨ai, (a2).toNat, none⟩ = some (.slice bc (rd_L2 aa a2).length bd) ∧ w'.cell? ⟨ai, (a1).toNat, none⟩ = some (.slice (some bo) (rd_L2 aa a1).length ck) ∧ w'.cell? (bo.add (((ar)).toNat * 2)) = some (.int .i64 ((rd_T30 (rd_L2 aa a1) (ar)).f0)) ∧ w'.cell? ⟨(bo.add (((ar)).toNat * 2)).block, (bo.add (((ar)).toNat * 2)).off + 1, none⟩ = some (.int .i64 ((rd_T30 (rd_L2 aa a1) (ar)).f1))) (ds := [19]) #[ff, ff, ff, ff, ff, ff, ff, ff, ff, ff, ff, ff, ff, ff, ff, ff, ff, ff, ff, ff] (by kernel_rfl) rfl rfl ⟨(blk_cell ac.out 0).trans rfl, (blk_cell ac.out 1).trans rfl, aI, aK, bp, bq⟩ (fun hHeld => ?_); refine with_tabW spec_l06Hop.tab3 spec_l06Hop.bits3 (fun HT_ HW_ => ?_)
          generalize b4.drew = w30 at ab aH ad ae ac aV HB GG31 be af ao bT a4 a0 bn bW aU aI aK bp bq hHeld ⊢
          refine zu 0 (some 18) #[tt, ff, ff, ff, ff, ff, ff, ff, ff, ff, ff, ff, ff, ff, ff, ff, ff, ff, ff, ff] (any_of HT_.out (by kernel_rfl)) ?_
          refine zu 2 (some 20) #[tt, ff, tt, ff, ff, ff, ff, ff, ff, ff, ff, ff, ff, ff, ff, ff, ff, ff, ff, ff] (any_of HT_.out (by kernel_rfl)) ?_
          refine zu 3 (some 21) #[tt, ff, tt, tt, ff, ff, ff, ff, ff, ff, ff, ff, ff, ff, ff, ff, ff, ff, ff, ff] (any_of HT_.out (by kernel_rfl)) ?_
          refine zu 5 (some 23) #[tt, ff, tt, tt, ff, tt, ff, ff, ff, ff, ff, ff, ff, ff, ff, ff, ff, ff, ff, ff] (any_of HT_.out (by kernel_rfl)) ?_
          refine zu 8 (some 26) #[tt, ff, tt, tt, ff, tt, ff, ff, tt, ff, ff, ff, ff, ff, ff, ff, ff, ff, ff, ff] (any_of HT_.out (by kernel_rfl)) ?_
          refine zu 10 (some 28) #[tt, ff, tt, tt, ff, tt, ff, ff, tt, ff, tt, ff, ff, ff, ff, ff, ff, ff, ff, ff] (any_of HT_.out (by kernel_rfl)) ?_
          refine zu 13 (some 31) #[tt, ff, tt, tt, ff, tt, ff, ff, tt, ff, tt, ff, ff, tt, ff, ff, ff, ff, ff, ff] (any_of HT_.out (by kernel_rfl)) ?_
          refine zt 1 (some 19) #[tt, tt, tt, tt, ff, tt, ff, ff, tt, ff, tt, ff, ff, tt, ff, ff, ff, ff, ff, ff] (take_ofW HT_.out HW_.out (by kernel_rfl)) hHeld ?_
          refine zt 4 (some 22) #[tt, tt, tt, tt, tt, tt, ff, ff, tt, ff, tt, ff, ff, tt, ff, ff, ff, ff, ff, ff] (take_ofW HT_.out HW_.out (by kernel_rfl)) hHeld ?_
          refine zu 6 (some 24) #[tt, tt, tt, tt, tt, tt, tt, ff, tt, ff, tt, ff, ff, tt, ff, ff, ff, ff, ff, ff] (any_of HT_.out (by kernel_rfl)) ?_
          refine zt 7 (some 25) #[tt, tt, tt, tt, tt, tt, tt, tt, tt, ff, tt, ff, ff, tt, ff, ff, ff, ff, ff, ff] (take_ofW HT_.out HW_.out (by kernel_rfl)) hHeld ?_
          refine zt 9 (some 27) #[tt, tt, tt, tt, tt, tt, tt, tt, tt, tt, tt, ff, ff, tt, ff, ff, ff, ff, ff, ff] (take_ofW HT_.out HW_.out (by kernel_rfl)) hHeld ?_
          refine zu 11 (some 29) #[tt, tt, tt, tt, tt, tt, tt, tt, tt, tt, tt, tt, ff, tt, ff, ff, ff, ff, ff, ff] (any_of HT_.out (by kernel_rfl)) ?_
          refine zt 12 (some 30) #[tt, tt, tt, tt, tt, tt, tt, tt, tt, tt, tt, tt, tt, tt, ff, ff, ff, ff, ff, ff] (take_ofW HT_.out HW_.out (by kernel_rfl)) hHeld ?_
          refine zu 14 (some 32) #[tt, tt, tt, tt, tt, tt, tt, tt, tt, tt, tt, tt, tt, tt, tt, ff, ff, ff, ff, ff] (any_of HT_.out (by kernel_rfl)) ?_
          refine zt 15 (some 33) #[tt, tt, tt, tt, tt, tt, tt, tt, tt, tt, tt, tt, tt, tt, tt, tt, ff, ff, ff, ff] (take_ofW HT_.out HW_.out (by kernel_rfl)) hHeld ?_
          refine one_ (i := 16) (N := some 34) #[tt, tt, tt, tt, tt, tt, tt, tt, tt, tt, tt, tt, tt, tt, tt, tt, tt, ff, ff, ff] rfl rfl (one_of HT_.out (by kernel_rfl)) (by decide) (fun K hK => ?_)
          refine value_ (w1 := ?_) (v := ?_) (by rfl) rfl ?_ ?_
          rotate_left 2
          ·go_simp
           constructor
           ·rfl
           ·rfl
          refine hK.out _ _ ⟨(blk_cell (zA ac.out _) 0).trans rfl, (blk_cell (zA ac.out _) 1).trans rfl, (World.cell?_alloc_lt _ _ _ (World.block_lt_of_cell? _ _ (hHeld.2.2.1))).trans (hHeld.2.2.1), (World.cell?_alloc_lt _ _ _ (World.block_lt_of_cell? _ _ (hHeld.2.2.2.1))).trans (hHeld.2.2.2.1), (World.cell?_alloc_lt _ _ _ (World.block_lt_of_cell? _ _ (hHeld.2.2.2.2.1))).trans (hHeld.2.2.2.2.1), (World.cell?_alloc_lt _ _ _ (World.block_lt_of_cell? _ _ (hHeld.2.2.2.2.2))).trans (hHeld.2.2.2.2.2)⟩ (fun hHeld => ?_)
          clear hK K
          refine norm_ (a' := ?_) ?_ ?_
          rotate_left
          ·show Act.put _ (some 34) _ = _
           simp only [Act.put, zp, zq, zr, i64_w, i32_w]
           rfl
          refine one_ (i := 17) (N := some 35) #[tt, tt, tt, tt, tt, tt, tt, tt, tt, tt, tt, tt, tt, tt, tt, tt, tt, tt, ff, ff] rfl rfl (one_of HT_.out (by kernel_rfl)) (by decide) (fun K hK => ?_)
          refine Kd.R_append_step k30 (w0 := w) w.heap.size (by rfl) (.tmp 25) (.tmp 34) 28 30 (.agg #[(.int .i64 0), (.int .i64 0)]) 16 rfl Try.underlying28 info30 rfl (by decide) (by omega) (.slice bc (rd_L2 aa a2).length bd) (rd_L2 aa a2) (⟨(rd_T30 (rd_L2 aa a1) (ar)).f0, (rd_T30 (rd_L2 aa a1) (ar)).f1⟩ : S30) [.int .i64 ((rd_T30 (rd_L2 aa a1) (ar)).f0), .int .i64 ((rd_T30 (rd_L2 aa a1) (ar)).f1)] (fun k_ => b6 k_ ∨ ((fun _ => True)) k_ ∧ w30.heap.size ≤ k_) (fun _ => False) rfl rfl ?aP (fun _ hk => hk.elim) ?aF ?aO ?aB ?aS ?aL ?_
          (case aP => exact k30_mkM _ _ _ (⟨(rd_T30 (rd_L2 aa a1) (ar)).f0, (rd_T30 (rd_L2 aa a1) (ar)).f1⟩ : S30))
          (case aB => exact (zb HB))
          (case aF => exact (fun k_ hk => .inr ⟨trivial, hk⟩))
          (case aO => exact (by (with_reducible repeat (first | apply Kd.R_alloc | apply Kd.R_drewN | apply Kd.R_drew)); exact Kd.R_mono bW.out (fun _ hk => .inl hk)))
          (case aS => exact (below_size (zb HB)))
          (case aL => have := cG.out; omega)
          intro v440 cC ho hb hg hat
          (first | have cS := cell_grown hg (hHeld.2.2.1) (by first | (rw [add_block]; exact (fun e_ => ((af.out.1 _ e_.symm).2) rfl)) | (show some (Addr.add _ _).block ≠ _; rw [add_block]; exact (fun e_ => ((af.out.1 _ e_.symm).2) rfl)) | exact (fun e_ => ((af.out.1 _ e_.symm).2) rfl)) | have cS := cell_grown hg (cell_unalloc (hHeld.2.2.1) (by first | (rw [add_block]; exact Kd.S_lt ab.out _ rfl) | (show (Addr.add _ _).block < _; rw [add_block]; exact Kd.S_lt ab.out _ rfl) | exact Kd.S_lt ab.out _ rfl)) (by first | (rw [add_block]; exact (fun e_ => ((af.out.1 _ e_.symm).2) rfl)) | (show some (Addr.add _ _).block ≠ _; rw [add_block]; exact (fun e_ => ((af.out.1 _ e_.symm).2) rfl)) | exact (fun e_ => ((af.out.1 _ e_.symm).2) rfl)))
          (first | have cT := cell_grown hg (hHeld.2.2.2.1) (by first | (rw [add_block]; exact (fun e_ => ((af.out.1 _ e_.symm).2) rfl)) | (show some (Addr.add _ _).block ≠ _; rw [add_block]; exact (fun e_ => ((af.out.1 _ e_.symm).2) rfl)) | exact (fun e_ => ((af.out.1 _ e_.symm).2) rfl)) | have cT := cell_grown hg (cell_unalloc (hHeld.2.2.2.1) (by first | (rw [add_block]; exact Kd.S_lt ab.out _ rfl) | (show (Addr.add _ _).block < _; rw [add_block]; exact Kd.S_lt ab.out _ rfl) | exact Kd.S_lt ab.out _ rfl)) (by first | (rw [add_block]; exact (fun e_ => ((af.out.1 _ e_.symm).2) rfl)) | (show some (Addr.add _ _).block ≠ _; rw [add_block]; exact (fun e_ => ((af.out.1 _ e_.symm).2) rfl)) | exact (fun e_ => ((af.out.1 _ e_.symm).2) rfl)))
          (first | have cU := cell_grown hg (hHeld.2.2.2.2.1) (by first | (rw [add_block]; exact hT31_437.out) | (show some (Addr.add _ _).block ≠ _; rw [add_block]; exact hT31_437.out) | exact hT31_437.out) | have cU := cell_grown hg (cell_unalloc (hHeld.2.2.2.2.1) (by first | (rw [add_block]; exact Kd.R_lt ao.out _ rfl) | (show (Addr.add _ _).block < _; rw [add_block]; exact Kd.R_lt ao.out _ rfl) | exact Kd.R_lt ao.out _ rfl)) (by first | (rw [add_block]; exact hT31_437.out) | (show some (Addr.add _ _).block ≠ _; rw [add_block]; exact hT31_437.out) | exact hT31_437.out))
          (first | have cV := cell_grown hg (hHeld.2.2.2.2.2) (by first | (rw [add_block]; exact hT31_437.out) | (show some (Addr.add _ _).block ≠ _; rw [add_block]; exact hT31_437.out) | exact hT31_437.out) | have cV := cell_grown hg (cell_unalloc (hHeld.2.2.2.2.2) (by first | (rw [add_block]; exact Kd.R_lt ao.out _ rfl) | (show (Addr.add _ _).block < _; rw [add_block]; exact Kd.R_lt ao.out _ rfl) | exact Kd.R_lt ao.out _ rfl)) (by first | (rw [add_block]; exact hT31_437.out) | (show some (Addr.add _ _).block ≠ _; rw [add_block]; exact hT31_437.out) | exact hT31_437.out))
          rw [← Ny439.out] at ho
          have az := zK (blk_grown (g := aj) (o := .cells #[.int .i64 a0_0, .slice aw ap.length ax] 24 (0, 0)) (zk ad) hg (Kd.R_ne af.out ad.out (by decide)))
          have aA := zK (blk_grown (g := ak) (o := .cells #[.int .i64 0, .slice none 0 0] 24 (0, 0)) (zk ae) hg (Kd.R_ne af.out ae.out (by decide)))
          have aC := zK (blk_grown (g := ag) (o := .cells #[.int .i64 aq, .slice (some ⟨ai, 0, none⟩) aa.length ay] 24 (0, 0)) (zk ac) hg (Kd.R_ne af.out ac.out (by decide)))
          have aD := zK (hb)
          have aT := zK (Kd.H_grown (Kd.H_widen (by repeat (first | exact be.out | refine Kd.H_alloc ?_ _ | refine Kd.H_drewN ?_ _ | refine Kd.H_drew ?_))) hg (fun k_ e_ => .inl (bW.out.1 k_ e_)))
          have bC := zK (ho)
          clear ad ae ac HB be ab bW aH af ao; have ad := az; have ae := aA; have ac := aC; have HB := aD; have be := aT; have b8 := bC; clear az aA aC aD aT bC ho hb hg hat
          have p14 : 0 ≤ (a2 : Int) := zd
          have q14 : (a2 : Int) < ((aa.length : Int) : Int) := zd
          replace p14 := eq_true p14; replace q14 := eq_true q14
          obtain ⟨bf, bg, cW⟩ := Kd.R_slice b8.out
          (first | subst cW | (injection cW with f1_ f2_ f3_; have f4_ := f1_.symm; have f5_ := f3_.symm; clear f1_ f2_ f3_; subst f4_; subst f5_))
          obtain ⟨_, _, a5, _, _, b9, _⟩ := Kd.H_raw be.out (zd) (by have h_ : (a2 : Int) < ((aa.length : Int) : Int) := zd; first | exact h_ | (have e_ := (cq.out); omega) | simpa using h_)
          obtain ⟨_, ca⟩ := Kd.H_at be.out (zd) (by have h_ : (a2 : Int) < ((aa.length : Int) : Int) := zd; first | exact h_ | (have e_ := (cq.out); omega) | simpa using h_)
          have bJ := b9 0 _ rfl; have bK := ca 0; (try simp only [Nat.add_zero] at bJ bK); (try rw [show ((Kd.slice 30 k30)).sz = 1 from rfl, Nat.mul_one] at bJ); (try rw [show ((Kd.slice 30 k30)).sz = 1 from rfl, Nat.mul_one] at bK)
          have cr := Kd.S_seg0 be.out (zd) (by have h_ : (a2 : Int) < ((aa.length : Int) : Int) := zd; first | exact h_ | (have e_ := (cq.out); omega) | simpa using h_) (seg := [.slice bf aW.length bg]) (j := 0) (show 1 ≤ 1 from by decide) (x' := aW) (Kd.M_row b8.out) (fun _ hk => hk)
          (try simp only [show ((Kd.slice 30 k30)).sz = 1 from rfl, Nat.mul_one, Nat.add_zero] at cr); clear b9 ca
          have HNB428_go31 := zK (show aj ≠ ai from by have h_ := Kd.R_ne a5 ad.out (by decide); intro e_; exact h_ (by rw [e_]; rfl))
          have HNB429_go31 := zK (show ak ≠ ai from by have h_ := Kd.R_ne a5 ae.out (by decide); intro e_; exact h_ (by rw [e_]; rfl))
          have HNB434_go31 := zK (show ag ≠ ai from by have h_ := Kd.R_ne a5 ac.out (by decide); intro e_; exact h_ (by rw [e_]; rfl))
          have ct := cr.1
          rw [← Ny442.out] at ct
          have HQ33 := zK ct
          obtain ⟨_, cb⟩ := Kd.R_typed a5 ai rfl
          have GG33_ := zK cb; clear cr ct cb
          refine hK.out _ _ ⟨(blk_cell ac.out 0).trans rfl, (blk_cell ac.out 1).trans rfl, cS, cT, cU, cV⟩ (fun hHeld => ?_)
          clear hK K
          refine norm_ (a' := ?_) ?_ ?_
          rotate_left
          ·show Act.put _ (some 35) _ = _
           simp only [Act.put, zp, zq, zr, i64_w, i32_w]
           rfl
          refine zu 18 (some 36) #[tt, tt, tt, tt, tt, tt, tt, tt, tt, tt, tt, tt, tt, tt, tt, tt, tt, tt, tt, ff] (any_of HT_.out (by kernel_rfl)) ?_
          refine last_ (i := 19) (N := none) #[tt, tt, tt, tt, tt, tt, tt, tt, tt, tt, tt, tt, tt, tt, tt, tt, tt, tt, tt, tt] rfl rfl (one_of HT_.out (by kernel_rfl)) (by decide) (fun K hK => ?_)
          refine skip_ (w1 := ?_) (by rfl) rfl ?_ ?_
          rotate_left
          ·go_simp
           rfl
          refine hK.out _ _ ?_
          clear hK K
          refine done_ (done_of HT_.out (by kernel_rfl)) ?_
          have az : Aside0 (Kd.S (Kd.slice 30 k30) 28 (cC.setCell ⟨ai, (a2 : Int).toNat, none⟩ (.slice bf aW.length bg)) w.heap.size (fun _ => True) (.slice (some ⟨ai, 0, none⟩) aa.length ay) ah) := ⟨zT HQ33⟩
          have aA : Aside0 ((cC.setCell ⟨ai, (a2 : Int).toNat, none⟩ (.slice bf aW.length bg)).heap[aj]? = some (.cells #[.int .i64 a0_0, .slice aw ap.length ax] 24 (0, 0))) := ⟨by (with_reducible repeat (first | refine zN ?_ _ | refine zD ?_ | refine zA ?_ _)); refine blk_far ?_ HNB428_go31.out _; (with_reducible repeat (first | refine zN ?_ _ | refine zD ?_ | refine zA ?_ _)); exact ad.out⟩
          have aC : Aside0 ((cC.setCell ⟨ai, (a2 : Int).toNat, none⟩ (.slice bf aW.length bg)).heap[ak]? = some (.cells #[.int .i64 0, .slice none 0 0] 24 (0, 0))) := ⟨by (with_reducible repeat (first | refine zN ?_ _ | refine zD ?_ | refine zA ?_ _)); refine blk_far ?_ HNB429_go31.out _; (with_reducible repeat (first | refine zN ?_ _ | refine zD ?_ | refine zA ?_ _)); exact ae.out⟩
          have aD : Aside0 ((cC.setCell ⟨ai, (a2 : Int).toNat, none⟩ (.slice bf aW.length bg)).heap[ag]? = some (.cells #[.int .i64 aq, .slice (some ⟨ai, 0, none⟩) aa.length ay] 24 (0, 0))) := ⟨by (with_reducible repeat (first | refine zN ?_ _ | refine zD ?_ | refine zA ?_ _)); refine blk_far ?_ HNB434_go31.out _; (with_reducible repeat (first | refine zN ?_ _ | refine zD ?_ | refine zA ?_ _)); exact ac.out⟩
          have aT : Aside0 (Below w.heap.size w (cC.setCell ⟨ai, (a2 : Int).toNat, none⟩ (.slice bf aW.length bg))) := ⟨zb HB⟩
          (try clear ab); (try clear ad); (try clear ae); (try clear ac); (try clear HB)
          generalize (cC.setCell ⟨ai, (a2 : Int).toNat, none⟩ (.slice bf aW.length bg)) = w36 at az aA aC aD aT ⊢
          have ab := az; have ad := aA; have ae := aC; have ac := aD; have HB := aT; clear az aA aC aD aT
          try go_wp2
          have az := zK (Kd.S_drew ab.out)
          have aA := zK (zD ad.out)
          have aC := zK (zD ae.out)
          have aD := zK (zD ac.out)
          have aT := zK (zE HB.out)
          clear ab ad ae ac HB; have ab := az; have ad := aA; have ae := aC; have ac := aD; have HB := aT; clear az aA aC aD aT
          have bX : 0 ≤ (a1 : Int) := zd
          have bY : a1 < (ah.length : Int) := (by have h_ : (a1 : Int) < ((aa.length : Int) : Int) := zd; first | (have e_ := (Kd.S_reads' ab.out).1; omega) | simpa only [Ny442.out, List.length_set] using h_)
          have ql443 : ((a1 : Int) < ((aa.length : Int) : Int)) = True := eq_true (zd)
          obtain ⟨cX, am, al, e443, au, br, bs⟩ := at_L2 (Kd.S_reads' ab.out).2.2 a1 bX bY
          obtain rfl : (⟨ai, 0, none⟩ : Addr) = cX := (by injection e443)
          obtain ⟨ce443, cu, cv, bL⟩ := Kd.S_get ab.out [] a1 bX (by first | exact bY | exact zd | (have e_ := (Kd.S_reads' ab.out).1; omega))
          obtain ⟨ve443_0, rfl, a6⟩ := cv
          have aN := bL 0 _ rfl
          rw [Nat.add_zero, show ((Kd.slice 30 k30)).sz = 1 from rfl, Nat.mul_one] at aN
          replace aN := Option.some.inj (aN.symm.trans au)
          rw [aN] at a6
          have bZ := zK (show Kd.R k30 30 _ _ _ _ (rd_L2 ah a1) from a6)
          clear aN a6; have bt := zK au; clear bL cu
          (first | simp only [add_plain] at au | simp only [add_at] at au | simp only [Addr.add, Nat.zero_add] at au | skip)
          have a7 := zK bs; have b0 := zK br; clear bs br; replace bX := eq_true bX; replace bY := eq_true bY
          have q38 : ((ar) : Int) ≤ (((rd_L2 ah a1).length : Int) : Int) := zd
          obtain ⟨i038, cc, _, cY, _⟩ := info_parts info30
          have bv : (rd_L2 ah a1).length ≤ al := b0.out
          have cZ : Kd.C k30 _ am (rd_L2 ah a1).length (rd_L2 ah a1) := (by repeat (first | (with_reducible exact a7.out) | (with_reducible refine Kd.C_alloc ?_ _) | (with_reducible refine Kd.C_drewN ?_ _) | (with_reducible refine Kd.C_drew ?_) | exact a7.out))
          have cw := cut_to (P := Try.prog) 28 30 .i64 Try.underlying28 cc am (rd_L2 ah a1).length al (ar) (zd) q38 bv
          have cx := Kd.C_take (m := ((ar) : Int).toNat) cZ (by omega)
          have cy : aE.length = ((ar) : Int).toNat := (by rw [Ny444.out, List.length_take]; omega)
          rw [← Ny444.out] at cx
          rw [← cy] at cw
          have c0 := zK cx
          have HC447 := zK (show aE.length ≤ al from by omega)
          clear cx cZ bv cc cY; have KY38 := zK cy; clear cy; replace q38 := eq_true q38
          have p17 : 0 ≤ (a1 : Int) := zd
          have q17 : (a1 : Int) < ((aa.length : Int) : Int) := zd
          obtain ⟨_, ce17, c1, da, cd, ce, _, _⟩ := Kd.S_elem ab.out [] (a1 : Int) p17 q17
          obtain ⟨ve17_0, rfl, ge17_0⟩ := da
          have bM := cd 0 _ rfl; have bN := ce 0; (try simp only [show ((Kd.slice 30 k30)).sz = 1 from rfl, Nat.mul_one, Nat.add_zero] at bM); (try simp only [show ((Kd.slice 30 k30)).sz = 1 from rfl, Nat.mul_one, Nat.add_zero] at bN)
          clear c1 cd ce; (try clear da)
          replace p17 := eq_true p17; replace q17 := eq_true q17
          have HX39 := zK (show Kd.S (Kd.slice 30 k30) 28 _ w.heap.size (fun k_ => ((fun _ => True)) k_ ∧ ¬ (fun _ => False) k_) (.slice (some ⟨ai, 0, none⟩) aa.length ay) ah from (by exact Kd.S_mono ab.out (fun k_ hk => ⟨trivial, fun e_ => e_⟩)))
          obtain ⟨db, ce39, dc, dd, cf, de, hoki39, hH39⟩ := Kd.S_elem HX39.out [] (a1 : Int) (zd) (by have h_ : (a1 : Int) < ((aa.length : Int) : Int) := zd; first | exact h_ | (have e_ := (Kd.S_reads' ab.out).1; omega) | simpa using h_)
          obtain ⟨ve39_0, rfl, cz⟩ := dd
          have bO := cf 0 _ rfl; have cA := bt.out; (try simp only [add_plain] at cA); (try simp only [Nat.add_zero] at bO); (try rw [show ((Kd.slice 30 k30)).sz = 1 from rfl, Nat.mul_one] at bO)
          replace bO := Option.some.inj (bO.symm.trans cA)
          subst bO; clear cA
          have cB := zK (show Kd.R k30 30 _ w.heap.size db (.slice am aE.length al) aE from by rw [KY38.out, Ny444.out]; exact Kd.R_take cz (by have h_ := of_eq_true q38; omega))
          have b1 := (Kd.S_seg hH39 (zd) (by have h_ : (a1 : Int) < ((aa.length : Int) : Int) := zd; first | exact h_ | (have e_ := (Kd.S_reads' ab.out).1; omega) | simpa using h_) (seg := [.slice am aE.length al]) (j := 0) (show 1 ≤ 1 from by decide) (x' := aE) (Kd.M_row cB.out) (fun _ hk => Or.inl hk) (fun _ hk => hk.elim)).1
          (try simp only [show ((Kd.slice 30 k30)).sz = 1 from rfl, Nat.mul_one, Nat.add_zero] at b1)
          rw [← Ny448.out] at b1
          have df := zK b1
          clear dc cf de b1; (try clear dd)
          refine start_ (n := 12) (S := fun w' => w'.cell? ⟨ag, 0, none⟩ = some (.int .i64 aq) ∧ w'.cell? ⟨ag, 1, none⟩ = some (.slice (some ⟨ai, 0, none⟩) aa.length ay) ∧ w'.cell? ⟨ai, (a1).toNat, none⟩ = some (.slice am (rd_L2 ah a1).length al)) (ds := [11]) #[ff, ff, ff, ff, ff, ff, ff, ff, ff, ff, ff, ff] (by kernel_rfl) rfl rfl ⟨(blk_cell ac.out 0).trans rfl, (blk_cell ac.out 1).trans rfl, au⟩ (fun hHeld => ?_); refine with_tabW spec_l06Hop.tab4 spec_l06Hop.bits4 (fun HT_ HW_ => ?_)
          generalize w36.drew = cD at ab ad ae ac HB bZ df a7 c0 bt bN bM au hHeld ⊢
          refine zu 0 (some 37) #[tt, ff, ff, ff, ff, ff, ff, ff, ff, ff, ff, ff] (any_of HT_.out (by kernel_rfl)) ?_
          refine zu 2 (some 39) #[tt, ff, tt, ff, ff, ff, ff, ff, ff, ff, ff, ff] (any_of HT_.out (by kernel_rfl)) ?_
          refine zu 3 (some 40) #[tt, ff, tt, tt, ff, ff, ff, ff, ff, ff, ff, ff] (any_of HT_.out (by kernel_rfl)) ?_
          refine zu 5 (some 42) #[tt, ff, tt, tt, ff, tt, ff, ff, ff, ff, ff, ff] (any_of HT_.out (by kernel_rfl)) ?_
          refine zu 8 (some 45) #[tt, ff, tt, tt, ff, tt, ff, ff, tt, ff, ff, ff] (any_of HT_.out (by kernel_rfl)) ?_
          refine zt 1 (some 38) #[tt, tt, tt, tt, ff, tt, ff, ff, tt, ff, ff, ff] (take_ofW HT_.out HW_.out (by kernel_rfl)) hHeld ?_
          refine zt 4 (some 41) #[tt, tt, tt, tt, tt, tt, ff, ff, tt, ff, ff, ff] (take_ofW HT_.out HW_.out (by kernel_rfl)) hHeld ?_
          refine zu 6 (some 43) #[tt, tt, tt, tt, tt, tt, tt, ff, tt, ff, ff, ff] (any_of HT_.out (by kernel_rfl)) ?_
          refine zt 7 (some 44) #[tt, tt, tt, tt, tt, tt, tt, tt, tt, ff, ff, ff] (take_ofW HT_.out HW_.out (by kernel_rfl)) hHeld ?_
          refine zu 9 (some 46) #[tt, tt, tt, tt, tt, tt, tt, tt, tt, tt, ff, ff] (any_of HT_.out (by kernel_rfl)) ?_
          refine zu 10 (some 47) #[tt, tt, tt, tt, tt, tt, tt, tt, tt, tt, tt, ff] (any_of HT_.out (by kernel_rfl)) ?_
          refine last_ (i := 11) (N := none) #[tt, tt, tt, tt, tt, tt, tt, tt, tt, tt, tt, tt] rfl rfl (one_of HT_.out (by kernel_rfl)) (by decide) (fun K hK => ?_)
          refine skip_ (w1 := ?_) (by rfl) rfl ?_ ?_
          rotate_left
          ·go_simp
           rfl
          refine hK.out _ _ ?_
          clear hK K
          refine done_ (done_of HT_.out (by kernel_rfl)) ?_
          have az : Aside0 (Kd.S (Kd.slice 30 k30) 28 (cD.setCell ⟨ai, (a1 : Int).toNat, none⟩ (.slice am aE.length al)) w.heap.size (fun _ => True) (.slice (some ⟨ai, 0, none⟩) aa.length ay) cI) := ⟨zT df⟩
          have aA : Aside0 ((cD.setCell ⟨ai, (a1 : Int).toNat, none⟩ (.slice am aE.length al)).heap[aj]? = some (.cells #[.int .i64 a0_0, .slice aw ap.length ax] 24 (0, 0))) := ⟨by (with_reducible repeat (first | refine zN ?_ _ | refine zD ?_ | refine zA ?_ _)); refine blk_far ?_ (by have h_ := Kd.S_ne ab.out ad.out (by decide); intro e_; exact h_ (by rw [e_]; rfl)) _; (with_reducible repeat (first | refine zN ?_ _ | refine zD ?_ | refine zA ?_ _)); exact ad.out⟩
          have aC : Aside0 ((cD.setCell ⟨ai, (a1 : Int).toNat, none⟩ (.slice am aE.length al)).heap[ak]? = some (.cells #[.int .i64 0, .slice none 0 0] 24 (0, 0))) := ⟨by (with_reducible repeat (first | refine zN ?_ _ | refine zD ?_ | refine zA ?_ _)); refine blk_far ?_ (by have h_ := Kd.S_ne ab.out ae.out (by decide); intro e_; exact h_ (by rw [e_]; rfl)) _; (with_reducible repeat (first | refine zN ?_ _ | refine zD ?_ | refine zA ?_ _)); exact ae.out⟩
          have aD : Aside0 ((cD.setCell ⟨ai, (a1 : Int).toNat, none⟩ (.slice am aE.length al)).heap[ag]? = some (.cells #[.int .i64 aq, .slice (some ⟨ai, 0, none⟩) aa.length ay] 24 (0, 0))) := ⟨by (with_reducible repeat (first | refine zN ?_ _ | refine zD ?_ | refine zA ?_ _)); refine blk_far ?_ (by have h_ := Kd.S_ne ab.out ac.out (by decide); intro e_; exact h_ (by rw [e_]; rfl)) _; (with_reducible repeat (first | refine zN ?_ _ | refine zD ?_ | refine zA ?_ _)); exact ac.out⟩
          have aT : Aside0 (Below w.heap.size w (cD.setCell ⟨ai, (a1 : Int).toNat, none⟩ (.slice am aE.length al))) := ⟨zb HB⟩
          (try clear ab); (try clear ad); (try clear ae); (try clear ac); (try clear HB)
          generalize (cD.setCell ⟨ai, (a1 : Int).toNat, none⟩ (.slice am aE.length al)) = w40 at az aA aC aD aT ⊢
          have ab := az; have ad := aA; have ae := aC; have ac := aD; have HB := aT; clear az aA aC aD aT
          have hcz41_0 : w40.cell? ⟨ag, 0, none⟩ = some (.int .i64 aq) := (blk_cell ac.out 0).trans rfl
          have hcz41_1 : w40.cell? ⟨ag, 1, none⟩ = some (.slice (some ⟨ai, 0, none⟩) aa.length ay) := (blk_cell ac.out 1).trans rfl
          have hfz41_0 := blk_frozen ac.out 0; have hfz41_1 := blk_frozen ac.out 1
          have hcz42_0 : w40.cell? ⟨ak, 0, none⟩ = some (.int .i64 0) := (blk_cell ae.out 0).trans rfl
          have hcz42_1 : w40.cell? ⟨ak, 1, none⟩ = some (.slice none 0 0) := (blk_cell ae.out 1).trans rfl
          have hfz42_0 := blk_frozen ae.out 0; have hfz42_1 := blk_frozen ae.out 1
          try go_wp2
          refine bodyPost_ret (results_cell_row rfl _ _ ak 24 #[.int .i64 aq, .slice (some ⟨ai, 0, none⟩) aa.length ay] (0, 0) _ rfl (by (with_reducible repeat (first | refine zN ?_ _ | refine zD ?_ | refine zA ?_ _)); refine blk_put (cs := #[.int .i64 aq, .slice none 0 0]) ?_ 1 _ rfl; (with_reducible repeat (first | refine zN ?_ _ | refine zD ?_ | refine zA ?_ _)); refine blk_put (cs := #[.int .i64 0, .slice none 0 0]) ?_ 0 _ rfl; (with_reducible repeat (first | refine zN ?_ _ | refine zD ?_ | refine zA ?_ _)); exact ae.out) Try.underlying24 rfl (by kernel_rfl)) rfl ?_
          exact ⟨_, by first | rfl | (simp [errW_none, errW_some] <;> rfl) | (simp only [← bB]; first | rfl | (simp [errW_none, errW_some] <;> rfl)) | (simp [*, errW_none, errW_some] <;> rfl), by (with_reducible repeat (first | apply Kd.S_alloc | apply Kd.S_drewN | apply Kd.S_drew)); exact Kd.S_mono (Kd.S_far (p := ⟨ak, 1, none⟩) (Kd.S_far (p := ⟨ak, 0, none⟩) (Kd.S_types ab.out ae.out (by decide)) (fun _ hk => hk.2) (.int .i64 aq)) (fun _ hk => hk.2) (.slice (some ⟨ai, 0, none⟩) aa.length ay)) (fun _ hk => trivial), by repeat (first | (with_reducible first | exact HB.out | apply zB | apply zC | apply zE | refine zS ?_ an.out | refine zS ?_ av.out | refine zS ?_ aX.out) | exact HB.out)⟩
         ·rw [if_neg cH] at H
          exact absurd H (by simp)
        ·rw [if_neg c13] at H
         exact absurd H (by simp)
      ·rw [if_neg c11] at H
       exact absurd H (by simp)
     ·rw [if_neg c10] at H
      exact absurd H (by simp)
    ·rw [if_neg c8] at H
     exact absurd H (by simp)
   ·rw [if_neg c7] at H
    exact absurd H (by simp)
  ·rw [if_neg c6] at H
   exact absurd H (by simp)
 ·rw [if_neg c5] at H
  exact absurd H (by simp)
end Go.Proofs.Ytheckjlldkkceaa.Px
