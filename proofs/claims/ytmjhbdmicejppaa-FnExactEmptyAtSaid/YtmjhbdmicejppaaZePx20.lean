import Derived.Test.YtmjhbdmicejppaaZePx0
import Derived.Test.YtmjhbdmicejppaaZePx3
import Derived.Test.YtmjhbdmicejppaaZePx4
import Derived.Test.YtmjhbdmicejppaaZePx5
import Derived.Test.YtmjhbdmicejppaaZePx7
import Derived.Test.YtmjhbdmicejppaaZePx8
import Derived.Test.YtmjhbdmicejppaaZePx9
import Derived.Test.YtmjhbdmicejppaaZePx12
namespace Go.Proofs.Ytmjhbdmicejppaa.Px
open Go.RowKit Go.Proofs.YtmjhbdmicejppaaW.PrintWords Go.Proofs.YtmjhbdmicejppaaW.PrintLast Go.Proofs.YtmjhbdmicejppaaW.PrintMore
attribute [local go_sem] max2_int min2_int max_two min_two max_three min_three max_four min_four   -- for this text's walks alone
set_option linter.unusedVariables false
set_option linter.unusedSimpArgs false

def spec_EmptyAt.l0 : Nat → Int → Int → List Int → Int → List (S69) → List (S74) → Option (Int × Bool)
 | 0, _, _, _, _, _, _ => none
 | k + 1, x1, x6, x840000, x840001, x840002, x840003 => if x6 ≤ 600 then ((spec_l05Tray.f x840000 x840001 x840002 x840003 x1).bind fun t841 => (if 0 ≤ t841 then (if t841 < (x840000.length : Int) then (if (rd x840000 t841) = 0 then (some (x6, true)) else ((spec_l05Step.f k x840000 x840001 x840002 x840003).bind fun bt843 => (spec_EmptyAt.l0 k x1 (wrap64 (x6 + 1)) bt843.1 bt843.2.1 bt843.2.2.1 bt843.2.2.2))) else (none)) else (none))) else (some (0, false))
def spec_EmptyAt.f (k : Nat) (l0_0 : List Int) (a0_1 : Int) (l0_2 : List (S69)) (l0_3 : List (S74)) (a1 : Int) : Option (Int × Bool) := (spec_TrayAt.f k l0_0 a0_1 l0_2 l0_3 a1).bind fun t840 => (if t840 < 0 then (some (0, false)) else (spec_EmptyAt.l0 k a1 0 l0_0 a0_1 l0_2 l0_3))
def spec_EmptyAt.T6 : Bool × List (List Nat × List Nat) := (true, [([], []), ([0], [0]), ([], []), ([], []), ([2, 3], [2, 3]), ([1, 4], [1, 4]), ([5], [5]), ([6], [6])])
def spec_EmptyAt.B6 : List Nat := [0, 1, 0, 0, 12, 31, 63, 127]
theorem spec_EmptyAt.tab6 : rtab .any (opsOf Try.f36 6) = spec_EmptyAt.T6 := by kernel_rfl
theorem spec_EmptyAt.bits6 : waitsOk spec_EmptyAt.T6.2 spec_EmptyAt.B6 = true := by kernel_rfl
set_option maxHeartbeats 8000000 in
set_option maxRecDepth 100000 in
theorem spec_EmptyAt.calls (k : Nat) (P0_0_ : Nat → Prop) (A0_0 : Option Addr) (c0_0 : Nat) (l0_0 : List Int) (a0_1 : Int) (P0_2_ : Nat → Prop) (A0_2 : Option Addr) (c0_2 : Nat) (l0_2 : List (S69)) (P0_3_ : Nat → Prop) (A0_3 : Option Addr) (c0_3 : Nat) (l0_3 : List (S74)) (a1 : Int) (r1 : Int) (r2 : Bool) (w : World) (hs0_0 : Kd.V (Kd.int .i64) 3 w w.heap.size (fun k_ => P0_0_ k_) (.slice A0_0 l0_0.length c0_0) l0_0) (hs0_2 : Kd.V k69 69 w w.heap.size (fun k_ => P0_2_ k_) (.slice A0_2 l0_2.length c0_2) l0_2) (hs0_3 : Kd.V k74 74 w w.heap.size (fun k_ => P0_3_ k_) (.slice A0_3 l0_3.length c0_3) l0_3) (h : spec_EmptyAt.f k l0_0 a0_1 l0_2 l0_3 a1 = some (r1, r2)) :
  Calls Try.prog 36 #[.agg #[.slice A0_0 l0_0.length c0_0, .int .i64 a0_1, .slice A0_2 l0_2.length c0_2, .slice A0_3 l0_3.length c0_3], .int .i64 a1] w fun e w' => e = .returned (.tuple #[.int .i64 r1, .bool r2]) ∧ Below w.heap.size w w' := by
 have hu28 := Try.underlying28
 have HO0_0 := Aside0.mk (show Kd.V (Kd.int .i64) 3 w w.heap.size (fun k_ => ((P0_0_ k_ ∨ P0_2_ k_ ∨ P0_3_ k_) ∨ w.heap.size ≤ k_)) (.slice A0_0 l0_0.length c0_0) l0_0 from Kd.V_mono hs0_0 (fun k_ hk => .inl (.inl hk)))
 have HO0_2 := Aside0.mk (show Kd.V k69 69 w w.heap.size (fun k_ => ((P0_0_ k_ ∨ P0_2_ k_ ∨ P0_3_ k_) ∨ w.heap.size ≤ k_)) (.slice A0_2 l0_2.length c0_2) l0_2 from Kd.V_mono hs0_2 (fun k_ hk => .inl (.inr (.inl hk))))
 have HO0_3 := Aside0.mk (show Kd.V k74 74 w w.heap.size (fun k_ => ((P0_0_ k_ ∨ P0_2_ k_ ∨ P0_3_ k_) ∨ w.heap.size ≤ k_)) (.slice A0_3 l0_3.length c0_3) l0_3 from Kd.V_mono hs0_3 (fun k_ hk => .inl (.inr (.inr hk))))
 have HB := Aside0.mk (Below.refl w.heap.size w)
 have H : ((spec_TrayAt.f k l0_0 a0_1 l0_2 l0_3 a1).bind fun t840 => (if t840 < 0 then (some (0, false)) else (spec_EmptyAt.l0 k a1 0 l0_0 a0_1 l0_2 l0_3))) = some (r1, r2) := h
 clear h
 replace H := Option.bind_eq_some_iff.mp H
 obtain ⟨t840, A30, H⟩ := H
 replace H : (if t840 < 0 then (some (0, false)) else (spec_EmptyAt.l0 k a1 0 l0_0 a0_1 l0_2 l0_3)) = some (r1, r2) := H
 have A3 := Aside0.mk A30
 clear A30
 by_cases c4 : t840 < 0
 ·rw [if_pos c4] at H
  have c4b0 : decide (t840 < 0) = true := decide_eq_true c4
  clear c4
  simp only [Option.some.injEq, Prod.mk.injEq] at H
  obtain ⟨rfl, rfl⟩ := H
  go_enter Try.func36, Try.ntmps36
  go_wp2_with (first | ((with_reducible refine gate_dst (N := 2) rfl ?_); refine box_event ?hg (N := 2) ?hd (cs := #[.slice A0_0 l0_0.length c0_0, .int .i64 a0_1, .slice A0_2 l0_2.length c0_2, .slice A0_3 l0_3.length c0_3]) (t := 28) ?hr ?_; (case hd => rfl); (case hg => rfl); (case hr => first | (go_simp; done) | (go_simp; rfl)); intro gb839 hg w5 hbox hb; have n0_ := Aside0.mk (Kd.V_below (Kd.V_elderB (by (with_reducible repeat (first | apply Kd.V_alloc | apply Kd.V_drewN | apply Kd.V_drew)); exact HO0_0.out) gb839 (Nat.le_of_eq hg.symm)) hb); have n1_ := Aside0.mk (Kd.V_below (Kd.V_elderB (by (with_reducible repeat (first | apply Kd.V_alloc | apply Kd.V_drewN | apply Kd.V_drew)); exact HO0_2.out) gb839 (Nat.le_of_eq hg.symm)) hb); have n2_ := Aside0.mk (Kd.V_below (Kd.V_elderB (by (with_reducible repeat (first | apply Kd.V_alloc | apply Kd.V_drewN | apply Kd.V_drew)); exact HO0_3.out) gb839 (Nat.le_of_eq hg.symm)) hb); have n3_ := Aside0.mk (below_step (by repeat (first | (with_reducible first | exact HB.out | apply below_alloc | apply pw_below_drewN | apply below_drew1) | exact HB.out)) hb); have n4_ := Aside0.mk (hbox); have n5_ := Aside0.mk ((by rw [hg]; exact (below_size (by repeat (first | (with_reducible first | exact HB.out | apply below_alloc | apply pw_below_drewN | apply below_drew1) | exact HB.out))) : w.heap.size ≤ gb839)); have n6_ := Aside0.mk ((by rw [hg]; exact (below_size (by repeat (first | (with_reducible first | exact HB.out | apply below_alloc | apply pw_below_drewN | apply below_drew1) | exact HB.out))) : w.heap.size ≤ gb839)); clear HO0_0; clear HO0_2; clear HO0_3; clear HB; have HO0_0 := n0_; have HO0_2 := n1_; have HO0_3 := n2_; have HB := n3_; have BK839 := n4_; have GW839 := n5_; have GE839 := n6_; clear n0_ n1_ n2_ n3_ n4_ n5_ n6_; clear hb hbox hg; have hcz6_0 : w5.cell? ⟨gb839, 0, none⟩ = some (.slice A0_0 l0_0.length c0_0) := (blk_cell BK839.out 0).trans rfl; have hcz6_1 : w5.cell? ⟨gb839, 1, none⟩ = some (.int .i64 a0_1) := (blk_cell BK839.out 1).trans rfl; have hcz6_2 : w5.cell? ⟨gb839, 2, none⟩ = some (.slice A0_2 l0_2.length c0_2) := (blk_cell BK839.out 2).trans rfl; have hcz6_3 : w5.cell? ⟨gb839, 3, none⟩ = some (.slice A0_3 l0_3.length c0_3) := (blk_cell BK839.out 3).trans rfl; have hfz6_0 := blk_frozen BK839.out 0; have hfz6_1 := blk_frozen BK839.out 1; have hfz6_2 := blk_frozen BK839.out 2; have hfz6_3 := blk_frozen BK839.out 3) | ((with_reducible refine gate_callee (f := 34) rfl ?_); refine goesL_ (some 9) rfl rfl Try.func34 (by kernel_rfl) rfl #[.agg #[.slice A0_0 l0_0.length c0_0, .int .i64 a0_1, .slice A0_2 l0_2.length c0_2, .slice A0_3 l0_3.length c0_3], .int .i64 a1] rfl (by (try simp only [List.map_toArray, List.map_cons, List.map_nil]); first | done | rfl | (simp only [List.length_drop, List.length_take]; rfl)) ?_; (with_reducible refine (spec_TrayAt.calls k _ _ l0_0 a0_1 _ _ l0_2 _ _ l0_3 a1 t840 _ ?side1 ?side2 ?side3 ?side4 ?side5 ?side6 A3.out).mono ?_); (case side1 => repeat (first | exact (Kd.V_reads' HO0_0.out).2.2 | (with_reducible refine Kd.C_alloc ?_ _) | (with_reducible refine Kd.C_drewN ?_ _) | (with_reducible refine Kd.C_drew ?_))); (case side2 => exact (Kd.V_reads' HO0_0.out).2.1); (case side3 => repeat (first | exact (Kd.V_reads' HO0_2.out).2.2 | (with_reducible refine Kd.C_alloc ?_ _) | (with_reducible refine Kd.C_drewN ?_ _) | (with_reducible refine Kd.C_drew ?_))); (case side4 => exact (Kd.V_reads' HO0_2.out).2.1); (case side5 => repeat (first | exact (Kd.V_reads' HO0_3.out).2.2 | (with_reducible refine Kd.C_alloc ?_ _) | (with_reducible refine Kd.C_drewN ?_ _) | (with_reducible refine Kd.C_drew ?_))); (case side6 => exact (Kd.V_reads' HO0_3.out).2.1); rintro e w7 ⟨rfl, hb⟩; refine ⟨_, rfl, ?_⟩; have n0_ := Aside0.mk (Kd.V_below (by (with_reducible repeat (first | apply Kd.V_alloc | apply Kd.V_drewN | apply Kd.V_drew)); exact HO0_0.out) hb); have n1_ := Aside0.mk (Kd.V_below (by (with_reducible repeat (first | apply Kd.V_alloc | apply Kd.V_drewN | apply Kd.V_drew)); exact HO0_2.out) hb); have n2_ := Aside0.mk (Kd.V_below (by (with_reducible repeat (first | apply Kd.V_alloc | apply Kd.V_drewN | apply Kd.V_drew)); exact HO0_3.out) hb); have n3_ := Aside0.mk (blk_below (g := gb839) (o := .cells #[.slice A0_0 l0_0.length c0_0, .int .i64 a0_1, .slice A0_2 l0_2.length c0_2, .slice A0_3 l0_3.length c0_3] 28 (0, 0)) (by (with_reducible repeat (first | refine blk_drewN ?_ _ | refine blk_drew ?_ | refine blk_alloc ?_ _)); exact BK839.out) hb); have n4_ := Aside0.mk (below_step (by repeat (first | (with_reducible first | exact HB.out | apply below_alloc | apply pw_below_drewN | apply below_drew1 | refine below_set ?_ GE839.out) | exact HB.out)) hb); clear HO0_0; clear HO0_2; clear HO0_3; clear BK839; clear HB; have HO0_0 := n0_; have HO0_2 := n1_; have HO0_3 := n2_; have BK839 := n3_; have HB := n4_; clear n0_ n1_ n2_ n3_ n4_; (try clear hb); (try clear hb2); (try clear hk); (try clear hi)))
  go_ret2
  exact ⟨by first | rfl | (simp [errW_none, errW_some] <;> rfl) | (simp [*, errW_none, errW_some] <;> rfl), by repeat (first | (with_reducible first | exact HB.out | apply below_alloc | apply pw_below_drewN | apply below_drew1 | refine below_set ?_ GE839.out) | exact HB.out)⟩
 ·rw [if_neg c4] at H
  have c4b0 : decide (t840 < 0) = false := decide_eq_false c4
  clear c4
  have H' := Aside0.mk H
  clear H
  go_enter Try.func36, Try.ntmps36
  go_wp2_with (first | ((with_reducible refine gate_dst (N := 2) rfl ?_); refine box_event ?hg (N := 2) ?hd (cs := #[.slice A0_0 l0_0.length c0_0, .int .i64 a0_1, .slice A0_2 l0_2.length c0_2, .slice A0_3 l0_3.length c0_3]) (t := 28) ?hr ?_; (case hd => rfl); (case hg => rfl); (case hr => first | (go_simp; done) | (go_simp; rfl)); intro gb839 hg w8 hbox hb; have n0_ := Aside0.mk (Kd.V_below (Kd.V_elderB (by (with_reducible repeat (first | apply Kd.V_alloc | apply Kd.V_drewN | apply Kd.V_drew)); exact HO0_0.out) gb839 (Nat.le_of_eq hg.symm)) hb); have n1_ := Aside0.mk (Kd.V_below (Kd.V_elderB (by (with_reducible repeat (first | apply Kd.V_alloc | apply Kd.V_drewN | apply Kd.V_drew)); exact HO0_2.out) gb839 (Nat.le_of_eq hg.symm)) hb); have n2_ := Aside0.mk (Kd.V_below (Kd.V_elderB (by (with_reducible repeat (first | apply Kd.V_alloc | apply Kd.V_drewN | apply Kd.V_drew)); exact HO0_3.out) gb839 (Nat.le_of_eq hg.symm)) hb); have n3_ := Aside0.mk (below_step (by repeat (first | (with_reducible first | exact HB.out | apply below_alloc | apply pw_below_drewN | apply below_drew1) | exact HB.out)) hb); have n4_ := Aside0.mk (hbox); have n5_ := Aside0.mk ((by rw [hg]; exact (below_size (by repeat (first | (with_reducible first | exact HB.out | apply below_alloc | apply pw_below_drewN | apply below_drew1) | exact HB.out))) : w.heap.size ≤ gb839)); have n6_ := Aside0.mk ((by rw [hg]; exact (below_size (by repeat (first | (with_reducible first | exact HB.out | apply below_alloc | apply pw_below_drewN | apply below_drew1) | exact HB.out))) : w.heap.size ≤ gb839)); clear HO0_0; clear HO0_2; clear HO0_3; clear HB; have HO0_0 := n0_; have HO0_2 := n1_; have HO0_3 := n2_; have HB := n3_; have BK839 := n4_; have GW839 := n5_; have GE839 := n6_; clear n0_ n1_ n2_ n3_ n4_ n5_ n6_; clear hb hbox hg; have hcz9_0 : w8.cell? ⟨gb839, 0, none⟩ = some (.slice A0_0 l0_0.length c0_0) := (blk_cell BK839.out 0).trans rfl; have hcz9_1 : w8.cell? ⟨gb839, 1, none⟩ = some (.int .i64 a0_1) := (blk_cell BK839.out 1).trans rfl; have hcz9_2 : w8.cell? ⟨gb839, 2, none⟩ = some (.slice A0_2 l0_2.length c0_2) := (blk_cell BK839.out 2).trans rfl; have hcz9_3 : w8.cell? ⟨gb839, 3, none⟩ = some (.slice A0_3 l0_3.length c0_3) := (blk_cell BK839.out 3).trans rfl; have hfz9_0 := blk_frozen BK839.out 0; have hfz9_1 := blk_frozen BK839.out 1; have hfz9_2 := blk_frozen BK839.out 2; have hfz9_3 := blk_frozen BK839.out 3) | ((with_reducible refine gate_callee (f := 34) rfl ?_); refine goesL_ (some 9) rfl rfl Try.func34 (by kernel_rfl) rfl #[.agg #[.slice A0_0 l0_0.length c0_0, .int .i64 a0_1, .slice A0_2 l0_2.length c0_2, .slice A0_3 l0_3.length c0_3], .int .i64 a1] rfl (by (try simp only [List.map_toArray, List.map_cons, List.map_nil]); first | done | rfl | (simp only [List.length_drop, List.length_take]; rfl)) ?_; (with_reducible refine (spec_TrayAt.calls k _ _ l0_0 a0_1 _ _ l0_2 _ _ l0_3 a1 t840 _ ?side1 ?side2 ?side3 ?side4 ?side5 ?side6 A3.out).mono ?_); (case side1 => repeat (first | exact (Kd.V_reads' HO0_0.out).2.2 | (with_reducible refine Kd.C_alloc ?_ _) | (with_reducible refine Kd.C_drewN ?_ _) | (with_reducible refine Kd.C_drew ?_))); (case side2 => exact (Kd.V_reads' HO0_0.out).2.1); (case side3 => repeat (first | exact (Kd.V_reads' HO0_2.out).2.2 | (with_reducible refine Kd.C_alloc ?_ _) | (with_reducible refine Kd.C_drewN ?_ _) | (with_reducible refine Kd.C_drew ?_))); (case side4 => exact (Kd.V_reads' HO0_2.out).2.1); (case side5 => repeat (first | exact (Kd.V_reads' HO0_3.out).2.2 | (with_reducible refine Kd.C_alloc ?_ _) | (with_reducible refine Kd.C_drewN ?_ _) | (with_reducible refine Kd.C_drew ?_))); (case side6 => exact (Kd.V_reads' HO0_3.out).2.1); rintro e w10 ⟨rfl, hb⟩; refine ⟨_, rfl, ?_⟩; have n0_ := Aside0.mk (Kd.V_below (by (with_reducible repeat (first | apply Kd.V_alloc | apply Kd.V_drewN | apply Kd.V_drew)); exact HO0_0.out) hb); have n1_ := Aside0.mk (Kd.V_below (by (with_reducible repeat (first | apply Kd.V_alloc | apply Kd.V_drewN | apply Kd.V_drew)); exact HO0_2.out) hb); have n2_ := Aside0.mk (Kd.V_below (by (with_reducible repeat (first | apply Kd.V_alloc | apply Kd.V_drewN | apply Kd.V_drew)); exact HO0_3.out) hb); have n3_ := Aside0.mk (blk_below (g := gb839) (o := .cells #[.slice A0_0 l0_0.length c0_0, .int .i64 a0_1, .slice A0_2 l0_2.length c0_2, .slice A0_3 l0_3.length c0_3] 28 (0, 0)) (by (with_reducible repeat (first | refine blk_drewN ?_ _ | refine blk_drew ?_ | refine blk_alloc ?_ _)); exact BK839.out) hb); have n4_ := Aside0.mk (below_step (by repeat (first | (with_reducible first | exact HB.out | apply below_alloc | apply pw_below_drewN | apply below_drew1 | refine below_set ?_ GE839.out) | exact HB.out)) hb); clear HO0_0; clear HO0_2; clear HO0_3; clear BK839; clear HB; have HO0_0 := n0_; have HO0_2 := n1_; have HO0_3 := n2_; have BK839 := n3_; have HB := n4_; clear n0_ n1_ n2_ n3_ n4_; (try clear hb); (try clear hb2); (try clear hk); (try clear hi)))
  go_loopg [6] k (fun kq v6 w' => ∃ (x6_1 : Int) (x840000_1 : List Int) (x840001_1 : Int) (x840002_1 : List (S69)) (x840003_1 : List (S74)) (u840000 : Value) (u840002 : Value) (u840003 : Value), v6 = .int .i64 x6_1 ∧ Aside0 (spec_EmptyAt.l0 kq a1 x6_1 x840000_1 x840001_1 x840002_1 x840003_1 = some (r1, r2)) ∧ Aside0 (kq ≤ k) ∧ Aside0 (Kd.V (Kd.int .i64) 3 w' w.heap.size (fun k_ => ((P0_0_ k_ ∨ P0_2_ k_ ∨ P0_3_ k_) ∨ w.heap.size ≤ k_) ∧ k_ ≠ gb839) u840000 x840000_1) ∧ Aside0 (Kd.V k69 69 w' w.heap.size (fun k_ => ((P0_0_ k_ ∨ P0_2_ k_ ∨ P0_3_ k_) ∨ w.heap.size ≤ k_) ∧ k_ ≠ gb839) u840002 x840002_1) ∧ Aside0 (Kd.V k74 74 w' w.heap.size (fun k_ => ((P0_0_ k_ ∨ P0_2_ k_ ∨ P0_3_ k_) ∨ w.heap.size ≤ k_) ∧ k_ ≠ gb839) u840003 x840003_1) ∧ Aside0 (w'.heap[gb839]? = some (.cells #[u840000, .int .i64 x840001_1, u840002, u840003] 28 (0, 0))) ∧ Aside0 (Below w.heap.size w w'))
  case atStart => exact ⟨(0), (l0_0), (a0_1), (l0_2), (l0_3), (.slice A0_0 l0_0.length c0_0), (.slice A0_2 l0_2.length c0_2), (.slice A0_3 l0_3.length c0_3), (by first | rfl | (simp; done) | (simp [*]; done)), H', ⟨Nat.le_refl _⟩, ⟨by (with_reducible repeat (first | apply Kd.V_alloc | apply Kd.V_drewN | apply Kd.V_drew)); exact HO0_0.out⟩, ⟨by (with_reducible repeat (first | apply Kd.V_alloc | apply Kd.V_drewN | apply Kd.V_drew)); exact HO0_2.out⟩, ⟨by (with_reducible repeat (first | apply Kd.V_alloc | apply Kd.V_drewN | apply Kd.V_drew)); exact HO0_3.out⟩, ⟨by (with_reducible repeat (first | refine blk_drewN ?_ _ | refine blk_drew ?_ | refine blk_alloc ?_ _)); exact BK839.out⟩, ⟨by repeat (first | (with_reducible first | exact HB.out | apply below_alloc | apply pw_below_drewN | apply below_drew1 | refine below_set ?_ GE839.out) | exact HB.out)⟩⟩
  case round =>
   clear H'
   try clear p2
   try clear c3
   try clear c4
   try clear c4b0
   try clear hcz6_0
   try clear hcz6_1
   try clear hcz6_2
   try clear hcz6_3
   try clear hcz9_0
   try clear hcz9_1
   try clear hcz9_2
   try clear hcz9_3
   try clear hfz6_0
   try clear hfz6_1
   try clear hfz6_2
   try clear hfz6_3
   try clear hfz9_0
   try clear hfz9_1
   try clear hfz9_2
   try clear hfz9_3
   obtain ⟨x6_1, x840000_1, x840001_1, x840002_1, x840003_1, u840000, u840002, u840003, rfl, HA, HK1, HO_840000, HO_840002, HO_840003, BK839, HB⟩ := hrel
   cases gk with
   | zero => exact absurd HA.out (by simp [spec_EmptyAt.l0])
   | succ k1 =>
    have H := HA.out
    clear HA
    simp only [spec_EmptyAt.l0] at H
    by_cases c11 : x6_1 ≤ 600
    ·rw [if_pos c11] at H
     have c11b0 : decide (x6_1 ≤ 600) = true := decide_eq_true c11
     clear c11
     replace H := Option.bind_eq_some_iff.mp H
     obtain ⟨t841, A120, H⟩ := H
     replace H : (if 0 ≤ t841 then (if t841 < (x840000_1.length : Int) then (if (rd x840000_1 t841) = 0 then (some (x6_1, true)) else ((spec_l05Step.f k1 x840000_1 x840001_1 x840002_1 x840003_1).bind fun bt843 => (spec_EmptyAt.l0 k1 a1 (wrap64 (x6_1 + 1)) bt843.1 bt843.2.1 bt843.2.2.1 bt843.2.2.2))) else (none)) else (none)) = some (r1, r2) := H
     have A12 := Aside0.mk A120
     clear A120
     by_cases c13 : 0 ≤ t841
     ·rw [if_pos c13] at H
      have c13b0 : decide (0 ≤ t841) = true := decide_eq_true c13
      clear c13
      by_cases c14 : t841 < (x840000_1.length : Int)
      ·rw [if_pos c14] at H
       have c14b0 : decide (t841 < (x840000_1.length : Int)) = true := decide_eq_true c14
       clear c14
       by_cases c15 : (rd x840000_1 t841) = 0
       ·rw [if_pos c15] at H
        have c15b0 : ((rd x840000_1 t841) == 0) = true := beq_iff_eq.mpr c15
        have c15b1 : ((rd x840000_1 t841) != 0) = false := bne_eq_false_iff_eq.mpr c15
        clear c15
        simp only [Option.some.injEq, Prod.mk.injEq] at H
        obtain ⟨rfl, rfl⟩ := H
        try go_wp2
        have n0_ := Aside0.mk (Kd.V_drew HO_840000.out)
        have n1_ := Aside0.mk (Kd.V_drew HO_840002.out)
        have n2_ := Aside0.mk (Kd.V_drew HO_840003.out)
        have n3_ := Aside0.mk (blk_drew BK839.out)
        have n4_ := Aside0.mk (below_drew1 HB.out)
        clear HO_840000
        clear HO_840002
        clear HO_840003
        clear BK839
        clear HB
        have HO_840000 := n0_
        have HO_840002 := n1_
        have HO_840003 := n2_
        have BK839 := n3_
        have HB := n4_
        clear n0_ n1_ n2_ n3_ n4_
        obtain ⟨Ao17, co17, eo17⟩ := Kd.V_slice HO_840000.out
        (first | subst eo17 | (injection eo17 with f1_ f2_ f3_; have f4_ := f1_.symm; have f5_ := f3_.symm; clear f1_ f2_ f3_; subst f4_; subst f5_))
        obtain ⟨Ao18, co18, eo18⟩ := Kd.V_slice HO_840002.out
        (first | subst eo18 | (injection eo18 with f1_ f2_ f3_; have f4_ := f1_.symm; have f5_ := f3_.symm; clear f1_ f2_ f3_; subst f4_; subst f5_))
        obtain ⟨Ao19, co19, eo19⟩ := Kd.V_slice HO_840003.out
        (first | subst eo19 | (injection eo19 with f1_ f2_ f3_; have f4_ := f1_.symm; have f5_ := f3_.symm; clear f1_ f2_ f3_; subst f4_; subst f5_))
        have p842 : 0 ≤ (t841 : Int) := of_decide_eq_true (by first | (with_reducible assumption) | assumption)
        have q842 : t841 < (x840000_1.length : Int) := of_decide_eq_true (by first | (with_reducible assumption) | assumption)
        obtain ⟨ad842, e842, hx842_0⟩ := Kd.at_int (Kd.V_reads' HO_840000.out).2.2 t841 p842 q842
        cases e842
        replace p842 := eq_true p842
        replace q842 := eq_true q842
        refine start_ (n := 8) (S := fun w' => w'.cell? ⟨gb839, 0, none⟩ = some (.slice (some ad842) x840000_1.length co17) ∧ w'.cell? ⟨gb839, 1, none⟩ = some (.int .i64 x840001_1) ∧ w'.cell? ⟨gb839, 2, none⟩ = some (.slice Ao18 x840002_1.length co18) ∧ w'.cell? ⟨gb839, 3, none⟩ = some (.slice Ao19 x840003_1.length co19) ∧ w'.cell? (ad842.add (t841).toNat) = some (.int .i64 (rd x840000_1 t841))) (ds := []) #[false, false, false, false, false, false, false, false] (by kernel_rfl) rfl rfl ⟨(blk_cell BK839.out 0).trans rfl, (blk_cell BK839.out 1).trans rfl, (blk_cell BK839.out 2).trans rfl, (blk_cell BK839.out 3).trans rfl, hx842_0⟩ (fun hHeld => ?_); refine with_tabW spec_EmptyAt.tab6 spec_EmptyAt.bits6 (fun HT_ HW_ => ?_)
        generalize wr.drew = w16 at HO_840000 HO_840002 HO_840003 BK839 HB hx842_0 hHeld ⊢
        refine pure_ (i := 0) (N := some 15) (v := ?_) (a' := ?_) #[true, false, false, false, false, false, false, false] rfl rfl (any_of HT_.out (by kernel_rfl)) (fun _ _ _ h => h) (Or.inl ⟨by rfl, ?_⟩) ?_ ?_
        rotate_left
        ·intro w'
         go_simp
         with_reducible rfl
        rotate_left
        ·simp only [Act.put, List.setIfInBounds_toArray, List.set_cons_zero, List.set_cons_succ, i64_w, i32_w]
         rfl
        refine pure_ (i := 3) (N := some 18) (v := ?_) (a' := ?_) #[true, false, false, true, false, false, false, false] rfl rfl (any_of HT_.out (by kernel_rfl)) (fun _ _ _ h => h) (Or.inl ⟨by rfl, ?_⟩) ?_ ?_
        rotate_left
        ·intro w'
         go_simp
         with_reducible rfl
        rotate_left
        ·simp only [Act.put, List.setIfInBounds_toArray, List.set_cons_zero, List.set_cons_succ, i64_w, i32_w]
         rfl
        refine take_ (i := 1) (N := some 16) (v := ?_) (a' := ?_) #[true, true, false, true, false, false, false, false] rfl rfl (take_ofW HT_.out HW_.out (by kernel_rfl)) (fun _ _ _ h => h) (Or.inl ⟨by rfl, ?_⟩) hHeld ?_ ?_
        rotate_left
        ·rintro w' ⟨s0, s1, s2, s3, s4⟩
         go_simp
         with_reducible rfl
        rotate_left
        ·simp only [Act.put, List.setIfInBounds_toArray, List.set_cons_zero, List.set_cons_succ, i64_w, i32_w]
         rfl
        refine take_ (i := 2) (N := some 17) (v := ?_) (a' := ?_) #[true, true, true, true, false, false, false, false] rfl rfl (take_ofW HT_.out HW_.out (by kernel_rfl)) (fun _ _ _ h => h) (Or.inl ⟨by rfl, ?_⟩) hHeld ?_ ?_
        rotate_left
        ·rintro w' ⟨s0, s1, s2, s3, s4⟩
         go_simp
         with_reducible rfl
        rotate_left
        ·simp only [Act.put, List.setIfInBounds_toArray, List.set_cons_zero, List.set_cons_succ, i64_w, i32_w]
         rfl
        refine one_ (i := 4) (N := some 19) #[true, true, true, true, true, false, false, false] rfl rfl (one_of HT_.out (by kernel_rfl)) (by decide) (fun K hK => ?_)
        refine goes_ Try.func77 (by kernel_rfl) rfl #[.agg #[.slice (some ad842) x840000_1.length co17, .int .i64 x840001_1, .slice Ao18 x840002_1.length co18, .slice Ao19 x840003_1.length co19], .int .i64 a1] (by rfl) rfl rfl (by (try simp only [List.map_toArray, List.map_cons, List.map_nil]); first | done | rfl | (simp only [List.length_drop, List.length_take]; rfl)) ?_
        with_reducible refine (spec_l05Tray.calls _ _ x840000_1 x840001_1 _ _ x840002_1 _ _ x840003_1 a1 t841 _ ?side1 ?side2 ?side3 ?side4 ?side5 ?side6 A12.out).mono ?_
        (case side1 => repeat (first | exact (Kd.V_reads' HO_840000.out).2.2 | (with_reducible refine Kd.C_alloc ?_ _) | (with_reducible refine Kd.C_drewN ?_ _) | (with_reducible refine Kd.C_drew ?_)))
        (case side2 => exact (Kd.V_reads' HO_840000.out).2.1)
        (case side3 => repeat (first | exact (Kd.V_reads' HO_840002.out).2.2 | (with_reducible refine Kd.C_alloc ?_ _) | (with_reducible refine Kd.C_drewN ?_ _) | (with_reducible refine Kd.C_drew ?_)))
        (case side4 => exact (Kd.V_reads' HO_840002.out).2.1)
        (case side5 => repeat (first | exact (Kd.V_reads' HO_840003.out).2.2 | (with_reducible refine Kd.C_alloc ?_ _) | (with_reducible refine Kd.C_drewN ?_ _) | (with_reducible refine Kd.C_drew ?_)))
        (case side6 => exact (Kd.V_reads' HO_840003.out).2.1)
        rintro e w20 ⟨rfl, hb⟩
        have HS4_ := (hb.cell (World.block_lt_of_cell? _ _ (hHeld.2.2.2.2))).trans (hHeld.2.2.2.2)
        refine ⟨_, rfl, ?_⟩
        have n0_ := Aside0.mk (Kd.V_below (by (with_reducible repeat (first | apply Kd.V_alloc | apply Kd.V_drewN | apply Kd.V_drew)); exact HO_840000.out) hb)
        have n1_ := Aside0.mk (Kd.V_below (by (with_reducible repeat (first | apply Kd.V_alloc | apply Kd.V_drewN | apply Kd.V_drew)); exact HO_840002.out) hb)
        have n2_ := Aside0.mk (Kd.V_below (by (with_reducible repeat (first | apply Kd.V_alloc | apply Kd.V_drewN | apply Kd.V_drew)); exact HO_840003.out) hb)
        have n3_ := Aside0.mk (blk_below (g := gb839) (o := .cells #[.slice (some ad842) x840000_1.length co17, .int .i64 x840001_1, .slice Ao18 x840002_1.length co18, .slice Ao19 x840003_1.length co19] 28 (0, 0)) (by (with_reducible repeat (first | refine blk_drewN ?_ _ | refine blk_drew ?_ | refine blk_alloc ?_ _)); exact BK839.out) hb)
        have n4_ := Aside0.mk (below_step (by repeat (first | (with_reducible first | exact HB.out | apply below_alloc | apply pw_below_drewN | apply below_drew1 | refine below_set ?_ GE839.out) | exact HB.out)) hb)
        clear HO_840000
        clear HO_840002
        clear HO_840003
        clear BK839
        clear HB
        have HO_840000 := n0_
        have HO_840002 := n1_
        have HO_840003 := n2_
        have BK839 := n3_
        have HB := n4_
        clear n0_ n1_ n2_ n3_ n4_
        (try clear hb)
        (try clear hb2)
        (try clear hk)
        (try clear hi)
        refine hK.out _ _ ⟨(blk_cell BK839.out 0).trans rfl, (blk_cell BK839.out 1).trans rfl, (blk_cell BK839.out 2).trans rfl, (blk_cell BK839.out 3).trans rfl, HS4_⟩ (fun hHeld => ?_)
        clear hK K
        refine norm_ (a' := ?_) ?_ ?_
        rotate_left
        ·show Act.put _ (some 19) _ = _
         simp only [Act.put, List.setIfInBounds_toArray, List.set_cons_zero, List.set_cons_succ, i64_w, i32_w]
         rfl
        refine pure_ (i := 5) (N := some 20) (v := ?_) (a' := ?_) #[true, true, true, true, true, true, false, false] rfl rfl (any_of HT_.out (by kernel_rfl)) (fun _ _ _ h => h) (Or.inl ⟨by rfl, ?_⟩) ?_ ?_
        rotate_left
        ·intro w'
         go_simp
         with_reducible rfl
        rotate_left
        ·simp only [Act.put, List.setIfInBounds_toArray, List.set_cons_zero, List.set_cons_succ, i64_w, i32_w]
         rfl
        refine take_ (i := 6) (N := some 21) (v := ?_) (a' := ?_) #[true, true, true, true, true, true, true, false] rfl rfl (take_ofW HT_.out HW_.out (by kernel_rfl)) (fun _ _ _ h => h) (Or.inl ⟨by rfl, ?_⟩) hHeld ?_ ?_
        rotate_left
        ·rintro w' ⟨s0, s1, s2, s3, s4⟩
         go_simp
         with_reducible rfl
        rotate_left
        ·simp only [Act.put, List.setIfInBounds_toArray, List.set_cons_zero, List.set_cons_succ, i64_w, i32_w]
         rfl
        refine pure_ (i := 7) (N := some 22) (v := ?_) (a' := ?_) #[true, true, true, true, true, true, true, true] rfl rfl (any_of HT_.out (by kernel_rfl)) (fun _ _ _ h => h) (Or.inl ⟨by rfl, ?_⟩) ?_ ?_
        rotate_left
        ·intro w'
         go_simp
         with_reducible rfl
        rotate_left
        ·simp only [Act.put, List.setIfInBounds_toArray, List.set_cons_zero, List.set_cons_succ, i64_w, i32_w]
         rfl
        refine done_ (done_of HT_.out (by kernel_rfl)) ?_
        try go_wp2
        go_ret2
        exact ⟨by first | rfl | (simp [errW_none, errW_some] <;> rfl) | (simp [*, errW_none, errW_some] <;> rfl), by repeat (first | (with_reducible first | exact HB.out | apply below_alloc | apply pw_below_drewN | apply below_drew1 | refine below_set ?_ GE839.out) | exact HB.out)⟩
       ·rw [if_neg c15] at H
        have c15b0 : ((rd x840000_1 t841) == 0) = false := beq_eq_false_iff_ne.mpr c15
        have c15b1 : ((rd x840000_1 t841) != 0) = true := bne_iff_ne.mpr c15
        replace H := Option.bind_eq_some_iff.mp H
        obtain ⟨⟨t843, t846, t847, t850⟩, A210, H⟩ := H
        replace H : (spec_EmptyAt.l0 k1 a1 (wrap64 (x6_1 + 1)) t843 t846 t847 t850) = some (r1, r2) := H
        have A21 := Aside0.mk A210
        clear A210
        have H' := Aside0.mk H
        clear H
        try go_wp2
        have n0_ := Aside0.mk (Kd.V_drew HO_840000.out)
        have n1_ := Aside0.mk (Kd.V_drew HO_840002.out)
        have n2_ := Aside0.mk (Kd.V_drew HO_840003.out)
        have n3_ := Aside0.mk (blk_drew BK839.out)
        have n4_ := Aside0.mk (below_drew1 HB.out)
        clear HO_840000
        clear HO_840002
        clear HO_840003
        clear BK839
        clear HB
        have HO_840000 := n0_
        have HO_840002 := n1_
        have HO_840003 := n2_
        have BK839 := n3_
        have HB := n4_
        clear n0_ n1_ n2_ n3_ n4_
        obtain ⟨Ao23, co23, eo23⟩ := Kd.V_slice HO_840000.out
        (first | subst eo23 | (injection eo23 with f1_ f2_ f3_; have f4_ := f1_.symm; have f5_ := f3_.symm; clear f1_ f2_ f3_; subst f4_; subst f5_))
        obtain ⟨Ao24, co24, eo24⟩ := Kd.V_slice HO_840002.out
        (first | subst eo24 | (injection eo24 with f1_ f2_ f3_; have f4_ := f1_.symm; have f5_ := f3_.symm; clear f1_ f2_ f3_; subst f4_; subst f5_))
        obtain ⟨Ao25, co25, eo25⟩ := Kd.V_slice HO_840003.out
        (first | subst eo25 | (injection eo25 with f1_ f2_ f3_; have f4_ := f1_.symm; have f5_ := f3_.symm; clear f1_ f2_ f3_; subst f4_; subst f5_))
        have p842 : 0 ≤ (t841 : Int) := of_decide_eq_true (by first | (with_reducible assumption) | assumption)
        have q842 : t841 < (x840000_1.length : Int) := of_decide_eq_true (by first | (with_reducible assumption) | assumption)
        obtain ⟨ad842, e842, hx842_0⟩ := Kd.at_int (Kd.V_reads' HO_840000.out).2.2 t841 p842 q842
        cases e842
        replace p842 := eq_true p842
        replace q842 := eq_true q842
        refine start_ (n := 8) (S := fun w' => w'.cell? ⟨gb839, 0, none⟩ = some (.slice (some ad842) x840000_1.length co23) ∧ w'.cell? ⟨gb839, 1, none⟩ = some (.int .i64 x840001_1) ∧ w'.cell? ⟨gb839, 2, none⟩ = some (.slice Ao24 x840002_1.length co24) ∧ w'.cell? ⟨gb839, 3, none⟩ = some (.slice Ao25 x840003_1.length co25) ∧ w'.cell? (ad842.add (t841).toNat) = some (.int .i64 (rd x840000_1 t841))) (ds := []) #[false, false, false, false, false, false, false, false] (by kernel_rfl) rfl rfl ⟨(blk_cell BK839.out 0).trans rfl, (blk_cell BK839.out 1).trans rfl, (blk_cell BK839.out 2).trans rfl, (blk_cell BK839.out 3).trans rfl, hx842_0⟩ (fun hHeld => ?_); refine with_tabW spec_EmptyAt.tab6 spec_EmptyAt.bits6 (fun HT_ HW_ => ?_)
        generalize wr.drew = w22 at HO_840000 HO_840002 HO_840003 BK839 HB hx842_0 hHeld ⊢
        refine pure_ (i := 0) (N := some 15) (v := ?_) (a' := ?_) #[true, false, false, false, false, false, false, false] rfl rfl (any_of HT_.out (by kernel_rfl)) (fun _ _ _ h => h) (Or.inl ⟨by rfl, ?_⟩) ?_ ?_
        rotate_left
        ·intro w'
         go_simp
         with_reducible rfl
        rotate_left
        ·simp only [Act.put, List.setIfInBounds_toArray, List.set_cons_zero, List.set_cons_succ, i64_w, i32_w]
         rfl
        refine pure_ (i := 3) (N := some 18) (v := ?_) (a' := ?_) #[true, false, false, true, false, false, false, false] rfl rfl (any_of HT_.out (by kernel_rfl)) (fun _ _ _ h => h) (Or.inl ⟨by rfl, ?_⟩) ?_ ?_
        rotate_left
        ·intro w'
         go_simp
         with_reducible rfl
        rotate_left
        ·simp only [Act.put, List.setIfInBounds_toArray, List.set_cons_zero, List.set_cons_succ, i64_w, i32_w]
         rfl
        refine take_ (i := 1) (N := some 16) (v := ?_) (a' := ?_) #[true, true, false, true, false, false, false, false] rfl rfl (take_ofW HT_.out HW_.out (by kernel_rfl)) (fun _ _ _ h => h) (Or.inl ⟨by rfl, ?_⟩) hHeld ?_ ?_
        rotate_left
        ·rintro w' ⟨s0, s1, s2, s3, s4⟩
         go_simp
         with_reducible rfl
        rotate_left
        ·simp only [Act.put, List.setIfInBounds_toArray, List.set_cons_zero, List.set_cons_succ, i64_w, i32_w]
         rfl
        refine take_ (i := 2) (N := some 17) (v := ?_) (a' := ?_) #[true, true, true, true, false, false, false, false] rfl rfl (take_ofW HT_.out HW_.out (by kernel_rfl)) (fun _ _ _ h => h) (Or.inl ⟨by rfl, ?_⟩) hHeld ?_ ?_
        rotate_left
        ·rintro w' ⟨s0, s1, s2, s3, s4⟩
         go_simp
         with_reducible rfl
        rotate_left
        ·simp only [Act.put, List.setIfInBounds_toArray, List.set_cons_zero, List.set_cons_succ, i64_w, i32_w]
         rfl
        refine one_ (i := 4) (N := some 19) #[true, true, true, true, true, false, false, false] rfl rfl (one_of HT_.out (by kernel_rfl)) (by decide) (fun K hK => ?_)
        refine goes_ Try.func77 (by kernel_rfl) rfl #[.agg #[.slice (some ad842) x840000_1.length co23, .int .i64 x840001_1, .slice Ao24 x840002_1.length co24, .slice Ao25 x840003_1.length co25], .int .i64 a1] (by rfl) rfl rfl (by (try simp only [List.map_toArray, List.map_cons, List.map_nil]); first | done | rfl | (simp only [List.length_drop, List.length_take]; rfl)) ?_
        with_reducible refine (spec_l05Tray.calls _ _ x840000_1 x840001_1 _ _ x840002_1 _ _ x840003_1 a1 t841 _ ?side1 ?side2 ?side3 ?side4 ?side5 ?side6 A12.out).mono ?_
        (case side1 => repeat (first | exact (Kd.V_reads' HO_840000.out).2.2 | (with_reducible refine Kd.C_alloc ?_ _) | (with_reducible refine Kd.C_drewN ?_ _) | (with_reducible refine Kd.C_drew ?_)))
        (case side2 => exact (Kd.V_reads' HO_840000.out).2.1)
        (case side3 => repeat (first | exact (Kd.V_reads' HO_840002.out).2.2 | (with_reducible refine Kd.C_alloc ?_ _) | (with_reducible refine Kd.C_drewN ?_ _) | (with_reducible refine Kd.C_drew ?_)))
        (case side4 => exact (Kd.V_reads' HO_840002.out).2.1)
        (case side5 => repeat (first | exact (Kd.V_reads' HO_840003.out).2.2 | (with_reducible refine Kd.C_alloc ?_ _) | (with_reducible refine Kd.C_drewN ?_ _) | (with_reducible refine Kd.C_drew ?_)))
        (case side6 => exact (Kd.V_reads' HO_840003.out).2.1)
        rintro e w26 ⟨rfl, hb⟩
        have HS4_ := (hb.cell (World.block_lt_of_cell? _ _ (hHeld.2.2.2.2))).trans (hHeld.2.2.2.2)
        refine ⟨_, rfl, ?_⟩
        have n0_ := Aside0.mk (Kd.V_below (by (with_reducible repeat (first | apply Kd.V_alloc | apply Kd.V_drewN | apply Kd.V_drew)); exact HO_840000.out) hb)
        have n1_ := Aside0.mk (Kd.V_below (by (with_reducible repeat (first | apply Kd.V_alloc | apply Kd.V_drewN | apply Kd.V_drew)); exact HO_840002.out) hb)
        have n2_ := Aside0.mk (Kd.V_below (by (with_reducible repeat (first | apply Kd.V_alloc | apply Kd.V_drewN | apply Kd.V_drew)); exact HO_840003.out) hb)
        have n3_ := Aside0.mk (blk_below (g := gb839) (o := .cells #[.slice (some ad842) x840000_1.length co23, .int .i64 x840001_1, .slice Ao24 x840002_1.length co24, .slice Ao25 x840003_1.length co25] 28 (0, 0)) (by (with_reducible repeat (first | refine blk_drewN ?_ _ | refine blk_drew ?_ | refine blk_alloc ?_ _)); exact BK839.out) hb)
        have n4_ := Aside0.mk (below_step (by repeat (first | (with_reducible first | exact HB.out | apply below_alloc | apply pw_below_drewN | apply below_drew1 | refine below_set ?_ GE839.out) | exact HB.out)) hb)
        clear HO_840000
        clear HO_840002
        clear HO_840003
        clear BK839
        clear HB
        have HO_840000 := n0_
        have HO_840002 := n1_
        have HO_840003 := n2_
        have BK839 := n3_
        have HB := n4_
        clear n0_ n1_ n2_ n3_ n4_
        (try clear hb)
        (try clear hb2)
        (try clear hk)
        (try clear hi)
        refine hK.out _ _ ⟨(blk_cell BK839.out 0).trans rfl, (blk_cell BK839.out 1).trans rfl, (blk_cell BK839.out 2).trans rfl, (blk_cell BK839.out 3).trans rfl, HS4_⟩ (fun hHeld => ?_)
        clear hK K
        refine norm_ (a' := ?_) ?_ ?_
        rotate_left
        ·show Act.put _ (some 19) _ = _
         simp only [Act.put, List.setIfInBounds_toArray, List.set_cons_zero, List.set_cons_succ, i64_w, i32_w]
         rfl
        refine pure_ (i := 5) (N := some 20) (v := ?_) (a' := ?_) #[true, true, true, true, true, true, false, false] rfl rfl (any_of HT_.out (by kernel_rfl)) (fun _ _ _ h => h) (Or.inl ⟨by rfl, ?_⟩) ?_ ?_
        rotate_left
        ·intro w'
         go_simp
         with_reducible rfl
        rotate_left
        ·simp only [Act.put, List.setIfInBounds_toArray, List.set_cons_zero, List.set_cons_succ, i64_w, i32_w]
         rfl
        refine take_ (i := 6) (N := some 21) (v := ?_) (a' := ?_) #[true, true, true, true, true, true, true, false] rfl rfl (take_ofW HT_.out HW_.out (by kernel_rfl)) (fun _ _ _ h => h) (Or.inl ⟨by rfl, ?_⟩) hHeld ?_ ?_
        rotate_left
        ·rintro w' ⟨s0, s1, s2, s3, s4⟩
         go_simp
         with_reducible rfl
        rotate_left
        ·simp only [Act.put, List.setIfInBounds_toArray, List.set_cons_zero, List.set_cons_succ, i64_w, i32_w]
         rfl
        refine pure_ (i := 7) (N := some 22) (v := ?_) (a' := ?_) #[true, true, true, true, true, true, true, true] rfl rfl (any_of HT_.out (by kernel_rfl)) (fun _ _ _ h => h) (Or.inl ⟨by rfl, ?_⟩) ?_ ?_
        rotate_left
        ·intro w'
         go_simp
         with_reducible rfl
        rotate_left
        ·simp only [Act.put, List.setIfInBounds_toArray, List.set_cons_zero, List.set_cons_succ, i64_w, i32_w]
         rfl
        refine done_ (done_of HT_.out (by kernel_rfl)) ?_
        have hcz27_0 : w26.cell? ⟨gb839, 0, none⟩ = some (.slice (some ad842) x840000_1.length co23) := (blk_cell BK839.out 0).trans rfl
        have hcz27_1 : w26.cell? ⟨gb839, 1, none⟩ = some (.int .i64 x840001_1) := (blk_cell BK839.out 1).trans rfl
        have hcz27_2 : w26.cell? ⟨gb839, 2, none⟩ = some (.slice Ao24 x840002_1.length co24) := (blk_cell BK839.out 2).trans rfl
        have hcz27_3 : w26.cell? ⟨gb839, 3, none⟩ = some (.slice Ao25 x840003_1.length co25) := (blk_cell BK839.out 3).trans rfl
        have hfz27_0 := blk_frozen BK839.out 0
        have hfz27_1 := blk_frozen BK839.out 1
        have hfz27_2 := blk_frozen BK839.out 2
        have hfz27_3 := blk_frozen BK839.out 3
        try go_wp2_with (first | ((with_reducible refine gate_callee (f := 56) rfl ?_); refine goesL_ (some 25) rfl rfl Try.func56 (by kernel_rfl) rfl #[.agg #[.slice (some ad842) x840000_1.length co23, .int .i64 x840001_1, .slice Ao24 x840002_1.length co24, .slice Ao25 x840003_1.length co25]] rfl (by (try simp only [List.map_toArray, List.map_cons, List.map_nil]); first | done | rfl | (simp only [List.length_drop, List.length_take]; rfl)) ?_; (with_reducible refine (spec_l05Step.calls k1 _ _ x840000_1 x840001_1 _ _ x840002_1 _ _ x840003_1 t843 t846 t847 t850 _ ?side1 ?side2 ?side3 ?side4 ?side5 ?side6 A21.out).mono ?_); (case side1 => repeat (first | exact (Kd.V_reads' HO_840000.out).2.2 | (with_reducible refine Kd.C_alloc ?_ _) | (with_reducible refine Kd.C_drewN ?_ _) | (with_reducible refine Kd.C_drew ?_))); (case side2 => exact (Kd.V_reads' HO_840000.out).2.1); (case side3 => repeat (first | exact (Kd.V_reads' HO_840002.out).2.2 | (with_reducible refine Kd.C_alloc ?_ _) | (with_reducible refine Kd.C_drewN ?_ _) | (with_reducible refine Kd.C_drew ?_))); (case side4 => exact (Kd.V_reads' HO_840002.out).2.1); (case side5 => repeat (first | exact (Kd.V_reads' HO_840003.out).2.2 | (with_reducible refine Kd.C_alloc ?_ _) | (with_reducible refine Kd.C_drewN ?_ _) | (with_reducible refine Kd.C_drew ?_))); (case side6 => exact (Kd.V_reads' HO_840003.out).2.1); rintro e w28 ⟨v844, v848, v851, rfl, ho0, ho1, ho2, hb⟩; refine ⟨_, rfl, ?_⟩; have n0_ := Aside0.mk (Kd.V_mono (Kd.V_told (Kd.V_told (Kd.V_told (Kd.V_old (by (with_reducible repeat (first | apply Kd.V_alloc | apply Kd.V_drewN | apply Kd.V_drew)); exact HO_840000.out) hb) (Kd.R_base ho0)) (Kd.S_base ho1)) (Kd.S_base ho2)) (fun _ h_ => h_.1)); have n1_ := Aside0.mk (Kd.V_mono (Kd.V_told (Kd.V_told (Kd.V_told (Kd.V_old (by (with_reducible repeat (first | apply Kd.V_alloc | apply Kd.V_drewN | apply Kd.V_drew)); exact HO_840002.out) hb) (Kd.R_base ho0)) (Kd.S_base ho1)) (Kd.S_base ho2)) (fun _ h_ => h_.1)); have n2_ := Aside0.mk (Kd.V_mono (Kd.V_told (Kd.V_told (Kd.V_told (Kd.V_old (by (with_reducible repeat (first | apply Kd.V_alloc | apply Kd.V_drewN | apply Kd.V_drew)); exact HO_840003.out) hb) (Kd.R_base ho0)) (Kd.S_base ho1)) (Kd.S_base ho2)) (fun _ h_ => h_.1)); have n3_ := Aside0.mk (Kd.R_lower (Kd.R_newM (M := fun k_ => (w.heap.size ≤ k_)) ho0 (below_size (by repeat (first | (with_reducible first | exact HB.out | apply below_alloc | apply pw_below_drewN | apply below_drew1 | refine below_set ?_ GE839.out) | exact HB.out))) (fun k_ h_ => h_)) (below_size (by repeat (first | (with_reducible first | exact HB.out | apply below_alloc | apply pw_below_drewN | apply below_drew1 | refine below_set ?_ GE839.out) | exact HB.out)))); have n4_ := Aside0.mk (Kd.S_lower (Kd.S_newM (M := fun k_ => (w.heap.size ≤ k_)) ho1 (below_size (by repeat (first | (with_reducible first | exact HB.out | apply below_alloc | apply pw_below_drewN | apply below_drew1 | refine below_set ?_ GE839.out) | exact HB.out))) (fun k_ h_ => h_)) (below_size (by repeat (first | (with_reducible first | exact HB.out | apply below_alloc | apply pw_below_drewN | apply below_drew1 | refine below_set ?_ GE839.out) | exact HB.out)))); have n5_ := Aside0.mk (Kd.S_lower (Kd.S_newM (M := fun k_ => (w.heap.size ≤ k_)) ho2 (below_size (by repeat (first | (with_reducible first | exact HB.out | apply below_alloc | apply pw_below_drewN | apply below_drew1 | refine below_set ?_ GE839.out) | exact HB.out))) (fun k_ h_ => h_)) (below_size (by repeat (first | (with_reducible first | exact HB.out | apply below_alloc | apply pw_below_drewN | apply below_drew1 | refine below_set ?_ GE839.out) | exact HB.out)))); have n6_ := Aside0.mk (blk_below (g := gb839) (o := .cells #[.slice (some ad842) x840000_1.length co23, .int .i64 x840001_1, .slice Ao24 x840002_1.length co24, .slice Ao25 x840003_1.length co25] 28 (0, 0)) (by (with_reducible repeat (first | refine blk_drewN ?_ _ | refine blk_drew ?_ | refine blk_alloc ?_ _)); exact BK839.out) hb); have n7_ := Aside0.mk (below_step (by repeat (first | (with_reducible first | exact HB.out | apply below_alloc | apply pw_below_drewN | apply below_drew1 | refine below_set ?_ GE839.out) | exact HB.out)) hb); clear HO_840000; clear HO_840002; clear HO_840003; clear BK839; clear HB; have HO_840000 := n0_; have HO_840002 := n1_; have HO_840003 := n2_; have HO845 := n3_; have HO849 := n4_; have HO852 := n5_; have BK839 := n6_; have HB := n7_; clear n0_ n1_ n2_ n3_ n4_ n5_ n6_ n7_; (try clear hb); (try clear hb2); (try clear hk); (try clear hi); (try clear ho0); (try clear ho1); (try clear ho2); obtain ⟨Ao29, co29, eo29⟩ := Kd.R_slice HO845.out; subst eo29; have hcz30_0 : w28.cell? ⟨gb839, 0, none⟩ = some (.slice (some ad842) x840000_1.length co23) := (blk_cell BK839.out 0).trans rfl; have hcz30_1 : w28.cell? ⟨gb839, 1, none⟩ = some (.int .i64 x840001_1) := (blk_cell BK839.out 1).trans rfl; have hcz30_2 : w28.cell? ⟨gb839, 2, none⟩ = some (.slice Ao24 x840002_1.length co24) := (blk_cell BK839.out 2).trans rfl; have hcz30_3 : w28.cell? ⟨gb839, 3, none⟩ = some (.slice Ao25 x840003_1.length co25) := (blk_cell BK839.out 3).trans rfl; have hfz30_0 := blk_frozen BK839.out 0; have hfz30_1 := blk_frozen BK839.out 1; have hfz30_2 := blk_frozen BK839.out 2; have hfz30_3 := blk_frozen BK839.out 3; obtain ⟨Ao31, co31, eo31⟩ := Kd.S_slice HO849.out; subst eo31; obtain ⟨Ao32, co32, eo32⟩ := Kd.S_slice HO852.out; subst eo32))
        go_roundg k1
        case measure => have := HK1.out; omega
        case rel => exact ⟨(wrap64 (x6_1 + 1)), (t843), (t846), (t847), (t850), (.slice Ao29 t843.length co29), (.slice Ao31 t847.length co31), (.slice Ao32 t850.length co32), (by first | rfl | (simp; done) | (simp [*]; done)), H', ⟨by have := HK1.out; omega⟩, ⟨Kd.V_mono (Kd.R_V (by (with_reducible repeat (first | apply Kd.R_alloc | apply Kd.R_drewN | apply Kd.R_drew)); exact Kd.R_mono (ok' := fun k_ => (((w.heap.size ≤ k_)) ∧ k_ ≠ gb839)) (Kd.R_far (p := ⟨gb839, 3, none⟩) (Kd.R_far (p := ⟨gb839, 2, none⟩) (Kd.R_far (p := ⟨gb839, 1, none⟩) (Kd.R_far (p := ⟨gb839, 0, none⟩) (Kd.R_types (Kd.R_types HO845.out BK839.out (by decide)) BK839.out (by decide)) (fun _ hk => hk.2) (.slice Ao29 t843.length co29)) (fun _ hk => hk.2) (.int .i64 t846)) (fun _ hk => hk.2) (.slice Ao31 t847.length co31)) (fun _ hk => hk.2) (.slice Ao32 t850.length co32)) (fun _ hk => ⟨hk.1.1.1, hk.1.2⟩))) (fun k_ hk => by first | exact ⟨(.inr (hk.1)), hk.2⟩ | exact (.inr (hk)))⟩, ⟨Kd.V_mono (Kd.S_V (by (with_reducible repeat (first | apply Kd.S_alloc | apply Kd.S_drewN | apply Kd.S_drew)); exact Kd.S_mono (ok' := fun k_ => (((w.heap.size ≤ k_)) ∧ k_ ≠ gb839)) (Kd.S_far (p := ⟨gb839, 3, none⟩) (Kd.S_far (p := ⟨gb839, 2, none⟩) (Kd.S_far (p := ⟨gb839, 1, none⟩) (Kd.S_far (p := ⟨gb839, 0, none⟩) (Kd.S_types (Kd.S_types HO849.out BK839.out (by decide)) BK839.out (by decide)) (fun _ hk => hk.2) (.slice Ao29 t843.length co29)) (fun _ hk => hk.2) (.int .i64 t846)) (fun _ hk => hk.2) (.slice Ao31 t847.length co31)) (fun _ hk => hk.2) (.slice Ao32 t850.length co32)) (fun _ hk => ⟨hk.1.1.1, hk.1.2⟩))) (fun k_ hk => by first | exact ⟨(.inr (hk.1)), hk.2⟩ | exact (.inr (hk)))⟩, ⟨Kd.V_mono (Kd.S_V (by (with_reducible repeat (first | apply Kd.S_alloc | apply Kd.S_drewN | apply Kd.S_drew)); exact Kd.S_mono (ok' := fun k_ => (((w.heap.size ≤ k_)) ∧ k_ ≠ gb839)) (Kd.S_far (p := ⟨gb839, 3, none⟩) (Kd.S_far (p := ⟨gb839, 2, none⟩) (Kd.S_far (p := ⟨gb839, 1, none⟩) (Kd.S_far (p := ⟨gb839, 0, none⟩) (Kd.S_types (Kd.S_types HO852.out BK839.out (by decide)) BK839.out (by decide)) (fun _ hk => hk.2) (.slice Ao29 t843.length co29)) (fun _ hk => hk.2) (.int .i64 t846)) (fun _ hk => hk.2) (.slice Ao31 t847.length co31)) (fun _ hk => hk.2) (.slice Ao32 t850.length co32)) (fun _ hk => ⟨hk.1.1.1, hk.1.2⟩))) (fun k_ hk => by first | exact ⟨(.inr (hk.1)), hk.2⟩ | exact (.inr (hk)))⟩, ⟨by (with_reducible repeat (first | refine blk_drewN ?_ _ | refine blk_drew ?_ | refine blk_alloc ?_ _)); refine blk_put (cs := #[.slice Ao29 t843.length co29, .int .i64 t846, .slice Ao31 t847.length co31, .slice Ao25 x840003_1.length co25]) ?_ 3 _ rfl; (with_reducible repeat (first | refine blk_drewN ?_ _ | refine blk_drew ?_ | refine blk_alloc ?_ _)); refine blk_put (cs := #[.slice Ao29 t843.length co29, .int .i64 t846, .slice Ao24 x840002_1.length co24, .slice Ao25 x840003_1.length co25]) ?_ 2 _ rfl; (with_reducible repeat (first | refine blk_drewN ?_ _ | refine blk_drew ?_ | refine blk_alloc ?_ _)); refine blk_put (cs := #[.slice Ao29 t843.length co29, .int .i64 x840001_1, .slice Ao24 x840002_1.length co24, .slice Ao25 x840003_1.length co25]) ?_ 1 _ rfl; (with_reducible repeat (first | refine blk_drewN ?_ _ | refine blk_drew ?_ | refine blk_alloc ?_ _)); refine blk_put (cs := #[.slice (some ad842) x840000_1.length co23, .int .i64 x840001_1, .slice Ao24 x840002_1.length co24, .slice Ao25 x840003_1.length co25]) ?_ 0 _ rfl; (with_reducible repeat (first | refine blk_drewN ?_ _ | refine blk_drew ?_ | refine blk_alloc ?_ _)); exact BK839.out⟩, ⟨by repeat (first | (with_reducible first | exact HB.out | apply below_alloc | apply pw_below_drewN | apply below_drew1 | refine below_set ?_ GE839.out) | exact HB.out)⟩⟩
      ·rw [if_neg c14] at H
       exact absurd H (by simp)
     ·rw [if_neg c13] at H
      exact absurd H (by simp)
    ·rw [if_neg c11] at H
     have c11b0 : decide (x6_1 ≤ 600) = false := decide_eq_false c11
     clear c11
     simp only [Option.some.injEq, Prod.mk.injEq] at H
     obtain ⟨rfl, rfl⟩ := H
     go_wp2
     go_ret2
     exact ⟨by first | rfl | (simp [errW_none, errW_some] <;> rfl) | (simp [*, errW_none, errW_some] <;> rfl), by repeat (first | (with_reducible first | exact HB.out | apply below_alloc | apply pw_below_drewN | apply below_drew1 | refine below_set ?_ GE839.out) | exact HB.out)⟩

def impl_EmptyAt.l0 : Nat → Int → Int → List Int → Int → List (S69) → List (S74) → Option (Int × Bool)
 | 0, _, _, _, _, _, _ => none
 | k + 1, x, n, tr, tu, ch, wa => if n ≤ 600 then ((impl_trayAt.f tr tu ch wa x).bind fun t => (if 0 ≤ t then (if t < (tr.length : Int) then (if rd tr t = 0 then (some (n, true)) else ((impl_turn.f k tr tu ch wa).bind fun q => (impl_EmptyAt.l0 k x (wrap64 (n + 1)) q.1 q.2.1 q.2.2 wa))) else (none)) else (none))) else (some (0, false))
def impl_EmptyAt.f (k : Nat) (l0_0 : List Int) (a0_1 : Int) (l0_2 : List (S69)) (l0_3 : List (S74)) (a1 : Int) : Option (Int × Bool) := (impl_TrayAt.f k l0_0 a0_1 l0_2 l0_3 a1).bind fun ti => (if ti < 0 then (some (0, false)) else ((impl_copyLoop.f k l0_0 a0_1 l0_2 l0_3).bind fun c => (impl_EmptyAt.l0 k a1 0 c.1 c.2.1 c.2.2.1 c.2.2.2)))
set_option maxHeartbeats 8000000 in
set_option maxRecDepth 100000 in
theorem impl_EmptyAt.calls (k : Nat) (A0_0 : Option Addr) (c0_0 : Nat) (l0_0 : List Int) (a0_1 : Int) (A0_2 : Option Addr) (c0_2 : Nat) (l0_2 : List (S69)) (A0_3 : Option Addr) (c0_3 : Nat) (l0_3 : List (S74)) (a1 : Int) (r1 : Int) (r2 : Bool) (w : World) (hr0_0 : Kd.C (Kd.int .i64) w A0_0 l0_0.length l0_0) (hc0_0 : l0_0.length ≤ c0_0) (hr0_2 : Kd.C k69 w A0_2 l0_2.length l0_2) (hc0_2 : l0_2.length ≤ c0_2) (hr0_3 : Kd.C k74 w A0_3 l0_3.length l0_3) (hc0_3 : l0_3.length ≤ c0_3) (h : impl_EmptyAt.f k l0_0 a0_1 l0_2 l0_3 a1 = some (r1, r2)) :
 Calls Try.prog 37 #[.agg #[.slice A0_0 l0_0.length c0_0, .int .i64 a0_1, .slice A0_2 l0_2.length c0_2, .slice A0_3 l0_3.length c0_3], .int .i64 a1] w fun e w' => e = .returned (.tuple #[.int .i64 r1, .bool r2]) ∧ Below w.heap.size w w' := by
 have hu28 := Try.underlying28
 have HR0 := Aside0.mk hr0_0
 have HC0 := Aside0.mk hc0_0
 have HR2 := Aside0.mk hr0_2
 have HC2 := Aside0.mk hc0_2
 have HR3 := Aside0.mk hr0_3
 have HC3 := Aside0.mk hc0_3
 clear hr0_0 hc0_0 hr0_2 hc0_2 hr0_3 hc0_3
 have H := h
 unfold impl_EmptyAt.f at H
 clear h
 replace H := Option.bind_eq_some_iff.mp H
 obtain ⟨ti, A10, H⟩ := H
 have A1 := Aside0.mk A10
 clear A10
 by_cases c1 : ti < 0
 ·rw [if_pos c1] at H
  have c1b : decide (ti < 0) = true := decide_eq_true c1
  simp only [Option.some.injEq, Prod.mk.injEq] at H
  obtain ⟨rfl, rfl⟩ := H
  go_enter Try.func37, Try.ntmps37
  go_wp2_with (first | ((with_reducible refine gate_dst (N := 2) rfl ?_); refine box_event ?hg (N := 2) ?hd (cs := #[.slice A0_0 l0_0.length c0_0, .int .i64 a0_1, .slice A0_2 l0_2.length c0_2, .slice A0_3 l0_3.length c0_3]) (t := 28) ?hr ?_; (case hd => rfl); (case hg => rfl); (case hr => first | (go_simp; done) | (go_simp; rfl)); intro g1 hg w1 hbox hb; have HB := Aside0.mk hb; have BK1 := Aside0.mk hbox; clear hb hbox hg; have hz0 : w1.cell? ⟨g1, 0, none⟩ = some (.slice A0_0 l0_0.length c0_0) := (blk_cell BK1.out 0).trans rfl; have hz1 : w1.cell? ⟨g1, 1, none⟩ = some (.int .i64 a0_1) := (blk_cell BK1.out 1).trans rfl; have hz2 : w1.cell? ⟨g1, 2, none⟩ = some (.slice A0_2 l0_2.length c0_2) := (blk_cell BK1.out 2).trans rfl; have hz3 : w1.cell? ⟨g1, 3, none⟩ = some (.slice A0_3 l0_3.length c0_3) := (blk_cell BK1.out 3).trans rfl) | ((with_reducible refine gate_callee (f := 35) rfl ?_); refine goesL_ (some 10) rfl rfl Try.func35 (by kernel_rfl) rfl #[.agg #[.slice A0_0 l0_0.length c0_0, .int .i64 a0_1, .slice A0_2 l0_2.length c0_2, .slice A0_3 l0_3.length c0_3], .int .i64 a1] rfl (by (try simp only [List.map_toArray, List.map_cons, List.map_nil]); first | done | rfl) ?_; (with_reducible refine (impl_TrayAt.calls k _ _ l0_0 a0_1 _ _ l0_2 _ _ l0_3 a1 ti _ ?side1 HC0.out ?side3 HC2.out ?side5 HC3.out A1.out).mono ?_); (case side1 => repeat (first | exact (Kd.C_below HR0.out HB.out) | (with_reducible refine Kd.C_alloc ?_ _) | (with_reducible refine Kd.C_drewN ?_ _) | (with_reducible refine Kd.C_drew ?_))); (case side3 => repeat (first | exact (Kd.C_below HR2.out HB.out) | (with_reducible refine Kd.C_alloc ?_ _) | (with_reducible refine Kd.C_drewN ?_ _) | (with_reducible refine Kd.C_drew ?_))); (case side5 => repeat (first | exact (Kd.C_below HR3.out HB.out) | (with_reducible refine Kd.C_alloc ?_ _) | (with_reducible refine Kd.C_drewN ?_ _) | (with_reducible refine Kd.C_drew ?_))); rintro e w2 ⟨rfl, hb⟩; refine ⟨_, rfl, ?_⟩; have hB_ : Below w.heap.size w _ := (by repeat (first | exact HB.out | apply below_alloc | apply pw_below_drewN | apply below_drew1)); have n1 := Aside0.mk (blk_below (by (with_reducible repeat (first | refine blk_drewN ?_ _ | refine blk_drew ?_ | refine blk_alloc ?_ _)); exact BK1.out) hb); have nb := Aside0.mk (below_step hB_ hb); clear hb hB_ BK1 HB hz0 hz1 hz2 hz3; have BK1 := n1; have HB := nb; clear n1 nb; have hz0 : w2.cell? ⟨g1, 0, none⟩ = some (.slice A0_0 l0_0.length c0_0) := (blk_cell BK1.out 0).trans rfl; have hz1 : w2.cell? ⟨g1, 1, none⟩ = some (.int .i64 a0_1) := (blk_cell BK1.out 1).trans rfl; have hz2 : w2.cell? ⟨g1, 2, none⟩ = some (.slice A0_2 l0_2.length c0_2) := (blk_cell BK1.out 2).trans rfl; have hz3 : w2.cell? ⟨g1, 3, none⟩ = some (.slice A0_3 l0_3.length c0_3) := (blk_cell BK1.out 3).trans rfl))
  go_ret2
  exact ⟨rfl, HB.out⟩
 ·rw [if_neg c1] at H
  have c1b : decide (ti < 0) = false := decide_eq_false c1
  replace H := Option.bind_eq_some_iff.mp H
  obtain ⟨⟨tr0, tu0, ch0, wa0⟩, A20, H⟩ := H
  have A2 := Aside0.mk A20
  clear A20
  have H' := Aside0.mk (show impl_EmptyAt.l0 k a1 0 tr0 tu0 ch0 wa0 = some (r1, r2) from H)
  clear H
  go_enter Try.func37, Try.ntmps37
  go_wp2_with (first | ((with_reducible refine gate_dst (N := 2) rfl ?_); refine box_event ?hg (N := 2) ?hd (cs := #[.slice A0_0 l0_0.length c0_0, .int .i64 a0_1, .slice A0_2 l0_2.length c0_2, .slice A0_3 l0_3.length c0_3]) (t := 28) ?hr ?_; (case hd => rfl); (case hg => rfl); (case hr => first | (go_simp; done) | (go_simp; rfl)); intro g1 hg w1 hbox hb; have HB := Aside0.mk hb; have BK1 := Aside0.mk hbox; clear hb hbox hg; have hz0 : w1.cell? ⟨g1, 0, none⟩ = some (.slice A0_0 l0_0.length c0_0) := (blk_cell BK1.out 0).trans rfl; have hz1 : w1.cell? ⟨g1, 1, none⟩ = some (.int .i64 a0_1) := (blk_cell BK1.out 1).trans rfl; have hz2 : w1.cell? ⟨g1, 2, none⟩ = some (.slice A0_2 l0_2.length c0_2) := (blk_cell BK1.out 2).trans rfl; have hz3 : w1.cell? ⟨g1, 3, none⟩ = some (.slice A0_3 l0_3.length c0_3) := (blk_cell BK1.out 3).trans rfl) | ((with_reducible refine gate_callee (f := 35) rfl ?_); refine goesL_ (some 10) rfl rfl Try.func35 (by kernel_rfl) rfl #[.agg #[.slice A0_0 l0_0.length c0_0, .int .i64 a0_1, .slice A0_2 l0_2.length c0_2, .slice A0_3 l0_3.length c0_3], .int .i64 a1] rfl (by (try simp only [List.map_toArray, List.map_cons, List.map_nil]); first | done | rfl) ?_; (with_reducible refine (impl_TrayAt.calls k _ _ l0_0 a0_1 _ _ l0_2 _ _ l0_3 a1 ti _ ?side1 HC0.out ?side3 HC2.out ?side5 HC3.out A1.out).mono ?_); (case side1 => repeat (first | exact (Kd.C_below HR0.out HB.out) | (with_reducible refine Kd.C_alloc ?_ _) | (with_reducible refine Kd.C_drewN ?_ _) | (with_reducible refine Kd.C_drew ?_))); (case side3 => repeat (first | exact (Kd.C_below HR2.out HB.out) | (with_reducible refine Kd.C_alloc ?_ _) | (with_reducible refine Kd.C_drewN ?_ _) | (with_reducible refine Kd.C_drew ?_))); (case side5 => repeat (first | exact (Kd.C_below HR3.out HB.out) | (with_reducible refine Kd.C_alloc ?_ _) | (with_reducible refine Kd.C_drewN ?_ _) | (with_reducible refine Kd.C_drew ?_))); rintro e w2 ⟨rfl, hb⟩; refine ⟨_, rfl, ?_⟩; have hB_ : Below w.heap.size w _ := (by repeat (first | exact HB.out | apply below_alloc | apply pw_below_drewN | apply below_drew1)); have n1 := Aside0.mk (blk_below (by (with_reducible repeat (first | refine blk_drewN ?_ _ | refine blk_drew ?_ | refine blk_alloc ?_ _)); exact BK1.out) hb); have nb := Aside0.mk (below_step hB_ hb); clear hb hB_ BK1 HB hz0 hz1 hz2 hz3; have BK1 := n1; have HB := nb; clear n1 nb; have hz0 : w2.cell? ⟨g1, 0, none⟩ = some (.slice A0_0 l0_0.length c0_0) := (blk_cell BK1.out 0).trans rfl; have hz1 : w2.cell? ⟨g1, 1, none⟩ = some (.int .i64 a0_1) := (blk_cell BK1.out 1).trans rfl; have hz2 : w2.cell? ⟨g1, 2, none⟩ = some (.slice A0_2 l0_2.length c0_2) := (blk_cell BK1.out 2).trans rfl; have hz3 : w2.cell? ⟨g1, 3, none⟩ = some (.slice A0_3 l0_3.length c0_3) := (blk_cell BK1.out 3).trans rfl) | ((with_reducible refine gate_callee (f := 53) rfl ?_); refine goesL_ (some 13) rfl rfl Try.func53 (by kernel_rfl) rfl #[.agg #[.slice A0_0 l0_0.length c0_0, .int .i64 a0_1, .slice A0_2 l0_2.length c0_2, .slice A0_3 l0_3.length c0_3]] rfl (by (try simp only [List.map_toArray, List.map_cons, List.map_nil]); first | done | rfl) ?_; (with_reducible refine (impl_copyLoop.calls2 k _ _ l0_0 a0_1 _ _ l0_2 _ _ l0_3 tr0 tu0 ch0 wa0 _ ?side1 HC0.out ?side3 HC2.out ?side5 HC3.out A2.out).mono ?_); (case side1 => repeat (first | exact (Kd.C_below HR0.out HB.out) | (with_reducible refine Kd.C_alloc ?_ _) | (with_reducible refine Kd.C_drewN ?_ _) | (with_reducible refine Kd.C_drew ?_))); (case side3 => repeat (first | exact (Kd.C_below HR2.out HB.out) | (with_reducible refine Kd.C_alloc ?_ _) | (with_reducible refine Kd.C_drewN ?_ _) | (with_reducible refine Kd.C_drew ?_))); (case side5 => repeat (first | exact (Kd.C_below HR3.out HB.out) | (with_reducible refine Kd.C_alloc ?_ _) | (with_reducible refine Kd.C_drewN ?_ _) | (with_reducible refine Kd.C_drew ?_))); rintro e w3 ⟨v0, v2, v3, N_, rfl, ho0, ho2, ho3, hN, hb⟩; refine ⟨_, rfl, ?_⟩; have hB_ : Below w.heap.size w _ := (by repeat (first | exact HB.out | apply below_alloc | apply pw_below_drewN | apply below_drew1)); obtain ⟨PW, hL⟩ := LoopMem.mk (Kd.R_lower ho0 (below_size hB_)) (Kd.S_lower ho2 (below_size hB_)) ho3 (Nat.le_trans (below_size hB_) hN); have HL := Aside0.mk hL; have nb := Aside0.mk (below_step hB_ hb); clear HB BK1; have HB := nb; clear nb hb ho0 ho2 ho3 hN hB_ hL; obtain ⟨B0, d0, B2, d2, B3, d3, rfl, rfl, rfl, l0_, l2_, l3_, _, _, _⟩ := HL.out.reads; clear l0_ l2_ l3_) | ((with_reducible refine gate_dst (N := 6) rfl ?_); refine box_event ?hg (N := 6) ?hd (cs := #[.slice none 0 0, .int .i64 0, .slice none 0 0, .slice none 0 0]) (t := 28) ?hr ?_; (case hd => rfl); (case hg => rfl); (case hr => first | (go_simp; done) | (go_simp; rfl)); intro g3 hg w4 hbox hb; have hB_ : Below w.heap.size w _ := (by repeat (first | exact HB.out | apply below_alloc | apply pw_below_drewN | apply below_drew1)); have n2 := Aside0.mk (below_step hB_ hb); have GE3 := Aside0.mk (show w.heap.size ≤ g3 from by rw [hg]; exact hB_.size); have n3 := Aside0.mk (LoopMem.below (by repeat (first | exact HL.out | refine LoopMem.below ?_ (below_alloc (Below.refl _ _) _) | refine LoopMem.below ?_ (pw_below_drewN (Below.refl _ _) _) | refine LoopMem.below ?_ (below_drew (Below.refl _ _)))) hb); clear HB HL; have HB := n2; have HL := n3; clear n2 n3 hB_; have BK3 := Aside0.mk hbox; clear hb hbox hg; have hy0 : w4.cell? ⟨g3, 0, none⟩ = some (.slice none 0 0) := (blk_cell BK3.out 0).trans rfl; have hy1 : w4.cell? ⟨g3, 1, none⟩ = some (.int .i64 0) := (blk_cell BK3.out 1).trans rfl; have hy2 : w4.cell? ⟨g3, 2, none⟩ = some (.slice none 0 0) := (blk_cell BK3.out 2).trans rfl; have hy3 : w4.cell? ⟨g3, 3, none⟩ = some (.slice none 0 0) := (blk_cell BK3.out 3).trans rfl; have hf0 := blk_frozen BK3.out 0; have hf1 := blk_frozen BK3.out 1; have hf2 := blk_frozen BK3.out 2; have hf3 := blk_frozen BK3.out 3))
  have b0 := blk_put BK3.out 0 (.slice B0 tr0.length d0) rfl
  have b1 := blk_put b0 1 (.int .i64 tu0) rfl
  have b2 := blk_put b1 2 (.slice B2 ch0.length d2) rfl
  have BK3' : ((((w4.setCell ⟨g3, 0, none⟩ (.slice B0 tr0.length d0)).setCell ⟨g3, 1, none⟩ (.int .i64 tu0)).setCell ⟨g3, 2, none⟩ (.slice B2 ch0.length d2)).setCell ⟨g3, 3, none⟩ (.slice B3 wa0.length d3)).heap[g3]? = some (.cells #[.slice B0 tr0.length d0, .int .i64 tu0, .slice B2 ch0.length d2, .slice B3 wa0.length d3] 28 (0, 0)) := blk_put (blk_put (blk_put (blk_put BK3.out 0 _ rfl) 1 _ rfl) 2 _ rfl) 3 _ rfl
  have n1 := Aside0.mk ((((HL.out.box BK3.out 0 (.slice B0 tr0.length d0)).box b0 1 (.int .i64 tu0)).box b1 2 (.slice B2 ch0.length d2)).box b2 3 (.slice B3 wa0.length d3))
  have n3 := Aside0.mk (below_set (j := 3) (v := .slice B3 wa0.length d3) (below_set (j := 2) (v := .slice B2 ch0.length d2) (below_set (j := 1) (v := .int .i64 tu0) (below_set (j := 0) (v := .slice B0 tr0.length d0) HB.out GE3.out) GE3.out) GE3.out) GE3.out)
  clear HL HB b0 b1 b2 BK3 hy0 hy1 hy2 hy3 hf0 hf1 hf2 hf3
  have HL := n1
  have HB := n3
  have BK3 := Aside0.mk BK3'
  clear n1 n3 BK3'
  generalize Value.slice B0 tr0.length d0 = V0 at HL BK3 HB ⊢
  generalize Value.slice B2 ch0.length d2 = V2 at HL BK3 HB ⊢
  generalize Value.slice B3 wa0.length d3 = V3 at HL BK3 HB ⊢
  go_loopg [7] k (fun kq v7 w' => ∃ (n : Int) (tr : List Int) (T : Int) (ch : List S69), v7 = .int .i64 n ∧ Aside0 (impl_EmptyAt.l0 kq a1 n tr T ch wa0 = some (r1, r2)) ∧ Aside0 (kq ≤ k) ∧ Aside0 (LoopMem w.heap.size w' PW V0 tr V2 ch V3 wa0) ∧ Aside0 (w'.heap[g3]? = some (.cells #[V0, .int .i64 T, V2, V3] 28 (0, 0))) ∧ Aside0 (Below w.heap.size w w'))
  case atStart => exact ⟨0, tr0, tu0, ch0, rfl, H', ⟨Nat.le_refl _⟩, HL, BK3, HB⟩
  case round =>
  clear H' HL BK3 HB
  obtain ⟨n, tr, T, ch, rfl, HA, HK1, HL, BK3, HB⟩ := hrel
  cases gk with
  | zero => exact absurd HA.out (by simp [impl_EmptyAt.l0])
  | succ k1 =>
   have H := HA.out
   clear HA
   simp only [impl_EmptyAt.l0] at H
   by_cases c2 : n ≤ 600
   ·rw [if_pos c2] at H
    have c2b : decide (n ≤ 600) = true := decide_eq_true c2
    replace H := Option.bind_eq_some_iff.mp H
    obtain ⟨t, A60, H⟩ := H
    have A6 := Aside0.mk A60
    clear A60
    by_cases c4 : 0 ≤ t
    ·rw [if_pos c4] at H
     by_cases c5h : t < (tr.length : Int)
     ·rw [if_pos c5h] at H
      have H' := Aside0.mk H
      clear H
      obtain ⟨B0', d0', B2', d2', B3', d3', e0, e2, e3, L0, L2, L3, C0, C2, C3⟩ := HL.out.reads
      subst e0 e2 e3
      obtain ⟨gT, eT, _, _, hcT, _, _⟩ := HL.out.tray t c4 c5h 0
      cases eT
      have HC0' := Aside0.mk C0
      have HC2' := Aside0.mk C2
      have HC3' := Aside0.mk C3
      have HL0' := Aside0.mk L0
      have HL2' := Aside0.mk L2
      have HL3' := Aside0.mk L3
      clear C0 C2 C3 L0 L2 L3
      have hz0 : wr.cell? ⟨g3, 0, none⟩ = some (.slice (some ⟨gT, 0, none⟩) tr.length d0') := (blk_cell BK3.out 0).trans rfl
      have hz1 : wr.cell? ⟨g3, 1, none⟩ = some (.int .i64 T) := (blk_cell BK3.out 1).trans rfl
      have hz2 : wr.cell? ⟨g3, 2, none⟩ = some (.slice B2' ch.length d2') := (blk_cell BK3.out 2).trans rfl
      have hz3 : wr.cell? ⟨g3, 3, none⟩ = some (.slice B3' wa0.length d3') := (blk_cell BK3.out 3).trans rfl
      have p5 := eq_true c4
      have q5 : (t < ((tr.length : Nat) : Int)) = True := eq_true c5h
      go_wp2
      refine start_ (n := 8) (S := fun w' => w'.cell? ⟨g3, 0, none⟩ = some (.slice (some ⟨gT, 0, none⟩) tr.length d0') ∧ w'.cell? ⟨g3, 1, none⟩ = some (.int .i64 T) ∧ w'.cell? ⟨g3, 2, none⟩ = some (.slice B2' ch.length d2') ∧ w'.cell? ⟨g3, 3, none⟩ = some (.slice B3' wa0.length d3') ∧ w'.cell? ⟨gT, t.toNat, none⟩ = some (.int .i64 (rd tr t))) (ds := []) #[false, false, false, false, false, false, false, false] (by kernel_rfl) rfl rfl ⟨hz0, hz1, hz2, hz3, hcT⟩ (fun hHeld => ?_)
      refine pure_ (i := 0) (N := some 18) (v := ?_) (a' := ?_) #[true, false, false, false, false, false, false, false] rfl rfl (by kernel_rfl) (fun _ _ _ h => h) (Or.inl ⟨by rfl, ?_⟩) ?_ ?_
      rotate_left
      ·intro w'
       go_simp
       with_reducible rfl
      rotate_left
      ·simp only [Act.put, List.setIfInBounds_toArray, List.set_cons_zero, List.set_cons_succ, i64_w, i32_w]
       rfl
      refine pure_ (i := 3) (N := some 21) (v := ?_) (a' := ?_) #[true, false, false, true, false, false, false, false] rfl rfl (by kernel_rfl) (fun _ _ _ h => h) (Or.inl ⟨by rfl, ?_⟩) ?_ ?_
      rotate_left
      ·intro w'
       go_simp
       with_reducible rfl
      rotate_left
      ·simp only [Act.put, List.setIfInBounds_toArray, List.set_cons_zero, List.set_cons_succ, i64_w, i32_w]
       rfl
      refine take_ (i := 1) (N := some 19) (v := ?_) (a' := ?_) #[true, true, false, true, false, false, false, false] rfl rfl (by kernel_rfl) (fun _ _ _ h => h) (Or.inl ⟨by rfl, ?_⟩) hHeld ?_ ?_
      rotate_left
      ·rintro w' ⟨s0, s1, s2, s3, s4⟩
       go_simp
       with_reducible rfl
      rotate_left
      ·simp only [Act.put, List.setIfInBounds_toArray, List.set_cons_zero, List.set_cons_succ, i64_w, i32_w]
       rfl
      refine take_ (i := 2) (N := some 20) (v := ?_) (a' := ?_) #[true, true, true, true, false, false, false, false] rfl rfl (by kernel_rfl) (fun _ _ _ h => h) (Or.inl ⟨by rfl, ?_⟩) hHeld ?_ ?_
      rotate_left
      ·rintro w' ⟨s0, s1, s2, s3, s4⟩
       go_simp
       with_reducible rfl
      rotate_left
      ·simp only [Act.put, List.setIfInBounds_toArray, List.set_cons_zero, List.set_cons_succ, i64_w, i32_w]
       rfl
      refine one_ (i := 4) (N := some 22) #[true, true, true, true, true, false, false, false] rfl rfl (by kernel_rfl) (by decide) (fun K hK => ?_)
      refine goes_ Try.func78 (by kernel_rfl) rfl #[.agg #[.slice (some ⟨gT, 0, none⟩) tr.length d0', .int .i64 T, .slice B2' ch.length d2', .slice B3' wa0.length d3'], .int .i64 a1] (by rfl) rfl rfl (by simp only [List.map_toArray, List.map_cons, List.map_nil]; rfl) ?_
      with_reducible refine (impl_trayAt.calls (some ⟨gT, 0, none⟩) d0' tr T B2' d2' ch B3' d3' wa0 a1 t _ (Kd.C_drew HC0'.out) HL0'.out (Kd.C_drew HC2'.out) HL2'.out (Kd.C_drew HC3'.out) HL3'.out A6.out).mono ?_
      rintro e w5 ⟨rfl, hb5⟩
      refine ⟨_, rfl, ?_⟩
      refine hK.out _ _ ⟨pw_cell_below hb5 hHeld.1, pw_cell_below hb5 hHeld.2.1, pw_cell_below hb5 hHeld.2.2.1, pw_cell_below hb5 hHeld.2.2.2.1, pw_cell_below hb5 hHeld.2.2.2.2⟩ (fun hHeld => ?_)
      clear hK K
      refine norm_ (a' := ?_) ?_ ?_
      rotate_left
      ·show Act.put _ (some 22) _ = _
       simp only [Act.put, List.setIfInBounds_toArray, List.set_cons_zero, List.set_cons_succ, i64_w, i32_w]
       rfl
      refine pure_ (i := 5) (N := some 23) (v := ?_) (a' := ?_) #[true, true, true, true, true, true, false, false] rfl rfl (by kernel_rfl) (fun _ _ _ h => h) (Or.inl ⟨by rfl, ?_⟩) ?_ ?_
      rotate_left
      ·intro w'
       go_simp
       with_reducible rfl
      rotate_left
      ·simp only [Act.put, List.setIfInBounds_toArray, List.set_cons_zero, List.set_cons_succ, i64_w, i32_w]
       rfl
      refine take_ (i := 6) (N := some 24) (v := ?_) (a' := ?_) #[true, true, true, true, true, true, true, false] rfl rfl (by kernel_rfl) (fun _ _ _ h => h) (Or.inl ⟨by rfl, ?_⟩) hHeld ?_ ?_
      rotate_left
      ·rintro w' ⟨s0, s1, s2, s3, s4⟩
       go_simp
       with_reducible rfl
      rotate_left
      ·simp only [Act.put, List.setIfInBounds_toArray, List.set_cons_zero, List.set_cons_succ, i64_w, i32_w]
       rfl
      refine pure_ (i := 7) (N := some 25) (v := ?_) (a' := ?_) #[true, true, true, true, true, true, true, true] rfl rfl (by kernel_rfl) (fun _ _ _ h => h) (Or.inl ⟨by rfl, ?_⟩) ?_ ?_
      rotate_left
      ·intro w'
       go_simp
       with_reducible rfl
      rotate_left
      ·simp only [Act.put, List.setIfInBounds_toArray, List.set_cons_zero, List.set_cons_succ, i64_w, i32_w]
       rfl
      refine done_ (by kernel_rfl) ?_
      have hbr : Below wr.heap.size wr w5 := below_then (below_drew (Below.refl _ _)) (Nat.le_refl _) hb5
      have n1 := Aside0.mk (HL.out.below hbr)
      have n3 := Aside0.mk (blk_below BK3.out hbr)
      have n4 := Aside0.mk (below_step HB.out hbr)
      have H := H'.out
      clear H' hb5 hbr hz0 hz1 hz2 hz3 hcT HL BK3 HB HC0' HC2' HC3' HL0' HL2' HL3'
      have HL := n1
      have BK3 := n3
      have HB := n4
      clear n1 n3 n4
      by_cases c6 : rd tr t = 0
      ·rw [if_pos c6] at H
       have c6a : (rd tr t == 0) = true := beq_iff_eq.mpr c6
       simp only [Option.some.injEq, Prod.mk.injEq] at H
       obtain ⟨rfl, rfl⟩ := H
       go_wp2
       go_ret2
       exact ⟨rfl, HB.out⟩
      ·rw [if_neg c6] at H
       have c6a : (rd tr t == 0) = false := beq_eq_false_iff_ne.mpr c6
       replace H := Option.bind_eq_some_iff.mp H
       obtain ⟨⟨t1, t2, t3⟩, A50, H⟩ := H
       have A5 := Aside0.mk A50
       clear A50
       have H' := Aside0.mk (show impl_EmptyAt.l0 k1 a1 (wrap64 (n + 1)) t1 t2 t3 wa0 = some (r1, r2) from H)
       clear H
       go_wp2_with (first | ((with_reducible refine gate_callee (f := 54) rfl ?_); refine goesL_ (some 27) rfl rfl Try.func54 (by kernel_rfl) rfl #[.pointer (some ⟨g3, 0, none⟩)] rfl (by (try simp only [List.map_toArray, List.map_cons, List.map_nil]); first | done | rfl) ?_; (with_reducible refine (impl_turn.calls k1 g3 w _ PW _ _ _ tr T ch wa0 t1 t2 t3 (by repeat (first | exact HB.out | apply below_alloc | apply pw_below_drewN | apply below_drew1)) GE3.out (by (with_reducible repeat (first | refine blk_drewN ?_ _ | refine blk_drew ?_ | refine blk_alloc ?_ _)); exact BK3.out) (by repeat (first | exact HL.out | refine LoopMem.below ?_ (below_alloc (Below.refl _ _) _) | refine LoopMem.below ?_ (pw_below_drewN (Below.refl _ _) _) | refine LoopMem.below ?_ (below_drew (Below.refl _ _)))) A5.out).mono ?_); rintro e w5 ⟨rfl, hL, hbk, hB, _⟩; refine ⟨_, rfl, ?_⟩; clear HL BK3 HB; have HL := Aside0.mk hL; have BK3 := Aside0.mk hbk; have HB := Aside0.mk hB; clear hL hbk hB))
       go_roundg k1
       case measure => have := HK1.out; omega
       case rel => exact ⟨wrap64 (n + 1), t1, t2, t3, rfl, H', ⟨by have := HK1.out; omega⟩, HL, BK3, HB⟩
     ·rw [if_neg c5h] at H
      exact absurd H (by simp)
    ·rw [if_neg c4] at H
     exact absurd H (by simp)
   ·rw [if_neg c2] at H
    have c2b : decide (n ≤ 600) = false := decide_eq_false c2
    simp only [Option.some.injEq, Prod.mk.injEq] at H
    obtain ⟨rfl, rfl⟩ := H
    go_wp2
    go_ret2
    exact ⟨rfl, HB.out⟩

def laws_FnExactEmptyAt.j0 : Nat → Bool → List Int → Int → List (S95) → List (S97) → List Int → Int → List (S69) → List (S74) → Option (Bool)
 | 0, _, _, _, _, _, _, _, _, _ => none
 | k + 1, x38, x854000, x854001, x854002, x854003, x878000, x878001, x878002, x878003 => if x38 = true then (some false) else ((laws_toLoop.f k x854000 x854001 x854002 x854003).bind fun bt880 => ((laws_eqLoop.f k x878000 x878001 x878002 x878003 bt880.1 bt880.2.1 bt880.2.2.1 bt880.2.2.2).bind fun t890 => (if t890 = true then (some true) else (some false))))
def laws_FnExactEmptyAt.f (k : Nat) (l0_0 : List Int) (a0_1 : Int) (l0_2 : List (S95)) (l0_3 : List (S97)) (a1 : Int) : Option (Bool) := (laws_szLoop.f k l0_0 a0_1 l0_2 l0_3 1048576).bind fun t854 => (if t854 < 0 then (some true) else ((laws_toLoop.f k l0_0 a0_1 l0_2 l0_3).bind fun bt855 => ((spec_EmptyAt.f k bt855.1 bt855.2.1 bt855.2.2.1 bt855.2.2.2 a1).bind fun bt865 => ((laws_toLoop.f k l0_0 a0_1 l0_2 l0_3).bind fun bt867 => ((impl_EmptyAt.f k bt867.1 bt867.2.1 bt867.2.2.1 bt867.2.2.2 a1).bind fun bt878 => (if bt878.1 = bt865.1 then (laws_FnExactEmptyAt.j0 k (bt878.2 != bt865.2) l0_0 a0_1 l0_2 l0_3 bt867.1 bt867.2.1 bt867.2.2.1 bt867.2.2.2) else (laws_FnExactEmptyAt.j0 k true l0_0 a0_1 l0_2 l0_3 bt867.1 bt867.2.1 bt867.2.2.1 bt867.2.2.2)))))))
set_option maxHeartbeats 8000000 in
set_option maxRecDepth 100000 in
theorem laws_FnExactEmptyAt.calls (k : Nat) (A0_0 : Option Addr) (c0_0 : Nat) (l0_0 : List Int) (a0_1 : Int) (A0_2 : Option Addr) (c0_2 : Nat) (l0_2 : List (S95)) (A0_3 : Option Addr) (c0_3 : Nat) (l0_3 : List (S97)) (a1 : Int) (r : Bool) (w : World) (hr0_0 : Kd.C (Kd.int .i64) w A0_0 l0_0.length l0_0) (hc0_0 : l0_0.length ≤ c0_0) (hr0_2 : Kd.C k95 w A0_2 l0_2.length l0_2) (hc0_2 : l0_2.length ≤ c0_2) (hr0_3 : Kd.C k97 w A0_3 l0_3.length l0_3) (hc0_3 : l0_3.length ≤ c0_3) (hrt : Aside0 (r = true)) (h : laws_FnExactEmptyAt.f k l0_0 a0_1 l0_2 l0_3 a1 = some r) :
  Calls Try.prog 9 #[.agg #[.slice A0_0 l0_0.length c0_0, .int .i64 a0_1, .slice A0_2 l0_2.length c0_2, .slice A0_3 l0_3.length c0_3], .int .i64 a1] w fun e w' => e = .returned (.bool r) ∧ Below w.heap.size w w' := by
 have hu43 := Try.underlying43
 have hu28 := Try.underlying28
 have HR0_0 := Aside0.mk hr0_0
 have HC0_0 := Aside0.mk hc0_0
 clear hr0_0 hc0_0
 have HR0_2 := Aside0.mk hr0_2
 have HC0_2 := Aside0.mk hc0_2
 clear hr0_2 hc0_2
 have HR0_3 := Aside0.mk hr0_3
 have HC0_3 := Aside0.mk hc0_3
 clear hr0_3 hc0_3
 have HB := Aside0.mk (Below.refl w.heap.size w)
 have H : ((laws_szLoop.f k l0_0 a0_1 l0_2 l0_3 1048576).bind fun t854 => (if t854 < 0 then (some true) else ((laws_toLoop.f k l0_0 a0_1 l0_2 l0_3).bind fun bt855 => ((spec_EmptyAt.f k bt855.1 bt855.2.1 bt855.2.2.1 bt855.2.2.2 a1).bind fun bt865 => ((laws_toLoop.f k l0_0 a0_1 l0_2 l0_3).bind fun bt867 => ((impl_EmptyAt.f k bt867.1 bt867.2.1 bt867.2.2.1 bt867.2.2.2 a1).bind fun bt878 => (if bt878.1 = bt865.1 then (laws_FnExactEmptyAt.j0 k (bt878.2 != bt865.2) l0_0 a0_1 l0_2 l0_3 bt867.1 bt867.2.1 bt867.2.2.1 bt867.2.2.2) else (laws_FnExactEmptyAt.j0 k true l0_0 a0_1 l0_2 l0_3 bt867.1 bt867.2.1 bt867.2.2.1 bt867.2.2.2)))))))) = some r := h
 clear h
 replace H := Option.bind_eq_some_iff.mp H
 obtain ⟨t854, A30, H⟩ := H
 replace H : (if t854 < 0 then (some true) else ((laws_toLoop.f k l0_0 a0_1 l0_2 l0_3).bind fun bt855 => ((spec_EmptyAt.f k bt855.1 bt855.2.1 bt855.2.2.1 bt855.2.2.2 a1).bind fun bt865 => ((laws_toLoop.f k l0_0 a0_1 l0_2 l0_3).bind fun bt867 => ((impl_EmptyAt.f k bt867.1 bt867.2.1 bt867.2.2.1 bt867.2.2.2 a1).bind fun bt878 => (if bt878.1 = bt865.1 then (laws_FnExactEmptyAt.j0 k (bt878.2 != bt865.2) l0_0 a0_1 l0_2 l0_3 bt867.1 bt867.2.1 bt867.2.2.1 bt867.2.2.2) else (laws_FnExactEmptyAt.j0 k true l0_0 a0_1 l0_2 l0_3 bt867.1 bt867.2.1 bt867.2.2.1 bt867.2.2.2))))))) = some r := H
 have A3 := Aside0.mk A30
 clear A30
 by_cases c4 : t854 < 0
 ·rw [if_pos c4] at H
  have c4b0 : decide (t854 < 0) = true := decide_eq_true c4
  clear c4
  obtain rfl := Option.some.inj H
  go_enter Try.func9, Try.ntmps9
  go_wp2_with (first | ((with_reducible refine gate_dst (N := 2) rfl ?_); refine box_event ?hg (N := 2) ?hd (cs := #[.slice A0_0 l0_0.length c0_0, .int .i64 a0_1, .slice A0_2 l0_2.length c0_2, .slice A0_3 l0_3.length c0_3]) (t := 43) ?hr ?_; (case hd => rfl); (case hg => rfl); (case hr => first | (go_simp; done) | (go_simp; rfl)); intro gb853 hg w5 hbox hb; have n0_ := Aside0.mk (below_step (by repeat (first | (with_reducible first | exact HB.out | apply below_alloc | apply pw_below_drewN | apply below_drew1) | exact HB.out)) hb); have n1_ := Aside0.mk (hbox); have n2_ := Aside0.mk ((by rw [hg]; exact (below_size (by repeat (first | (with_reducible first | exact HB.out | apply below_alloc | apply pw_below_drewN | apply below_drew1) | exact HB.out))) : w.heap.size ≤ gb853)); have n3_ := Aside0.mk ((by rw [hg]; exact (below_size (by repeat (first | (with_reducible first | exact HB.out | apply below_alloc | apply pw_below_drewN | apply below_drew1) | exact HB.out))) : w.heap.size ≤ gb853)); clear HB; have HB := n0_; have BK853 := n1_; have GW853 := n2_; have GE853 := n3_; clear n0_ n1_ n2_ n3_; clear hb hbox hg; have hcz6_0 : w5.cell? ⟨gb853, 0, none⟩ = some (.slice A0_0 l0_0.length c0_0) := (blk_cell BK853.out 0).trans rfl; have hcz6_1 : w5.cell? ⟨gb853, 1, none⟩ = some (.int .i64 a0_1) := (blk_cell BK853.out 1).trans rfl; have hcz6_2 : w5.cell? ⟨gb853, 2, none⟩ = some (.slice A0_2 l0_2.length c0_2) := (blk_cell BK853.out 2).trans rfl; have hcz6_3 : w5.cell? ⟨gb853, 3, none⟩ = some (.slice A0_3 l0_3.length c0_3) := (blk_cell BK853.out 3).trans rfl; have hfz6_0 := blk_frozen BK853.out 0; have hfz6_1 := blk_frozen BK853.out 1; have hfz6_2 := blk_frozen BK853.out 2; have hfz6_3 := blk_frozen BK853.out 3) | ((with_reducible refine gate_callee (f := 31) rfl ?_); refine goesL_ (some 13) rfl rfl Try.func31 (by kernel_rfl) rfl #[.agg #[.slice A0_0 l0_0.length c0_0, .int .i64 a0_1, .slice A0_2 l0_2.length c0_2, .slice A0_3 l0_3.length c0_3], .int .i64 1048576] rfl (by (try simp only [List.map_toArray, List.map_cons, List.map_nil]); first | done | rfl | (simp only [List.length_drop, List.length_take]; rfl)) ?_; (with_reducible refine (laws_szLoop.calls k _ _ l0_0 a0_1 _ _ l0_2 _ _ l0_3 1048576 t854 _ ?side1 ?side2 ?side3 ?side4 ?side5 ?side6 A3.out).mono ?_); (case side1 => repeat (first | exact (Kd.C_below HR0_0.out HB.out) | (with_reducible refine Kd.C_alloc ?_ _) | (with_reducible refine Kd.C_drewN ?_ _) | (with_reducible refine Kd.C_drew ?_))); (case side2 => exact HC0_0.out); (case side3 => repeat (first | exact (Kd.C_below HR0_2.out HB.out) | (with_reducible refine Kd.C_alloc ?_ _) | (with_reducible refine Kd.C_drewN ?_ _) | (with_reducible refine Kd.C_drew ?_))); (case side4 => exact HC0_2.out); (case side5 => repeat (first | exact (Kd.C_below HR0_3.out HB.out) | (with_reducible refine Kd.C_alloc ?_ _) | (with_reducible refine Kd.C_drewN ?_ _) | (with_reducible refine Kd.C_drew ?_))); (case side6 => exact HC0_3.out); rintro e w7 ⟨rfl, hb⟩; refine ⟨_, rfl, ?_⟩; have n0_ := Aside0.mk (blk_below (g := gb853) (o := .cells #[.slice A0_0 l0_0.length c0_0, .int .i64 a0_1, .slice A0_2 l0_2.length c0_2, .slice A0_3 l0_3.length c0_3] 43 (0, 0)) (by (with_reducible repeat (first | refine blk_drewN ?_ _ | refine blk_drew ?_ | refine blk_alloc ?_ _)); exact BK853.out) hb); have n1_ := Aside0.mk (below_step (by repeat (first | (with_reducible first | exact HB.out | apply below_alloc | apply pw_below_drewN | apply below_drew1 | refine below_set ?_ GE853.out) | exact HB.out)) hb); clear BK853; clear HB; have BK853 := n0_; have HB := n1_; clear n0_ n1_; (try clear hb); (try clear hb2); (try clear hk); (try clear hi)))
  go_ret
  exact ⟨by first | rfl | (simp [errW_none, errW_some] <;> rfl) | (simp [*, errW_none, errW_some] <;> rfl), by repeat (first | (with_reducible first | exact HB.out | apply below_alloc | apply pw_below_drewN | apply below_drew1 | refine below_set ?_ GE853.out) | exact HB.out)⟩
 ·rw [if_neg c4] at H
  have c4b0 : decide (t854 < 0) = false := decide_eq_false c4
  clear c4
  replace H := Option.bind_eq_some_iff.mp H
  obtain ⟨⟨t855, t858, t859, t862⟩, A80, H⟩ := H
  replace H : ((spec_EmptyAt.f k t855 t858 t859 t862 a1).bind fun bt865 => ((laws_toLoop.f k l0_0 a0_1 l0_2 l0_3).bind fun bt867 => ((impl_EmptyAt.f k bt867.1 bt867.2.1 bt867.2.2.1 bt867.2.2.2 a1).bind fun bt878 => (if bt878.1 = bt865.1 then (laws_FnExactEmptyAt.j0 k (bt878.2 != bt865.2) l0_0 a0_1 l0_2 l0_3 bt867.1 bt867.2.1 bt867.2.2.1 bt867.2.2.2) else (laws_FnExactEmptyAt.j0 k true l0_0 a0_1 l0_2 l0_3 bt867.1 bt867.2.1 bt867.2.2.1 bt867.2.2.2))))) = some r := H
  have A8 := Aside0.mk A80
  clear A80
  replace H := Option.bind_eq_some_iff.mp H
  obtain ⟨⟨t865, t866⟩, A90, H⟩ := H
  replace H : ((laws_toLoop.f k l0_0 a0_1 l0_2 l0_3).bind fun bt867 => ((impl_EmptyAt.f k bt867.1 bt867.2.1 bt867.2.2.1 bt867.2.2.2 a1).bind fun bt878 => (if bt878.1 = t865 then (laws_FnExactEmptyAt.j0 k (bt878.2 != t866) l0_0 a0_1 l0_2 l0_3 bt867.1 bt867.2.1 bt867.2.2.1 bt867.2.2.2) else (laws_FnExactEmptyAt.j0 k true l0_0 a0_1 l0_2 l0_3 bt867.1 bt867.2.1 bt867.2.2.1 bt867.2.2.2)))) = some r := H
  have A9 := Aside0.mk A90
  clear A90
  replace H := Option.bind_eq_some_iff.mp H
  obtain ⟨⟨t867, t870, t871, t874⟩, A100, H⟩ := H
  replace H : ((impl_EmptyAt.f k t867 t870 t871 t874 a1).bind fun bt878 => (if bt878.1 = t865 then (laws_FnExactEmptyAt.j0 k (bt878.2 != t866) l0_0 a0_1 l0_2 l0_3 t867 t870 t871 t874) else (laws_FnExactEmptyAt.j0 k true l0_0 a0_1 l0_2 l0_3 t867 t870 t871 t874))) = some r := H
  have A10 := Aside0.mk A100
  clear A100
  replace H := Option.bind_eq_some_iff.mp H
  obtain ⟨⟨t878, t879⟩, A110, H⟩ := H
  replace H : (if t878 = t865 then (laws_FnExactEmptyAt.j0 k (t879 != t866) l0_0 a0_1 l0_2 l0_3 t867 t870 t871 t874) else (laws_FnExactEmptyAt.j0 k true l0_0 a0_1 l0_2 l0_3 t867 t870 t871 t874)) = some r := H
  have A11 := Aside0.mk A110
  clear A110
  have HC12 := Aside0.mk H
  clear H
  go_enter Try.func9, Try.ntmps9
  go_upto_region 8 with (first | ((with_reducible refine gate_dst (N := 2) rfl ?_); refine box_event ?hg (N := 2) ?hd (cs := #[.slice A0_0 l0_0.length c0_0, .int .i64 a0_1, .slice A0_2 l0_2.length c0_2, .slice A0_3 l0_3.length c0_3]) (t := 43) ?hr ?_; (case hd => rfl); (case hg => rfl); (case hr => first | (go_simp; done) | (go_simp; rfl)); intro gb853 hg w13 hbox hb; have n0_ := Aside0.mk (below_step (by repeat (first | (with_reducible first | exact HB.out | apply below_alloc | apply pw_below_drewN | apply below_drew1) | exact HB.out)) hb); have n1_ := Aside0.mk (hbox); have n2_ := Aside0.mk ((by rw [hg]; exact (below_size (by repeat (first | (with_reducible first | exact HB.out | apply below_alloc | apply pw_below_drewN | apply below_drew1) | exact HB.out))) : w.heap.size ≤ gb853)); have n3_ := Aside0.mk ((by rw [hg]; exact (below_size (by repeat (first | (with_reducible first | exact HB.out | apply below_alloc | apply pw_below_drewN | apply below_drew1) | exact HB.out))) : w.heap.size ≤ gb853)); clear HB; have HB := n0_; have BK853 := n1_; have GW853 := n2_; have GE853 := n3_; clear n0_ n1_ n2_ n3_; clear hb hbox hg; have hcz14_0 : w13.cell? ⟨gb853, 0, none⟩ = some (.slice A0_0 l0_0.length c0_0) := (blk_cell BK853.out 0).trans rfl; have hcz14_1 : w13.cell? ⟨gb853, 1, none⟩ = some (.int .i64 a0_1) := (blk_cell BK853.out 1).trans rfl; have hcz14_2 : w13.cell? ⟨gb853, 2, none⟩ = some (.slice A0_2 l0_2.length c0_2) := (blk_cell BK853.out 2).trans rfl; have hcz14_3 : w13.cell? ⟨gb853, 3, none⟩ = some (.slice A0_3 l0_3.length c0_3) := (blk_cell BK853.out 3).trans rfl; have hfz14_0 := blk_frozen BK853.out 0; have hfz14_1 := blk_frozen BK853.out 1; have hfz14_2 := blk_frozen BK853.out 2; have hfz14_3 := blk_frozen BK853.out 3) | ((with_reducible refine gate_callee (f := 31) rfl ?_); refine goesL_ (some 13) rfl rfl Try.func31 (by kernel_rfl) rfl #[.agg #[.slice A0_0 l0_0.length c0_0, .int .i64 a0_1, .slice A0_2 l0_2.length c0_2, .slice A0_3 l0_3.length c0_3], .int .i64 1048576] rfl (by (try simp only [List.map_toArray, List.map_cons, List.map_nil]); first | done | rfl | (simp only [List.length_drop, List.length_take]; rfl)) ?_; (with_reducible refine (laws_szLoop.calls k _ _ l0_0 a0_1 _ _ l0_2 _ _ l0_3 1048576 t854 _ ?side1 ?side2 ?side3 ?side4 ?side5 ?side6 A3.out).mono ?_); (case side1 => repeat (first | exact (Kd.C_below HR0_0.out HB.out) | (with_reducible refine Kd.C_alloc ?_ _) | (with_reducible refine Kd.C_drewN ?_ _) | (with_reducible refine Kd.C_drew ?_))); (case side2 => exact HC0_0.out); (case side3 => repeat (first | exact (Kd.C_below HR0_2.out HB.out) | (with_reducible refine Kd.C_alloc ?_ _) | (with_reducible refine Kd.C_drewN ?_ _) | (with_reducible refine Kd.C_drew ?_))); (case side4 => exact HC0_2.out); (case side5 => repeat (first | exact (Kd.C_below HR0_3.out HB.out) | (with_reducible refine Kd.C_alloc ?_ _) | (with_reducible refine Kd.C_drewN ?_ _) | (with_reducible refine Kd.C_drew ?_))); (case side6 => exact HC0_3.out); rintro e w15 ⟨rfl, hb⟩; refine ⟨_, rfl, ?_⟩; have n0_ := Aside0.mk (blk_below (g := gb853) (o := .cells #[.slice A0_0 l0_0.length c0_0, .int .i64 a0_1, .slice A0_2 l0_2.length c0_2, .slice A0_3 l0_3.length c0_3] 43 (0, 0)) (by (with_reducible repeat (first | refine blk_drewN ?_ _ | refine blk_drew ?_ | refine blk_alloc ?_ _)); exact BK853.out) hb); have n1_ := Aside0.mk (below_step (by repeat (first | (with_reducible first | exact HB.out | apply below_alloc | apply pw_below_drewN | apply below_drew1 | refine below_set ?_ GE853.out) | exact HB.out)) hb); clear BK853; clear HB; have BK853 := n0_; have HB := n1_; clear n0_ n1_; (try clear hb); (try clear hb2); (try clear hk); (try clear hi); have hcz16_0 : w15.cell? ⟨gb853, 0, none⟩ = some (.slice A0_0 l0_0.length c0_0) := (blk_cell BK853.out 0).trans rfl; have hcz16_1 : w15.cell? ⟨gb853, 1, none⟩ = some (.int .i64 a0_1) := (blk_cell BK853.out 1).trans rfl; have hcz16_2 : w15.cell? ⟨gb853, 2, none⟩ = some (.slice A0_2 l0_2.length c0_2) := (blk_cell BK853.out 2).trans rfl; have hcz16_3 : w15.cell? ⟨gb853, 3, none⟩ = some (.slice A0_3 l0_3.length c0_3) := (blk_cell BK853.out 3).trans rfl; have hfz16_0 := blk_frozen BK853.out 0; have hfz16_1 := blk_frozen BK853.out 1; have hfz16_2 := blk_frozen BK853.out 2; have hfz16_3 := blk_frozen BK853.out 3) | ((with_reducible refine gate_callee (f := 32) rfl ?_); refine goesL_ (some 18) rfl rfl Try.func32 (by kernel_rfl) rfl #[.agg #[.slice A0_0 l0_0.length c0_0, .int .i64 a0_1, .slice A0_2 l0_2.length c0_2, .slice A0_3 l0_3.length c0_3]] rfl (by (try simp only [List.map_toArray, List.map_cons, List.map_nil]); first | done | rfl | (simp only [List.length_drop, List.length_take]; rfl)) ?_; (with_reducible refine (laws_toLoop.calls k _ _ l0_0 a0_1 _ _ l0_2 _ _ l0_3 t855 t858 t859 t862 _ ?side1 ?side2 ?side3 ?side4 ?side5 ?side6 A8.out).mono ?_); (case side1 => repeat (first | exact (Kd.C_below HR0_0.out HB.out) | (with_reducible refine Kd.C_alloc ?_ _) | (with_reducible refine Kd.C_drewN ?_ _) | (with_reducible refine Kd.C_drew ?_))); (case side2 => exact HC0_0.out); (case side3 => repeat (first | exact (Kd.C_below HR0_2.out HB.out) | (with_reducible refine Kd.C_alloc ?_ _) | (with_reducible refine Kd.C_drewN ?_ _) | (with_reducible refine Kd.C_drew ?_))); (case side4 => exact HC0_2.out); (case side5 => repeat (first | exact (Kd.C_below HR0_3.out HB.out) | (with_reducible refine Kd.C_alloc ?_ _) | (with_reducible refine Kd.C_drewN ?_ _) | (with_reducible refine Kd.C_drew ?_))); (case side6 => exact HC0_3.out); rintro e w17 ⟨v856, v860, v863, rfl, ho0, ho1, ho2, hb⟩; refine ⟨_, rfl, ?_⟩; have n0_ := Aside0.mk (Kd.R_lower ho0 (below_size (by repeat (first | (with_reducible first | exact HB.out | apply below_alloc | apply pw_below_drewN | apply below_drew1 | refine below_set ?_ GE853.out) | exact HB.out)))); have n1_ := Aside0.mk (Kd.S_lower ho1 (below_size (by repeat (first | (with_reducible first | exact HB.out | apply below_alloc | apply pw_below_drewN | apply below_drew1 | refine below_set ?_ GE853.out) | exact HB.out)))); have n2_ := Aside0.mk (Kd.S_lower ho2 (below_size (by repeat (first | (with_reducible first | exact HB.out | apply below_alloc | apply pw_below_drewN | apply below_drew1 | refine below_set ?_ GE853.out) | exact HB.out)))); have n3_ := Aside0.mk (blk_below (g := gb853) (o := .cells #[.slice A0_0 l0_0.length c0_0, .int .i64 a0_1, .slice A0_2 l0_2.length c0_2, .slice A0_3 l0_3.length c0_3] 43 (0, 0)) (by (with_reducible repeat (first | refine blk_drewN ?_ _ | refine blk_drew ?_ | refine blk_alloc ?_ _)); exact BK853.out) hb); have n4_ := Aside0.mk (below_step (by repeat (first | (with_reducible first | exact HB.out | apply below_alloc | apply pw_below_drewN | apply below_drew1 | refine below_set ?_ GE853.out) | exact HB.out)) hb); clear BK853; clear HB; have HO857 := n0_; have HO861 := n1_; have HO864 := n2_; have BK853 := n3_; have HB := n4_; clear n0_ n1_ n2_ n3_ n4_; (try clear hb); (try clear hb2); (try clear hk); (try clear hi); (try clear ho0); (try clear ho1); (try clear ho2); obtain ⟨Ao18, co18, eo18⟩ := Kd.R_slice HO857.out; subst eo18; obtain ⟨Ao19, co19, eo19⟩ := Kd.S_slice HO861.out; subst eo19; obtain ⟨Ao20, co20, eo20⟩ := Kd.S_slice HO864.out; subst eo20) | ((with_reducible refine gate_callee (f := 36) rfl ?_); refine goesL_ (some 20) rfl rfl Try.func36 (by kernel_rfl) rfl #[.agg #[.slice Ao18 t855.length co18, .int .i64 t858, .slice Ao19 t859.length co19, .slice Ao20 t862.length co20], .int .i64 a1] rfl (by (try simp only [List.map_toArray, List.map_cons, List.map_nil]); first | done | rfl | (simp only [List.length_drop, List.length_take]; rfl)) ?_; (with_reducible refine (spec_EmptyAt.calls k (fun k_ => some k_ = (.slice Ao18 t855.length co18 : Value).ownBlock) _ _ t855 t858 (fun k_ => ((some k_ ≠ (.slice Ao18 t855.length co18 : Value).ownBlock ∧ some k_ ≠ (.slice Ao20 t862.length co20 : Value).ownBlock) ∧ k_ ≠ gb853)) _ _ t859 (fun k_ => ((some k_ ≠ (.slice Ao18 t855.length co18 : Value).ownBlock ∧ some k_ ≠ (.slice Ao19 t859.length co19 : Value).ownBlock) ∧ k_ ≠ gb853)) _ _ t862 a1 t865 t866 _ ?side1 ?side2 ?side3 A9.out).mono ?_); (case side1 => exact Kd.R_V (Kd.R_tight rfl (Kd.R_types (Kd.R_apart' (Kd.R_apart' (HO857.out) (Kd.S_typed HO861.out) (by decide)) (Kd.S_typed HO864.out) (by decide)) BK853.out (by decide)))); (case side2 => exact Kd.S_V (Kd.S_types (Kd.S_apart' (HO861.out) (Kd.S_typed HO864.out) (by decide)) BK853.out (by decide))); (case side3 => exact Kd.S_V (Kd.S_types (Kd.S_apart' (HO864.out) (Kd.S_typed HO861.out) (by decide)) BK853.out (by decide))); rintro e w21 ⟨rfl, hb⟩; refine ⟨_, rfl, ?_⟩; have n0_ := Aside0.mk (Kd.R_below (by (with_reducible repeat (first | apply Kd.R_alloc | apply Kd.R_drewN | apply Kd.R_drew)); exact HO857.out) hb); have n1_ := Aside0.mk (Kd.S_below (by (with_reducible repeat (first | apply Kd.S_alloc | apply Kd.S_drewN | apply Kd.S_drew)); exact HO861.out) hb); have n2_ := Aside0.mk (Kd.S_below (by (with_reducible repeat (first | apply Kd.S_alloc | apply Kd.S_drewN | apply Kd.S_drew)); exact HO864.out) hb); have n3_ := Aside0.mk (blk_below (g := gb853) (o := .cells #[.slice A0_0 l0_0.length c0_0, .int .i64 a0_1, .slice A0_2 l0_2.length c0_2, .slice A0_3 l0_3.length c0_3] 43 (0, 0)) (by (with_reducible repeat (first | refine blk_drewN ?_ _ | refine blk_drew ?_ | refine blk_alloc ?_ _)); exact BK853.out) hb); have n4_ := Aside0.mk (below_step (by repeat (first | (with_reducible first | exact HB.out | apply below_alloc | apply pw_below_drewN | apply below_drew1 | refine below_set ?_ GE853.out) | exact HB.out)) hb); clear HO857; clear HO861; clear HO864; clear BK853; clear HB; have HO857 := n0_; have HO861 := n1_; have HO864 := n2_; have BK853 := n3_; have HB := n4_; clear n0_ n1_ n2_ n3_ n4_; (try clear hb); (try clear hb2); (try clear hk); (try clear hi); have hcz22_0 : w21.cell? ⟨gb853, 0, none⟩ = some (.slice A0_0 l0_0.length c0_0) := (blk_cell BK853.out 0).trans rfl; have hcz22_1 : w21.cell? ⟨gb853, 1, none⟩ = some (.int .i64 a0_1) := (blk_cell BK853.out 1).trans rfl; have hcz22_2 : w21.cell? ⟨gb853, 2, none⟩ = some (.slice A0_2 l0_2.length c0_2) := (blk_cell BK853.out 2).trans rfl; have hcz22_3 : w21.cell? ⟨gb853, 3, none⟩ = some (.slice A0_3 l0_3.length c0_3) := (blk_cell BK853.out 3).trans rfl; have hfz22_0 := blk_frozen BK853.out 0; have hfz22_1 := blk_frozen BK853.out 1; have hfz22_2 := blk_frozen BK853.out 2; have hfz22_3 := blk_frozen BK853.out 3) | ((with_reducible refine gate_callee (f := 32) rfl ?_); refine goesL_ (some 24) rfl rfl Try.func32 (by kernel_rfl) rfl #[.agg #[.slice A0_0 l0_0.length c0_0, .int .i64 a0_1, .slice A0_2 l0_2.length c0_2, .slice A0_3 l0_3.length c0_3]] rfl (by (try simp only [List.map_toArray, List.map_cons, List.map_nil]); first | done | rfl | (simp only [List.length_drop, List.length_take]; rfl)) ?_; (with_reducible refine (laws_toLoop.calls k _ _ l0_0 a0_1 _ _ l0_2 _ _ l0_3 t867 t870 t871 t874 _ ?side1 ?side2 ?side3 ?side4 ?side5 ?side6 A10.out).mono ?_); (case side1 => repeat (first | exact (Kd.C_below HR0_0.out HB.out) | (with_reducible refine Kd.C_alloc ?_ _) | (with_reducible refine Kd.C_drewN ?_ _) | (with_reducible refine Kd.C_drew ?_))); (case side2 => exact HC0_0.out); (case side3 => repeat (first | exact (Kd.C_below HR0_2.out HB.out) | (with_reducible refine Kd.C_alloc ?_ _) | (with_reducible refine Kd.C_drewN ?_ _) | (with_reducible refine Kd.C_drew ?_))); (case side4 => exact HC0_2.out); (case side5 => repeat (first | exact (Kd.C_below HR0_3.out HB.out) | (with_reducible refine Kd.C_alloc ?_ _) | (with_reducible refine Kd.C_drewN ?_ _) | (with_reducible refine Kd.C_drew ?_))); (case side6 => exact HC0_3.out); rintro e w23 ⟨v868, v872, v875, rfl, ho0, ho1, ho2, hb⟩; refine ⟨_, rfl, ?_⟩; have n0_ := Aside0.mk (Kd.R_elder' (by (with_reducible repeat (first | apply Kd.R_alloc | apply Kd.R_drewN | apply Kd.R_drew)); exact HO857.out) (Kd.R_base ho0) hb); have n1_ := Aside0.mk (Kd.S_mono (Kd.S_told (Kd.S_told (Kd.S_old (by (with_reducible repeat (first | apply Kd.S_alloc | apply Kd.S_drewN | apply Kd.S_drew)); exact HO861.out) hb) (Kd.R_base ho0)) (Kd.S_base ho1)) (fun _ h_ => h_.1)); have n2_ := Aside0.mk (Kd.S_mono (Kd.S_told (Kd.S_told (Kd.S_old (by (with_reducible repeat (first | apply Kd.S_alloc | apply Kd.S_drewN | apply Kd.S_drew)); exact HO864.out) hb) (Kd.R_base ho0)) (Kd.S_base ho2)) (fun _ h_ => h_.1)); have n3_ := Aside0.mk (Kd.R_lower (Kd.R_new' ho0 (Kd.R_lt (by (with_reducible repeat (first | apply Kd.R_alloc | apply Kd.R_drewN | apply Kd.R_drew)); exact HO857.out))) (below_size (by repeat (first | (with_reducible first | exact HB.out | apply below_alloc | apply pw_below_drewN | apply below_drew1 | refine below_set ?_ GE853.out) | exact HB.out)))); have n4_ := Aside0.mk (Kd.S_lower (Kd.S_new' (Kd.S_new' ho1 (Kd.R_lt (by (with_reducible repeat (first | apply Kd.R_alloc | apply Kd.R_drewN | apply Kd.R_drew)); exact HO857.out))) (Kd.S_lt (by (with_reducible repeat (first | apply Kd.S_alloc | apply Kd.S_drewN | apply Kd.S_drew)); exact HO861.out))) (below_size (by repeat (first | (with_reducible first | exact HB.out | apply below_alloc | apply pw_below_drewN | apply below_drew1 | refine below_set ?_ GE853.out) | exact HB.out)))); have n5_ := Aside0.mk (Kd.S_lower (Kd.S_new' (Kd.S_new' ho2 (Kd.R_lt (by (with_reducible repeat (first | apply Kd.R_alloc | apply Kd.R_drewN | apply Kd.R_drew)); exact HO857.out))) (Kd.S_lt (by (with_reducible repeat (first | apply Kd.S_alloc | apply Kd.S_drewN | apply Kd.S_drew)); exact HO864.out))) (below_size (by repeat (first | (with_reducible first | exact HB.out | apply below_alloc | apply pw_below_drewN | apply below_drew1 | refine below_set ?_ GE853.out) | exact HB.out)))); have n6_ := Aside0.mk (blk_below (g := gb853) (o := .cells #[.slice A0_0 l0_0.length c0_0, .int .i64 a0_1, .slice A0_2 l0_2.length c0_2, .slice A0_3 l0_3.length c0_3] 43 (0, 0)) (by (with_reducible repeat (first | refine blk_drewN ?_ _ | refine blk_drew ?_ | refine blk_alloc ?_ _)); exact BK853.out) hb); have n7_ := Aside0.mk (below_step (by repeat (first | (with_reducible first | exact HB.out | apply below_alloc | apply pw_below_drewN | apply below_drew1 | refine below_set ?_ GE853.out) | exact HB.out)) hb); clear HO857; clear HO861; clear HO864; clear BK853; clear HB; have HO857 := n0_; have HO861 := n1_; have HO864 := n2_; have HO869 := n3_; have HO873 := n4_; have HO876 := n5_; have BK853 := n6_; have HB := n7_; clear n0_ n1_ n2_ n3_ n4_ n5_ n6_ n7_; (try clear hb); (try clear hb2); (try clear hk); (try clear hi); (try clear ho0); (try clear ho1); (try clear ho2)) | ((with_reducible refine gate_dst (N := 8) rfl ?_); refine box_event ?hg (N := 8) ?hd (cs := #[.slice none 0 0, .int .i64 0, .slice none 0 0, .slice none 0 0]) (t := 28) ?hr ?_; (case hd => rfl); (case hg => rfl); (case hr => first | (go_simp; done) | (go_simp; rfl)); intro gb877 hg w24 hbox hb; have n0_ := Aside0.mk (Kd.R_below (by (with_reducible repeat (first | apply Kd.R_alloc | apply Kd.R_drewN | apply Kd.R_drew)); exact HO857.out) hb); have n1_ := Aside0.mk (Kd.S_below (by (with_reducible repeat (first | apply Kd.S_alloc | apply Kd.S_drewN | apply Kd.S_drew)); exact HO861.out) hb); have n2_ := Aside0.mk (Kd.S_below (by (with_reducible repeat (first | apply Kd.S_alloc | apply Kd.S_drewN | apply Kd.S_drew)); exact HO864.out) hb); have n3_ := Aside0.mk (Kd.R_below (by (with_reducible repeat (first | apply Kd.R_alloc | apply Kd.R_drewN | apply Kd.R_drew)); exact HO869.out) hb); have n4_ := Aside0.mk (Kd.S_below (by (with_reducible repeat (first | apply Kd.S_alloc | apply Kd.S_drewN | apply Kd.S_drew)); exact HO873.out) hb); have n5_ := Aside0.mk (Kd.S_below (by (with_reducible repeat (first | apply Kd.S_alloc | apply Kd.S_drewN | apply Kd.S_drew)); exact HO876.out) hb); have n6_ := Aside0.mk (blk_below (g := gb853) (o := .cells #[.slice A0_0 l0_0.length c0_0, .int .i64 a0_1, .slice A0_2 l0_2.length c0_2, .slice A0_3 l0_3.length c0_3] 43 (0, 0)) (by (with_reducible repeat (first | refine blk_drewN ?_ _ | refine blk_drew ?_ | refine blk_alloc ?_ _)); exact BK853.out) hb); have n7_ := Aside0.mk (below_step (by repeat (first | (with_reducible first | exact HB.out | apply below_alloc | apply pw_below_drewN | apply below_drew1 | refine below_set ?_ GE853.out) | exact HB.out)) hb); have n8_ := Aside0.mk (hbox); have n9_ := Aside0.mk ((by rw [hg]; exact (below_size (by repeat (first | (with_reducible first | exact HB.out | apply below_alloc | apply pw_below_drewN | apply below_drew1 | refine below_set ?_ GE853.out) | exact HB.out))) : w.heap.size ≤ gb877)); have n10_ := Aside0.mk ((by rw [hg]; exact (below_size (by repeat (first | (with_reducible first | exact HB.out | apply below_alloc | apply pw_below_drewN | apply below_drew1 | refine below_set ?_ GE853.out) | exact HB.out))) : w.heap.size ≤ gb877)); have n11_ := Aside0.mk ((by rw [hg]; exact Nat.ne_of_lt (blk_lt (g := gb853) (o := .cells #[.slice A0_0 l0_0.length c0_0, .int .i64 a0_1, .slice A0_2 l0_2.length c0_2, .slice A0_3 l0_3.length c0_3] 43 (0, 0)) (by (with_reducible repeat (first | refine blk_drewN ?_ _ | refine blk_drew ?_ | refine blk_alloc ?_ _)); exact BK853.out)) : gb853 ≠ gb877)); have n12_ := Aside0.mk ((by rw [hg]; exact Nat.ne_of_gt (blk_lt (g := gb853) (o := .cells #[.slice A0_0 l0_0.length c0_0, .int .i64 a0_1, .slice A0_2 l0_2.length c0_2, .slice A0_3 l0_3.length c0_3] 43 (0, 0)) (by (with_reducible repeat (first | refine blk_drewN ?_ _ | refine blk_drew ?_ | refine blk_alloc ?_ _)); exact BK853.out)) : gb877 ≠ gb853)); clear HO857; clear HO861; clear HO864; clear HO869; clear HO873; clear HO876; clear BK853; clear HB; have HO857 := n0_; have HO861 := n1_; have HO864 := n2_; have HO869 := n3_; have HO873 := n4_; have HO876 := n5_; have BK853 := n6_; have HB := n7_; have BK877 := n8_; have GW877 := n9_; have GE877 := n10_; have NB853_877 := n11_; have NB877_853 := n12_; clear n0_ n1_ n2_ n3_ n4_ n5_ n6_ n7_ n8_ n9_ n10_ n11_ n12_; clear hb hbox hg; obtain ⟨Ao25, co25, eo25⟩ := Kd.R_slice HO869.out; subst eo25; have hnb26 := NB877_853.out; have hnc26 := NB853_877.out; have hcz27_0 : w24.cell? ⟨gb877, 0, none⟩ = some (.slice none 0 0) := (blk_cell BK877.out 0).trans rfl; have hcz27_1 : w24.cell? ⟨gb877, 1, none⟩ = some (.int .i64 0) := (blk_cell BK877.out 1).trans rfl; have hcz27_2 : w24.cell? ⟨gb877, 2, none⟩ = some (.slice none 0 0) := (blk_cell BK877.out 2).trans rfl; have hcz27_3 : w24.cell? ⟨gb877, 3, none⟩ = some (.slice none 0 0) := (blk_cell BK877.out 3).trans rfl; have hfz27_0 := blk_frozen BK877.out 0; have hfz27_1 := blk_frozen BK877.out 1; have hfz27_2 := blk_frozen BK877.out 2; have hfz27_3 := blk_frozen BK877.out 3; obtain ⟨Ao28, co28, eo28⟩ := Kd.S_slice HO873.out; subst eo28; obtain ⟨Ao29, co29, eo29⟩ := Kd.S_slice HO876.out; subst eo29) | ((with_reducible refine gate_callee (f := 37) rfl ?_); refine goesL_ (some 28) rfl rfl Try.func37 (by kernel_rfl) rfl #[.agg #[.slice Ao25 t867.length co25, .int .i64 t870, .slice Ao28 t871.length co28, .slice Ao29 t874.length co29], .int .i64 a1] rfl (by (try simp only [List.map_toArray, List.map_cons, List.map_nil]); first | done | rfl | (simp only [List.length_drop, List.length_take]; rfl)) ?_; (with_reducible refine (impl_EmptyAt.calls k _ _ t867 t870 _ _ t871 _ _ t874 a1 t878 t879 _ ?side1 ?side2 ?side3 ?side4 ?side5 ?side6 A11.out).mono ?_); (case side1 => refine (Kd.R_reads' (e := 3) (base := w.heap.size) (ok := fun k_ => (True ∧ some k_ ≠ (.slice Ao18 t855.length co18 : Value).ownBlock)) (n := t867.length) (c := co25) ?_).2.2; exact (by (with_reducible repeat (first | apply Kd.R_alloc | apply Kd.R_drewN | apply Kd.R_drew)); exact (Kd.R_mono (Kd.R_far (p := ⟨gb877, 3, none⟩) (Kd.R_far (p := ⟨gb877, 2, none⟩) (Kd.R_far (p := ⟨gb877, 1, none⟩) (Kd.R_far (p := ⟨gb877, 0, none⟩) (Kd.R_types HO869.out BK877.out (by decide)) (fun _ hk => hk.2) (.slice Ao25 t867.length co25)) (fun _ hk => hk.2) (.int .i64 t870)) (fun _ hk => hk.2) (.slice Ao28 t871.length co28)) (fun _ hk => hk.2) (.slice Ao29 t874.length co29)) (fun _ h_ => h_.1)))); (case side2 => exact (Kd.R_reads' HO869.out).2.1); (case side3 => refine (Kd.S_reads' (e := 69) (base := w.heap.size) (ok := fun k_ => ((some k_ ≠ (.slice Ao25 t867.length co25 : Value).ownBlock ∧ some k_ ≠ (.slice Ao18 t855.length co18 : Value).ownBlock) ∧ some k_ ≠ (.slice Ao19 t859.length co19 : Value).ownBlock)) (n := t871.length) (c := co28) ?_).2.2; exact (by (with_reducible repeat (first | apply Kd.S_alloc | apply Kd.S_drewN | apply Kd.S_drew)); exact (Kd.S_mono (Kd.S_far (p := ⟨gb877, 3, none⟩) (Kd.S_far (p := ⟨gb877, 2, none⟩) (Kd.S_far (p := ⟨gb877, 1, none⟩) (Kd.S_far (p := ⟨gb877, 0, none⟩) (Kd.S_types HO873.out BK877.out (by decide)) (fun _ hk => hk.2) (.slice Ao25 t867.length co25)) (fun _ hk => hk.2) (.int .i64 t870)) (fun _ hk => hk.2) (.slice Ao28 t871.length co28)) (fun _ hk => hk.2) (.slice Ao29 t874.length co29)) (fun _ h_ => h_.1)))); (case side4 => exact (Kd.S_reads' HO873.out).2.1); (case side5 => refine (Kd.S_reads' (e := 74) (base := w.heap.size) (ok := fun k_ => ((some k_ ≠ (.slice Ao25 t867.length co25 : Value).ownBlock ∧ some k_ ≠ (.slice Ao18 t855.length co18 : Value).ownBlock) ∧ some k_ ≠ (.slice Ao20 t862.length co20 : Value).ownBlock)) (n := t874.length) (c := co29) ?_).2.2; exact (by (with_reducible repeat (first | apply Kd.S_alloc | apply Kd.S_drewN | apply Kd.S_drew)); exact (Kd.S_mono (Kd.S_far (p := ⟨gb877, 3, none⟩) (Kd.S_far (p := ⟨gb877, 2, none⟩) (Kd.S_far (p := ⟨gb877, 1, none⟩) (Kd.S_far (p := ⟨gb877, 0, none⟩) (Kd.S_types HO876.out BK877.out (by decide)) (fun _ hk => hk.2) (.slice Ao25 t867.length co25)) (fun _ hk => hk.2) (.int .i64 t870)) (fun _ hk => hk.2) (.slice Ao28 t871.length co28)) (fun _ hk => hk.2) (.slice Ao29 t874.length co29)) (fun _ h_ => h_.1)))); (case side6 => exact (Kd.S_reads' HO876.out).2.1); rintro e w30 ⟨rfl, hb⟩; refine ⟨_, rfl, ?_⟩; have n0_ := Aside0.mk (Kd.R_below (by (with_reducible repeat (first | apply Kd.R_alloc | apply Kd.R_drewN | apply Kd.R_drew)); exact (Kd.R_mono (Kd.R_far (p := ⟨gb877, 3, none⟩) (Kd.R_far (p := ⟨gb877, 2, none⟩) (Kd.R_far (p := ⟨gb877, 1, none⟩) (Kd.R_far (p := ⟨gb877, 0, none⟩) (Kd.R_types HO857.out BK877.out (by decide)) (fun _ hk => hk.2) (.slice Ao25 t867.length co25)) (fun _ hk => hk.2) (.int .i64 t870)) (fun _ hk => hk.2) (.slice Ao28 t871.length co28)) (fun _ hk => hk.2) (.slice Ao29 t874.length co29)) (fun _ h_ => h_.1))) hb); have n1_ := Aside0.mk (Kd.S_below (by (with_reducible repeat (first | apply Kd.S_alloc | apply Kd.S_drewN | apply Kd.S_drew)); exact (Kd.S_mono (Kd.S_far (p := ⟨gb877, 3, none⟩) (Kd.S_far (p := ⟨gb877, 2, none⟩) (Kd.S_far (p := ⟨gb877, 1, none⟩) (Kd.S_far (p := ⟨gb877, 0, none⟩) (Kd.S_types HO861.out BK877.out (by decide)) (fun _ hk => hk.2) (.slice Ao25 t867.length co25)) (fun _ hk => hk.2) (.int .i64 t870)) (fun _ hk => hk.2) (.slice Ao28 t871.length co28)) (fun _ hk => hk.2) (.slice Ao29 t874.length co29)) (fun _ h_ => h_.1))) hb); have n2_ := Aside0.mk (Kd.S_below (by (with_reducible repeat (first | apply Kd.S_alloc | apply Kd.S_drewN | apply Kd.S_drew)); exact (Kd.S_mono (Kd.S_far (p := ⟨gb877, 3, none⟩) (Kd.S_far (p := ⟨gb877, 2, none⟩) (Kd.S_far (p := ⟨gb877, 1, none⟩) (Kd.S_far (p := ⟨gb877, 0, none⟩) (Kd.S_types HO864.out BK877.out (by decide)) (fun _ hk => hk.2) (.slice Ao25 t867.length co25)) (fun _ hk => hk.2) (.int .i64 t870)) (fun _ hk => hk.2) (.slice Ao28 t871.length co28)) (fun _ hk => hk.2) (.slice Ao29 t874.length co29)) (fun _ h_ => h_.1))) hb); have n3_ := Aside0.mk (Kd.R_below (by (with_reducible repeat (first | apply Kd.R_alloc | apply Kd.R_drewN | apply Kd.R_drew)); exact (Kd.R_mono (Kd.R_far (p := ⟨gb877, 3, none⟩) (Kd.R_far (p := ⟨gb877, 2, none⟩) (Kd.R_far (p := ⟨gb877, 1, none⟩) (Kd.R_far (p := ⟨gb877, 0, none⟩) (Kd.R_types HO869.out BK877.out (by decide)) (fun _ hk => hk.2) (.slice Ao25 t867.length co25)) (fun _ hk => hk.2) (.int .i64 t870)) (fun _ hk => hk.2) (.slice Ao28 t871.length co28)) (fun _ hk => hk.2) (.slice Ao29 t874.length co29)) (fun _ h_ => h_.1))) hb); have n4_ := Aside0.mk (Kd.S_below (by (with_reducible repeat (first | apply Kd.S_alloc | apply Kd.S_drewN | apply Kd.S_drew)); exact (Kd.S_mono (Kd.S_far (p := ⟨gb877, 3, none⟩) (Kd.S_far (p := ⟨gb877, 2, none⟩) (Kd.S_far (p := ⟨gb877, 1, none⟩) (Kd.S_far (p := ⟨gb877, 0, none⟩) (Kd.S_types HO873.out BK877.out (by decide)) (fun _ hk => hk.2) (.slice Ao25 t867.length co25)) (fun _ hk => hk.2) (.int .i64 t870)) (fun _ hk => hk.2) (.slice Ao28 t871.length co28)) (fun _ hk => hk.2) (.slice Ao29 t874.length co29)) (fun _ h_ => h_.1))) hb); have n5_ := Aside0.mk (Kd.S_below (by (with_reducible repeat (first | apply Kd.S_alloc | apply Kd.S_drewN | apply Kd.S_drew)); exact (Kd.S_mono (Kd.S_far (p := ⟨gb877, 3, none⟩) (Kd.S_far (p := ⟨gb877, 2, none⟩) (Kd.S_far (p := ⟨gb877, 1, none⟩) (Kd.S_far (p := ⟨gb877, 0, none⟩) (Kd.S_types HO876.out BK877.out (by decide)) (fun _ hk => hk.2) (.slice Ao25 t867.length co25)) (fun _ hk => hk.2) (.int .i64 t870)) (fun _ hk => hk.2) (.slice Ao28 t871.length co28)) (fun _ hk => hk.2) (.slice Ao29 t874.length co29)) (fun _ h_ => h_.1))) hb); have n6_ := Aside0.mk (blk_below (g := gb853) (o := .cells #[.slice A0_0 l0_0.length c0_0, .int .i64 a0_1, .slice A0_2 l0_2.length c0_2, .slice A0_3 l0_3.length c0_3] 43 (0, 0)) (by (with_reducible repeat (first | refine blk_drewN ?_ _ | refine blk_drew ?_ | refine blk_alloc ?_ _)); refine blk_far ?_ NB853_877.out _; (with_reducible repeat (first | refine blk_drewN ?_ _ | refine blk_drew ?_ | refine blk_alloc ?_ _)); refine blk_far ?_ NB853_877.out _; (with_reducible repeat (first | refine blk_drewN ?_ _ | refine blk_drew ?_ | refine blk_alloc ?_ _)); refine blk_far ?_ NB853_877.out _; (with_reducible repeat (first | refine blk_drewN ?_ _ | refine blk_drew ?_ | refine blk_alloc ?_ _)); refine blk_far ?_ NB853_877.out _; (with_reducible repeat (first | refine blk_drewN ?_ _ | refine blk_drew ?_ | refine blk_alloc ?_ _)); exact BK853.out) hb); have n7_ := Aside0.mk (blk_below (g := gb877) (o := .cells #[.slice Ao25 t867.length co25, .int .i64 t870, .slice Ao28 t871.length co28, .slice Ao29 t874.length co29] 28 (0, 0)) (by (with_reducible repeat (first | refine blk_drewN ?_ _ | refine blk_drew ?_ | refine blk_alloc ?_ _)); refine blk_put (cs := #[.slice Ao25 t867.length co25, .int .i64 t870, .slice Ao28 t871.length co28, .slice none 0 0]) ?_ 3 _ rfl; (with_reducible repeat (first | refine blk_drewN ?_ _ | refine blk_drew ?_ | refine blk_alloc ?_ _)); refine blk_put (cs := #[.slice Ao25 t867.length co25, .int .i64 t870, .slice none 0 0, .slice none 0 0]) ?_ 2 _ rfl; (with_reducible repeat (first | refine blk_drewN ?_ _ | refine blk_drew ?_ | refine blk_alloc ?_ _)); refine blk_put (cs := #[.slice Ao25 t867.length co25, .int .i64 0, .slice none 0 0, .slice none 0 0]) ?_ 1 _ rfl; (with_reducible repeat (first | refine blk_drewN ?_ _ | refine blk_drew ?_ | refine blk_alloc ?_ _)); refine blk_put (cs := #[.slice none 0 0, .int .i64 0, .slice none 0 0, .slice none 0 0]) ?_ 0 _ rfl; (with_reducible repeat (first | refine blk_drewN ?_ _ | refine blk_drew ?_ | refine blk_alloc ?_ _)); exact BK877.out) hb); have n8_ := Aside0.mk (below_step (by repeat (first | (with_reducible first | exact HB.out | apply below_alloc | apply pw_below_drewN | apply below_drew1 | refine below_set ?_ GE853.out | refine below_set ?_ GE877.out) | exact HB.out)) hb); clear HO857; clear HO861; clear HO864; clear HO869; clear HO873; clear HO876; clear BK853; clear BK877; clear HB; have HO857 := n0_; have HO861 := n1_; have HO864 := n2_; have HO869 := n3_; have HO873 := n4_; have HO876 := n5_; have BK853 := n6_; have BK877 := n7_; have HB := n8_; clear n0_ n1_ n2_ n3_ n4_ n5_ n6_ n7_ n8_; (try clear hb); (try clear hb2); (try clear hk); (try clear hi)))
  (try simp only [Act.put, List.setIfInBounds_toArray, List.set_cons_zero, List.set_cons_succ])
  go_cut [38] (fun v38 wc => ∃ (kq : Nat) (x38_11 : Bool), v38 = .bool x38_11 ∧ Aside0 (laws_FnExactEmptyAt.j0 kq x38_11 l0_0 a0_1 l0_2 l0_3 t867 t870 t871 t874 = some r) ∧ Aside0 (kq ≤ k) ∧ Aside0 (Kd.R (Kd.int .i64) 3 wc w.heap.size (fun _ => True) (.slice Ao25 t867.length co25) t867) ∧ Aside0 (Kd.S k69 69 wc w.heap.size (fun k_ => some k_ ≠ ((.slice Ao25 t867.length co25) : Value).ownBlock) (.slice Ao28 t871.length co28) t871) ∧ Aside0 (Kd.S k74 74 wc w.heap.size (fun k_ => some k_ ≠ ((.slice Ao25 t867.length co25) : Value).ownBlock) (.slice Ao29 t874.length co29) t874) ∧ Aside0 (wc.heap[gb853]? = some (.cells #[(.slice A0_0 l0_0.length c0_0), .int .i64 a0_1, (.slice A0_2 l0_2.length c0_2), (.slice A0_3 l0_3.length c0_3)] 43 (0, 0))) ∧ Aside0 (wc.heap[gb877]? = some (.cells #[(.slice Ao25 t867.length co25), .int .i64 t870, (.slice Ao28 t871.length co28), (.slice Ao29 t874.length co29)] 28 (0, 0))) ∧ Aside0 (Below w.heap.size w wc))
  case first =>
   have H := HC12.out
   clear HC12
   by_cases c31 : t878 = t865
   ·rw [if_pos c31] at H
    have c31b0 : (t878 == t865) = true := beq_iff_eq.mpr c31
    have c31b1 : (t878 != t865) = false := bne_eq_false_iff_eq.mpr c31
    clear c31
    (first | rw [c31b0] | (simp only [i64_w, i32_w]; rw [c31b0]) | skip)
    have H' := Aside0.mk H
    clear H
    go_wp2
    go_meet
    case rel => exact ⟨_, ((t879 != t866)), (by first | rfl | (simp; done) | (simp [*]; done)), H', ⟨by first | omega | exact Nat.le_refl _⟩, ⟨by (with_reducible repeat (first | apply Kd.R_alloc | apply Kd.R_drewN | apply Kd.R_drew)); exact Kd.R_mono HO869.out (fun _ hk => trivial)⟩, ⟨by (with_reducible repeat (first | apply Kd.S_alloc | apply Kd.S_drewN | apply Kd.S_drew)); exact Kd.S_mono HO873.out (fun _ hk => hk.1.1)⟩, ⟨by (with_reducible repeat (first | apply Kd.S_alloc | apply Kd.S_drewN | apply Kd.S_drew)); exact Kd.S_mono HO876.out (fun _ hk => hk.1.1)⟩, ⟨by (with_reducible repeat (first | refine blk_drewN ?_ _ | refine blk_drew ?_ | refine blk_alloc ?_ _)); exact BK853.out⟩, ⟨by (with_reducible repeat (first | refine blk_drewN ?_ _ | refine blk_drew ?_ | refine blk_alloc ?_ _)); exact BK877.out⟩, ⟨by repeat (first | (with_reducible first | exact HB.out | apply below_alloc | apply pw_below_drewN | apply below_drew1 | refine below_set ?_ GE853.out | refine below_set ?_ GE877.out) | exact HB.out)⟩⟩
   ·rw [if_neg c31] at H
    have c31b0 : (t878 == t865) = false := beq_eq_false_iff_ne.mpr c31
    have c31b1 : (t878 != t865) = true := bne_iff_ne.mpr c31
    (first | rw [c31b0] | (simp only [i64_w, i32_w]; rw [c31b0]) | skip)
    exact absurd (H.trans (congrArg some hrt.out)) (by cases k <;> simp [laws_FnExactEmptyAt.j0])
  case rest =>
   clear HC12
   try clear c2
   try clear p2
   try clear c3
   try clear c4
   try clear c4b0
   try clear c9
   try clear c26
   try clear c31
   try clear c31b0
   try clear c31b1
   try clear hcz14_0
   try clear hcz14_1
   try clear hcz14_2
   try clear hcz14_3
   try clear hcz16_0
   try clear hcz16_1
   try clear hcz16_2
   try clear hcz16_3
   try clear hcz22_0
   try clear hcz22_1
   try clear hcz22_2
   try clear hcz22_3
   try clear hcz27_0
   try clear hcz27_1
   try clear hcz27_2
   try clear hcz27_3
   try clear hcz6_0
   try clear hcz6_1
   try clear hcz6_2
   try clear hcz6_3
   try clear hfz14_0
   try clear hfz14_1
   try clear hfz14_2
   try clear hfz14_3
   try clear hfz16_0
   try clear hfz16_1
   try clear hfz16_2
   try clear hfz16_3
   try clear hfz22_0
   try clear hfz22_1
   try clear hfz22_2
   try clear hfz22_3
   try clear hfz27_0
   try clear hfz27_1
   try clear hfz27_2
   try clear hfz27_3
   try clear hfz6_0
   try clear hfz6_1
   try clear hfz6_2
   try clear hfz6_3
   obtain ⟨kq, x38_11, rfl, HA, HJ11, HO_878000, HO_878002, HO_878003, BK853, BK877, HB⟩ := hcut
   cases kq with
   | zero => exact absurd HA.out (by simp [laws_FnExactEmptyAt.j0])
   | succ kj11 =>
    have H := HA.out
    clear HA
    simp only [laws_FnExactEmptyAt.j0] at H
    by_cases c32 : x38_11 = true
    ·subst c32
     have H1 : (some false) = some r := by rw [if_pos rfl] at H; exact H
     clear H
     have H := H1
     clear H1
     exact absurd (H.trans (congrArg some hrt.out)) (by simp)
    ·replace c32 := Bool.eq_false_iff.mpr c32
     subst c32
     have H1 : ((laws_toLoop.f kj11 l0_0 a0_1 l0_2 l0_3).bind fun bt880 => ((laws_eqLoop.f kj11 t867 t870 t871 t874 bt880.1 bt880.2.1 bt880.2.2.1 bt880.2.2.2).bind fun t890 => (if t890 = true then (some true) else (some false)))) = some r := by rw [if_neg (show ¬ (false = true) by decide)] at H; exact H
     clear H
     have H := H1
     clear H1
     replace H := Option.bind_eq_some_iff.mp H
     obtain ⟨⟨t880, t883, t884, t887⟩, A330, H⟩ := H
     replace H : ((laws_eqLoop.f kj11 t867 t870 t871 t874 t880 t883 t884 t887).bind fun t890 => (if t890 = true then (some true) else (some false))) = some r := H
     have A33 := Aside0.mk A330
     clear A330
     replace H := Option.bind_eq_some_iff.mp H
     obtain ⟨t890, A340, H⟩ := H
     replace H : (if t890 = true then (some true) else (some false)) = some r := H
     have A34 := Aside0.mk A340
     clear A340
     by_cases c35 : t890 = true
     ·subst c35
      have H1 : (some true) = some r := by rw [if_pos rfl] at H; exact H
      clear H
      have H := H1
      clear H1
      obtain rfl := Option.some.inj H
      try go_wp2
      have n0_ := Aside0.mk (Kd.R_drew HO_878000.out)
      have n1_ := Aside0.mk (Kd.S_drew HO_878002.out)
      have n2_ := Aside0.mk (Kd.S_drew HO_878003.out)
      have n3_ := Aside0.mk (blk_drew BK853.out)
      have n4_ := Aside0.mk (blk_drew BK877.out)
      have n5_ := Aside0.mk (below_drew1 HB.out)
      clear HO_878000
      clear HO_878002
      clear HO_878003
      clear BK853
      clear BK877
      clear HB
      have HO_878000 := n0_
      have HO_878002 := n1_
      have HO_878003 := n2_
      have BK853 := n3_
      have BK877 := n4_
      have HB := n5_
      clear n0_ n1_ n2_ n3_ n4_ n5_
      refine start_ (n := 5) (S := fun w' => w'.cell? ⟨gb877, 0, none⟩ = some (.slice Ao25 t867.length co25) ∧ w'.cell? ⟨gb877, 1, none⟩ = some (.int .i64 t870) ∧ w'.cell? ⟨gb877, 2, none⟩ = some (.slice Ao28 t871.length co28) ∧ w'.cell? ⟨gb877, 3, none⟩ = some (.slice Ao29 t874.length co29) ∧ w'.cell? ⟨gb853, 0, none⟩ = some (.slice A0_0 l0_0.length c0_0) ∧ w'.cell? ⟨gb853, 1, none⟩ = some (.int .i64 a0_1) ∧ w'.cell? ⟨gb853, 2, none⟩ = some (.slice A0_2 l0_2.length c0_2) ∧ w'.cell? ⟨gb853, 3, none⟩ = some (.slice A0_3 l0_3.length c0_3)) (ds := []) #[false, false, false, false, false] (by kernel_rfl) rfl rfl ⟨(blk_cell BK877.out 0).trans rfl, (blk_cell BK877.out 1).trans rfl, (blk_cell BK877.out 2).trans rfl, (blk_cell BK877.out 3).trans rfl, (blk_cell BK853.out 0).trans rfl, (blk_cell BK853.out 1).trans rfl, (blk_cell BK853.out 2).trans rfl, (blk_cell BK853.out 3).trans rfl⟩ (fun hHeld => ?_)
      generalize wc.drew = w36 at HO_878000 HO_878002 HO_878003 BK853 BK877 HB hHeld ⊢
      refine take_ (i := 0) (N := some 39) (v := ?_) (a' := ?_) #[true, false, false, false, false] rfl rfl (by kernel_rfl) (fun _ _ _ h => h) (Or.inl ⟨by rfl, ?_⟩) hHeld ?_ ?_
      rotate_left
      ·rintro w' ⟨s0, s1, s2, s3, s4, s5, s6, s7⟩
       go_simp
       with_reducible rfl
      rotate_left
      ·simp only [Act.put, List.setIfInBounds_toArray, List.set_cons_zero, List.set_cons_succ, i64_w, i32_w]
       rfl
      refine take_ (i := 1) (N := some 40) (v := ?_) (a' := ?_) #[true, true, false, false, false] rfl rfl (by kernel_rfl) (fun _ _ _ h => h) (Or.inl ⟨by rfl, ?_⟩) hHeld ?_ ?_
      rotate_left
      ·rintro w' ⟨s0, s1, s2, s3, s4, s5, s6, s7⟩
       go_simp
       with_reducible rfl
      rotate_left
      ·simp only [Act.put, List.setIfInBounds_toArray, List.set_cons_zero, List.set_cons_succ, i64_w, i32_w]
       rfl
      refine one_ (i := 2) (N := some 41) #[true, true, true, false, false] rfl rfl (by kernel_rfl) (by decide) (fun K hK => ?_)
      refine goes_ Try.func32 (by kernel_rfl) rfl #[.agg #[.slice A0_0 l0_0.length c0_0, .int .i64 a0_1, .slice A0_2 l0_2.length c0_2, .slice A0_3 l0_3.length c0_3]] (by rfl) rfl rfl (by (try simp only [List.map_toArray, List.map_cons, List.map_nil]); first | done | rfl | (simp only [List.length_drop, List.length_take]; rfl)) ?_
      with_reducible refine (laws_toLoop.calls kj11 _ _ l0_0 a0_1 _ _ l0_2 _ _ l0_3 t880 t883 t884 t887 _ ?side1 ?side2 ?side3 ?side4 ?side5 ?side6 A33.out).mono ?_
      (case side1 => repeat (first | exact (Kd.C_below HR0_0.out HB.out) | (with_reducible refine Kd.C_alloc ?_ _) | (with_reducible refine Kd.C_drewN ?_ _) | (with_reducible refine Kd.C_drew ?_)))
      (case side2 => exact HC0_0.out)
      (case side3 => repeat (first | exact (Kd.C_below HR0_2.out HB.out) | (with_reducible refine Kd.C_alloc ?_ _) | (with_reducible refine Kd.C_drewN ?_ _) | (with_reducible refine Kd.C_drew ?_)))
      (case side4 => exact HC0_2.out)
      (case side5 => repeat (first | exact (Kd.C_below HR0_3.out HB.out) | (with_reducible refine Kd.C_alloc ?_ _) | (with_reducible refine Kd.C_drewN ?_ _) | (with_reducible refine Kd.C_drew ?_)))
      (case side6 => exact HC0_3.out)
      rintro e w37 ⟨v881, v885, v888, rfl, ho0, ho1, ho2, hb⟩
      refine ⟨_, rfl, ?_⟩
      have n0_ := Aside0.mk (Kd.R_elder' (by (with_reducible repeat (first | apply Kd.R_alloc | apply Kd.R_drewN | apply Kd.R_drew)); exact HO_878000.out) (Kd.R_base ho0) hb)
      have n1_ := Aside0.mk (Kd.S_mono (Kd.S_told (Kd.S_told (Kd.S_old (by (with_reducible repeat (first | apply Kd.S_alloc | apply Kd.S_drewN | apply Kd.S_drew)); exact HO_878002.out) hb) (Kd.R_base ho0)) (Kd.S_base ho1)) (fun _ h_ => h_.1))
      have n2_ := Aside0.mk (Kd.S_mono (Kd.S_told (Kd.S_told (Kd.S_old (by (with_reducible repeat (first | apply Kd.S_alloc | apply Kd.S_drewN | apply Kd.S_drew)); exact HO_878003.out) hb) (Kd.R_base ho0)) (Kd.S_base ho2)) (fun _ h_ => h_.1))
      have n3_ := Aside0.mk (Kd.R_lower (Kd.R_new' ho0 (Kd.R_lt (by (with_reducible repeat (first | apply Kd.R_alloc | apply Kd.R_drewN | apply Kd.R_drew)); exact HO_878000.out))) (below_size (by repeat (first | (with_reducible first | exact HB.out | apply below_alloc | apply pw_below_drewN | apply below_drew1 | refine below_set ?_ GE853.out | refine below_set ?_ GE877.out) | exact HB.out))))
      have n4_ := Aside0.mk (Kd.S_lower (Kd.S_new' (Kd.S_new' ho1 (Kd.R_lt (by (with_reducible repeat (first | apply Kd.R_alloc | apply Kd.R_drewN | apply Kd.R_drew)); exact HO_878000.out))) (Kd.S_lt (by (with_reducible repeat (first | apply Kd.S_alloc | apply Kd.S_drewN | apply Kd.S_drew)); exact HO_878002.out))) (below_size (by repeat (first | (with_reducible first | exact HB.out | apply below_alloc | apply pw_below_drewN | apply below_drew1 | refine below_set ?_ GE853.out | refine below_set ?_ GE877.out) | exact HB.out))))
      have n5_ := Aside0.mk (Kd.S_lower (Kd.S_new' (Kd.S_new' ho2 (Kd.R_lt (by (with_reducible repeat (first | apply Kd.R_alloc | apply Kd.R_drewN | apply Kd.R_drew)); exact HO_878000.out))) (Kd.S_lt (by (with_reducible repeat (first | apply Kd.S_alloc | apply Kd.S_drewN | apply Kd.S_drew)); exact HO_878003.out))) (below_size (by repeat (first | (with_reducible first | exact HB.out | apply below_alloc | apply pw_below_drewN | apply below_drew1 | refine below_set ?_ GE853.out | refine below_set ?_ GE877.out) | exact HB.out))))
      have n6_ := Aside0.mk (blk_below (g := gb853) (o := .cells #[.slice A0_0 l0_0.length c0_0, .int .i64 a0_1, .slice A0_2 l0_2.length c0_2, .slice A0_3 l0_3.length c0_3] 43 (0, 0)) (by (with_reducible repeat (first | refine blk_drewN ?_ _ | refine blk_drew ?_ | refine blk_alloc ?_ _)); exact BK853.out) hb)
      have n7_ := Aside0.mk (blk_below (g := gb877) (o := .cells #[.slice Ao25 t867.length co25, .int .i64 t870, .slice Ao28 t871.length co28, .slice Ao29 t874.length co29] 28 (0, 0)) (by (with_reducible repeat (first | refine blk_drewN ?_ _ | refine blk_drew ?_ | refine blk_alloc ?_ _)); exact BK877.out) hb)
      have n8_ := Aside0.mk (below_step (by repeat (first | (with_reducible first | exact HB.out | apply below_alloc | apply pw_below_drewN | apply below_drew1 | refine below_set ?_ GE853.out | refine below_set ?_ GE877.out) | exact HB.out)) hb)
      clear HO_878000
      clear HO_878002
      clear HO_878003
      clear BK853
      clear BK877
      clear HB
      have HO_878000 := n0_
      have HO_878002 := n1_
      have HO_878003 := n2_
      have HO882 := n3_
      have HO886 := n4_
      have HO889 := n5_
      have BK853 := n6_
      have BK877 := n7_
      have HB := n8_
      clear n0_ n1_ n2_ n3_ n4_ n5_ n6_ n7_ n8_
      (try clear hb)
      (try clear hb2)
      (try clear hk)
      (try clear hi)
      (try clear ho0)
      (try clear ho1)
      (try clear ho2)
      obtain ⟨Ao38, co38, eo38⟩ := Kd.R_slice HO882.out
      (first | subst eo38 | (injection eo38 with f1_ f2_ f3_; have f4_ := f1_.symm; have f5_ := f3_.symm; clear f1_ f2_ f3_; subst f4_; subst f5_))
      obtain ⟨Ao39, co39, eo39⟩ := Kd.S_slice HO886.out
      (first | subst eo39 | (injection eo39 with f1_ f2_ f3_; have f4_ := f1_.symm; have f5_ := f3_.symm; clear f1_ f2_ f3_; subst f4_; subst f5_))
      obtain ⟨Ao40, co40, eo40⟩ := Kd.S_slice HO889.out
      (first | subst eo40 | (injection eo40 with f1_ f2_ f3_; have f4_ := f1_.symm; have f5_ := f3_.symm; clear f1_ f2_ f3_; subst f4_; subst f5_))
      refine hK.out _ _ ⟨(blk_cell BK877.out 0).trans rfl, (blk_cell BK877.out 1).trans rfl, (blk_cell BK877.out 2).trans rfl, (blk_cell BK877.out 3).trans rfl, (blk_cell BK853.out 0).trans rfl, (blk_cell BK853.out 1).trans rfl, (blk_cell BK853.out 2).trans rfl, (blk_cell BK853.out 3).trans rfl⟩ (fun hHeld => ?_)
      clear hK K
      refine norm_ (a' := ?_) ?_ ?_
      rotate_left
      ·show Act.put _ (some 41) _ = _
       simp only [Act.put, List.setIfInBounds_toArray, List.set_cons_zero, List.set_cons_succ, i64_w, i32_w]
       rfl
      refine one_ (i := 3) (N := some 42) #[true, true, true, true, false] rfl rfl (by kernel_rfl) (by decide) (fun K hK => ?_)
      refine goes_ Try.func33 (by kernel_rfl) rfl #[.agg #[.slice Ao25 t867.length co25, .int .i64 t870, .slice Ao28 t871.length co28, .slice Ao29 t874.length co29], .agg #[.slice Ao38 t880.length co38, .int .i64 t883, .slice Ao39 t884.length co39, .slice Ao40 t887.length co40]] (by rfl) rfl rfl (by (try simp only [List.map_toArray, List.map_cons, List.map_nil]); first | done | rfl | (simp only [List.length_drop, List.length_take]; rfl)) ?_
      with_reducible refine (laws_eqLoop.calls kj11 _ _ t867 t870 _ _ t871 _ _ t874 _ _ t880 t883 _ _ t884 _ _ t887 true _ ?side1 ?side2 ?side3 ?side4 ?side5 ?side6 ?side7 ?side8 ?side9 ?side10 ?side11 ?side12 A34.out).mono ?_
      (case side1 => repeat (first | exact (Kd.R_reads' HO_878000.out).2.2 | (with_reducible refine Kd.C_alloc ?_ _) | (with_reducible refine Kd.C_drewN ?_ _) | (with_reducible refine Kd.C_drew ?_)))
      (case side2 => exact (Kd.R_reads' HO_878000.out).2.1)
      (case side3 => repeat (first | exact (Kd.S_reads' HO_878002.out).2.2 | (with_reducible refine Kd.C_alloc ?_ _) | (with_reducible refine Kd.C_drewN ?_ _) | (with_reducible refine Kd.C_drew ?_)))
      (case side4 => exact (Kd.S_reads' HO_878002.out).2.1)
      (case side5 => repeat (first | exact (Kd.S_reads' HO_878003.out).2.2 | (with_reducible refine Kd.C_alloc ?_ _) | (with_reducible refine Kd.C_drewN ?_ _) | (with_reducible refine Kd.C_drew ?_)))
      (case side6 => exact (Kd.S_reads' HO_878003.out).2.1)
      (case side7 => repeat (first | exact (Kd.R_reads' HO882.out).2.2 | (with_reducible refine Kd.C_alloc ?_ _) | (with_reducible refine Kd.C_drewN ?_ _) | (with_reducible refine Kd.C_drew ?_)))
      (case side8 => exact (Kd.R_reads' HO882.out).2.1)
      (case side9 => repeat (first | exact (Kd.S_reads' HO886.out).2.2 | (with_reducible refine Kd.C_alloc ?_ _) | (with_reducible refine Kd.C_drewN ?_ _) | (with_reducible refine Kd.C_drew ?_)))
      (case side10 => exact (Kd.S_reads' HO886.out).2.1)
      (case side11 => repeat (first | exact (Kd.S_reads' HO889.out).2.2 | (with_reducible refine Kd.C_alloc ?_ _) | (with_reducible refine Kd.C_drewN ?_ _) | (with_reducible refine Kd.C_drew ?_)))
      (case side12 => exact (Kd.S_reads' HO889.out).2.1)
      rintro e w41 ⟨rfl, hb⟩
      refine ⟨_, rfl, ?_⟩
      have n0_ := Aside0.mk (Kd.R_below (by (with_reducible repeat (first | apply Kd.R_alloc | apply Kd.R_drewN | apply Kd.R_drew)); exact HO_878000.out) hb)
      have n1_ := Aside0.mk (Kd.S_below (by (with_reducible repeat (first | apply Kd.S_alloc | apply Kd.S_drewN | apply Kd.S_drew)); exact HO_878002.out) hb)
      have n2_ := Aside0.mk (Kd.S_below (by (with_reducible repeat (first | apply Kd.S_alloc | apply Kd.S_drewN | apply Kd.S_drew)); exact HO_878003.out) hb)
      have n3_ := Aside0.mk (Kd.R_below (by (with_reducible repeat (first | apply Kd.R_alloc | apply Kd.R_drewN | apply Kd.R_drew)); exact HO882.out) hb)
      have n4_ := Aside0.mk (Kd.S_below (by (with_reducible repeat (first | apply Kd.S_alloc | apply Kd.S_drewN | apply Kd.S_drew)); exact HO886.out) hb)
      have n5_ := Aside0.mk (Kd.S_below (by (with_reducible repeat (first | apply Kd.S_alloc | apply Kd.S_drewN | apply Kd.S_drew)); exact HO889.out) hb)
      have n6_ := Aside0.mk (blk_below (g := gb853) (o := .cells #[.slice A0_0 l0_0.length c0_0, .int .i64 a0_1, .slice A0_2 l0_2.length c0_2, .slice A0_3 l0_3.length c0_3] 43 (0, 0)) (by (with_reducible repeat (first | refine blk_drewN ?_ _ | refine blk_drew ?_ | refine blk_alloc ?_ _)); exact BK853.out) hb)
      have n7_ := Aside0.mk (blk_below (g := gb877) (o := .cells #[.slice Ao25 t867.length co25, .int .i64 t870, .slice Ao28 t871.length co28, .slice Ao29 t874.length co29] 28 (0, 0)) (by (with_reducible repeat (first | refine blk_drewN ?_ _ | refine blk_drew ?_ | refine blk_alloc ?_ _)); exact BK877.out) hb)
      have n8_ := Aside0.mk (below_step (by repeat (first | (with_reducible first | exact HB.out | apply below_alloc | apply pw_below_drewN | apply below_drew1 | refine below_set ?_ GE853.out | refine below_set ?_ GE877.out) | exact HB.out)) hb)
      clear HO_878000
      clear HO_878002
      clear HO_878003
      clear HO882
      clear HO886
      clear HO889
      clear BK853
      clear BK877
      clear HB
      have HO_878000 := n0_
      have HO_878002 := n1_
      have HO_878003 := n2_
      have HO882 := n3_
      have HO886 := n4_
      have HO889 := n5_
      have BK853 := n6_
      have BK877 := n7_
      have HB := n8_
      clear n0_ n1_ n2_ n3_ n4_ n5_ n6_ n7_ n8_
      (try clear hb)
      (try clear hb2)
      (try clear hk)
      (try clear hi)
      refine hK.out _ _ ⟨(blk_cell BK877.out 0).trans rfl, (blk_cell BK877.out 1).trans rfl, (blk_cell BK877.out 2).trans rfl, (blk_cell BK877.out 3).trans rfl, (blk_cell BK853.out 0).trans rfl, (blk_cell BK853.out 1).trans rfl, (blk_cell BK853.out 2).trans rfl, (blk_cell BK853.out 3).trans rfl⟩ (fun hHeld => ?_)
      clear hK K
      refine norm_ (a' := ?_) ?_ ?_
      rotate_left
      ·show Act.put _ (some 42) _ = _
       simp only [Act.put, List.setIfInBounds_toArray, List.set_cons_zero, List.set_cons_succ, i64_w, i32_w]
       rfl
      refine pure_ (i := 4) (N := some 43) (v := ?_) (a' := ?_) #[true, true, true, true, true] rfl rfl (by kernel_rfl) (fun _ _ _ h => h) (Or.inl ⟨by rfl, ?_⟩) ?_ ?_
      rotate_left
      ·intro w'
       go_simp
       with_reducible rfl
      rotate_left
      ·simp only [Act.put, List.setIfInBounds_toArray, List.set_cons_zero, List.set_cons_succ, i64_w, i32_w]
       rfl
      refine done_ (by kernel_rfl) ?_
      try go_wp2
      go_ret
      exact ⟨by first | rfl | (simp [errW_none, errW_some] <;> rfl) | (simp [*, errW_none, errW_some] <;> rfl), by repeat (first | (with_reducible first | exact HB.out | apply below_alloc | apply pw_below_drewN | apply below_drew1 | refine below_set ?_ GE853.out | refine below_set ?_ GE877.out) | exact HB.out)⟩
     ·replace c35 := Bool.eq_false_iff.mpr c35
      subst c35
      have H1 : (some false) = some r := by rw [if_neg (show ¬ (false = true) by decide)] at H; exact H
      clear H
      have H := H1
      clear H1
      exact absurd (H.trans (congrArg some hrt.out)) (by simp)

end Go.Proofs.Ytmjhbdmicejppaa.Px
