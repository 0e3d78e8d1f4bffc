import Derived.Test.YtmonbofhfaaflaaZfPx0
import Derived.Test.YtmonbofhfaaflaaZfPx1
import Derived.Test.YtmonbofhfaaflaaZfPx6
import Derived.Test.YtmonbofhfaaflaaZfPx7
import Derived.Test.YtmonbofhfaaflaaZfPx9
import Derived.Test.YtmonbofhfaaflaaZfPx12
import Derived.Test.YtmonbofhfaaflaaZfPx14
import Derived.Test.YtmonbofhfaaflaaZfPx16
namespace Go.Proofs.Ytmonbofhfaaflaa.Px
open Go.RowKit Go.Proofs.YtmonbofhfaaflaaW.PrintWords Go.Proofs.YtmonbofhfaaflaaW.PrintLast Go.Proofs.YtmonbofhfaaflaaW.PrintMore
attribute [local go_sem] max2_int min2_int max_two min_two max_three min_three max_four min_four   -- for this text's walks alone
set_option linter.unusedVariables false
set_option linter.unusedSimpArgs false

attribute [local go_sem high] eqA39
def spec_DrawScreen.f (k : Nat) (l0 : List Int) : Option (List Int × Int × Int × Int) := (spec_l01New.f k l0).bind fun bt447 => ((spec_l04Policy.f bt447.1 bt447.2.1 bt447.2.2).bind fun bt451 => ((spec_l04Screen.f bt447.1 bt451.2.1 bt451.2.2).bind fun bt457 => (some (bt451.1, bt457.1, bt457.2.1, bt457.2.2.1))))
theorem spec_DrawScreen.mono : ∀ a0 k, LeO (spec_DrawScreen.f k a0) (spec_DrawScreen.f (k + 1) a0) := by
 intro a0 k
 unfold spec_DrawScreen.f
 repeat' first
   | (with_reducible exact spec_l01New.mono _ _)
   | (with_reducible exact LeO.refl _)
   | (with_reducible exact LeO.none _)
   | (with_reducible refine LeO.ite ?_ ?_)
   | (with_reducible refine LeO.bind ?_ (fun _ => ?_))
   | exact spec_l01New.mono _ _
   | exact LeO.none _
   | refine LeO.ite ?_ ?_
   | refine LeO.bind ?_ (fun _ => ?_)
set_option maxHeartbeats 8000000 in
set_option maxRecDepth 100000 in
theorem spec_DrawScreen.calls (k : Nat) (A0 : Option Addr) (c0 : Nat) (l0 : List Int) (r1 : List Int) (r2 : Int) (r3 : Int) (r4 : Int) (w : World) (hr0 : Kd.C (Kd.int .u8) w A0 l0.length l0) (hc0 : l0.length ≤ c0) (h : spec_DrawScreen.f k l0 = some (r1, r2, r3, r4)) :
  Calls Try.prog 43 #[.slice A0 l0.length c0] w fun e w' => ∃ v0_ : Value, e = .returned (.tuple #[.agg #[v0_], .agg #[.int .i64 r2, .int .i64 r3, .int .i64 r4]]) ∧ Kd.R (Kd.int .i64) 3 w' w.heap.size (fun _ => True) v0_ r1 ∧ Below w.heap.size w w' := by
 have hu53 := Try.underlying53
 have hu39 := Try.underlying39
 have HR0 := Aside0.mk hr0
 have HC0 := Aside0.mk hc0
 clear hr0 hc0
 have HB := Aside0.mk (Below.refl w.heap.size w)
 have H : ((spec_l01New.f k l0).bind fun bt447 => ((spec_l04Policy.f bt447.1 bt447.2.1 bt447.2.2).bind fun bt451 => ((spec_l04Screen.f bt447.1 bt451.2.1 bt451.2.2).bind fun bt457 => (some (bt451.1, bt457.1, bt457.2.1, bt457.2.2.1))))) = some (r1, r2, r3, r4) := h
 clear h
 replace H := Option.bind_eq_some_iff.mp H
 obtain ⟨⟨t447, t448, t449⟩, A20, H⟩ := H
 replace H : ((spec_l04Policy.f t447 t448 t449).bind fun bt451 => ((spec_l04Screen.f t447 bt451.2.1 bt451.2.2).bind fun bt457 => (some (bt451.1, bt457.1, bt457.2.1, bt457.2.2.1)))) = some (r1, r2, r3, r4) := H
 have A2 := Aside0.mk A20
 clear A20
 replace H := Option.bind_eq_some_iff.mp H
 obtain ⟨⟨t451, t454, t455⟩, A30, H⟩ := H
 replace H : ((spec_l04Screen.f t447 t454 t455).bind fun bt457 => (some (t451, bt457.1, bt457.2.1, bt457.2.2.1))) = some (r1, r2, r3, r4) := H
 have A3 := Aside0.mk A30
 clear A30
 replace H := Option.bind_eq_some_iff.mp H
 obtain ⟨⟨t457, t458, t459, t460, t461⟩, A40, H⟩ := H
 replace H : (some (t451, t457, t458, t459)) = some (r1, r2, r3, r4) := H
 have A4 := Aside0.mk A40
 clear A40
 simp only [Option.some.injEq, Prod.mk.injEq] at H
 obtain ⟨rfl, rfl, rfl, rfl⟩ := H
 go_enter Try.func43, Try.ntmps43
 try go_wp2_with (first | ((with_reducible refine gate_dst (N := 2) rfl ?_); refine box_event ?hg (N := 2) ?hd (cs := #[.slice none 0 0]) (t := 53) ?hr ?_; (case hd => rfl); (case hg => rfl); (case hr => first | (go_simp; done) | (go_simp; rfl)); intro gb445 hg w5 hbox hb; have n0_ := Aside0.mk (below_step (by repeat (first | (with_reducible first | exact HB.out | apply below_alloc | apply pw_below_drewN | apply below_drew1) | exact HB.out)) hb); have n1_ := Aside0.mk (hbox); have n2_ := Aside0.mk ((by rw [hg]; exact (below_size (by repeat (first | (with_reducible first | exact HB.out | apply below_alloc | apply pw_below_drewN | apply below_drew1) | exact HB.out))) : w.heap.size ≤ gb445)); have n3_ := Aside0.mk ((by rw [hg]; exact (below_size (by repeat (first | (with_reducible first | exact HB.out | apply below_alloc | apply pw_below_drewN | apply below_drew1) | exact HB.out))) : w.heap.size ≤ gb445)); clear HB; have HB := n0_; have BK445 := n1_; have GW445 := n2_; have GE445 := n3_; clear n0_ n1_ n2_ n3_; clear hb hbox hg) | ((with_reducible refine gate_dst (N := 3) rfl ?_); refine box_event ?hg (N := 3) ?hd (cs := #[.int .i64 0, .int .i64 0, .int .i64 0]) (t := 39) ?hr ?_; (case hd => rfl); (case hg => rfl); (case hr => first | (go_simp; done) | (go_simp; rfl)); intro gb446 hg w6 hbox hb; have n0_ := Aside0.mk (blk_below (g := gb445) (o := .cells #[.slice none 0 0] 53 (0, 0)) (by (with_reducible repeat (first | refine blk_drewN ?_ _ | refine blk_drew ?_ | refine blk_alloc ?_ _)); exact BK445.out) hb); have n1_ := Aside0.mk (below_step (by repeat (first | (with_reducible first | exact HB.out | apply below_alloc | apply pw_below_drewN | apply below_drew1 | refine below_set ?_ GE445.out) | exact HB.out)) hb); have n2_ := Aside0.mk (hbox); have n3_ := Aside0.mk ((by rw [hg]; exact (below_size (by repeat (first | (with_reducible first | exact HB.out | apply below_alloc | apply pw_below_drewN | apply below_drew1 | refine below_set ?_ GE445.out) | exact HB.out))) : w.heap.size ≤ gb446)); have n4_ := Aside0.mk ((by rw [hg]; exact (below_size (by repeat (first | (with_reducible first | exact HB.out | apply below_alloc | apply pw_below_drewN | apply below_drew1 | refine below_set ?_ GE445.out) | exact HB.out))) : w.heap.size ≤ gb446)); have n5_ := Aside0.mk ((by rw [hg]; exact Nat.ne_of_lt (blk_lt (g := gb445) (o := .cells #[.slice none 0 0] 53 (0, 0)) (by (with_reducible repeat (first | refine blk_drewN ?_ _ | refine blk_drew ?_ | refine blk_alloc ?_ _)); exact BK445.out)) : gb445 ≠ gb446)); have n6_ := Aside0.mk ((by rw [hg]; exact Nat.ne_of_gt (blk_lt (g := gb445) (o := .cells #[.slice none 0 0] 53 (0, 0)) (by (with_reducible repeat (first | refine blk_drewN ?_ _ | refine blk_drew ?_ | refine blk_alloc ?_ _)); exact BK445.out)) : gb446 ≠ gb445)); clear BK445; clear HB; have BK445 := n0_; have HB := n1_; have BK446 := n2_; have GW446 := n3_; have GE446 := n4_; have NB445_446 := n5_; have NB446_445 := n6_; clear n0_ n1_ n2_ n3_ n4_ n5_ n6_; clear hb hbox hg) | ((with_reducible refine gate_callee (f := 55) rfl ?_); refine goesL_ (some 7) rfl rfl Try.func55 (by kernel_rfl) rfl #[.slice A0 l0.length c0] rfl (by (try simp only [List.map_toArray, List.map_cons, List.map_nil]); first | done | rfl | (simp only [List.length_drop, List.length_take]; rfl)) ?_; (with_reducible refine (spec_l01New.calls k _ _ l0 t447 t448 t449 w _ ?side1 ?side2 ?side3 A2.out).mono ?_); (case side1 => repeat (first | (with_reducible first | exact HB.out | apply below_alloc | apply pw_below_drewN | apply below_drew1 | refine below_set ?_ GE445.out | refine below_set ?_ GE446.out) | exact HB.out)); (case side2 => exact HR0.out); (case side3 => exact HC0.out); rintro e w7 ⟨g450, rfl, hi, hb, hb2⟩; refine ⟨_, rfl, ?_⟩; have n0_ := Aside0.mk (blk_below (g := gb445) (o := .cells #[.slice none 0 0] 53 (0, 0)) (by (with_reducible repeat (first | refine blk_drewN ?_ _ | refine blk_drew ?_ | refine blk_alloc ?_ _)); exact BK445.out) hb2); have n1_ := Aside0.mk (blk_below (g := gb446) (o := .cells #[.int .i64 0, .int .i64 0, .int .i64 0] 39 (0, 0)) (by (with_reducible repeat (first | refine blk_drewN ?_ _ | refine blk_drew ?_ | refine blk_alloc ?_ _)); exact BK446.out) hb2); have n2_ := Aside0.mk (hb); have n3_ := Aside0.mk (hi); have n4_ := Aside0.mk (IsS93.ne_blk hi (blk_below (g := gb445) (o := .cells #[.slice none 0 0] 53 (0, 0)) (by (with_reducible repeat (first | refine blk_drewN ?_ _ | refine blk_drew ?_ | refine blk_alloc ?_ _)); exact BK445.out) hb2) (by decide)); have n5_ := Aside0.mk (Ne.symm (IsS93.ne_blk hi (blk_below (g := gb445) (o := .cells #[.slice none 0 0] 53 (0, 0)) (by (with_reducible repeat (first | refine blk_drewN ?_ _ | refine blk_drew ?_ | refine blk_alloc ?_ _)); exact BK445.out) hb2) (by decide))); have n6_ := Aside0.mk (IsS93.ne_blk hi (blk_below (g := gb446) (o := .cells #[.int .i64 0, .int .i64 0, .int .i64 0] 39 (0, 0)) (by (with_reducible repeat (first | refine blk_drewN ?_ _ | refine blk_drew ?_ | refine blk_alloc ?_ _)); exact BK446.out) hb2) (by decide)); have n7_ := Aside0.mk (Ne.symm (IsS93.ne_blk hi (blk_below (g := gb446) (o := .cells #[.int .i64 0, .int .i64 0, .int .i64 0] 39 (0, 0)) (by (with_reducible repeat (first | refine blk_drewN ?_ _ | refine blk_drew ?_ | refine blk_alloc ?_ _)); exact BK446.out) hb2) (by decide))); clear BK445; clear BK446; clear HB; have BK445 := n0_; have BK446 := n1_; have HB := n2_; have HI450 := n3_; have NB450_445 := n4_; have NB445_450 := n5_; have NB450_446 := n6_; have NB446_450 := n7_; clear n0_ n1_ n2_ n3_ n4_ n5_ n6_ n7_; (try clear hb); (try clear hb2); (try clear hk); (try clear hi)) | ((with_reducible refine gate_callee (f := 56) rfl ?_); refine goesL_ (some 9) rfl rfl Try.func56 (by kernel_rfl) rfl #[.pointer (some ⟨g450, 0, none⟩)] rfl (by (try simp only [List.map_toArray, List.map_cons, List.map_nil]); first | done | rfl | (simp only [List.length_drop, List.length_take]; rfl)) ?_; (with_reducible refine (spec_l04Policy.calls g450 t447 t448 t449 t451 t454 t455 w _ ?side1 ?side2 A3.out).mono ?_); (case side1 => repeat (first | (with_reducible first | exact HI450.out | apply IsS93.alloc | apply IsS93.drewN | apply IsS93.drew | apply IsS93.set_1 | apply IsS93.set_2 | refine IsS93.far ?_ NB450_445.out _ | refine IsS93.far ?_ NB450_446.out _) | exact HI450.out)); (case side2 => repeat (first | (with_reducible first | exact HB.out | apply below_alloc | apply pw_below_drewN | apply below_drew1 | refine below_set ?_ (IsS93.ge HI450.out) | refine below_set ?_ GE445.out | refine below_set ?_ GE446.out) | exact HB.out)); rintro e w8 ⟨v452, rfl, ho0, hi, hb, hk⟩; refine ⟨_, rfl, ?_⟩; have n0_ := Aside0.mk (KeepBut.blk hk (g' := gb445) (o := .cells #[.slice none 0 0] 53 (0, 0)) (by (with_reducible repeat (first | refine blk_drewN ?_ _ | refine blk_drew ?_ | refine blk_alloc ?_ _)); exact BK445.out) NB445_450.out (by simp)); have n1_ := Aside0.mk (KeepBut.blk hk (g' := gb446) (o := .cells #[.int .i64 0, .int .i64 0, .int .i64 0] 39 (0, 0)) (by (with_reducible repeat (first | refine blk_drewN ?_ _ | refine blk_drew ?_ | refine blk_alloc ?_ _)); exact BK446.out) NB446_450.out (by simp)); have n2_ := Aside0.mk (Kd.R_lower ho0 (below_size (by repeat (first | (with_reducible first | exact HB.out | apply below_alloc | apply pw_below_drewN | apply below_drew1 | refine below_set ?_ (IsS93.ge HI450.out) | refine below_set ?_ GE445.out | refine below_set ?_ GE446.out) | exact HB.out)))); have n3_ := Aside0.mk (hb); have n4_ := Aside0.mk (hi); clear BK445; clear BK446; clear HB; clear HI450; have BK445 := n0_; have BK446 := n1_; have HO453 := n2_; have HB := n3_; have HI450 := n4_; clear n0_ n1_ n2_ n3_ n4_; (try clear hb); (try clear hb2); (try clear hk); (try clear hi); (try clear ho0)) | ((with_reducible refine gate_dst (N := 5) rfl ?_); refine box_event ?hg (N := 5) ?hd (cs := #[.slice none 0 0]) (t := 53) ?hr ?_; (case hd => rfl); (case hg => rfl); (case hr => first | (go_simp; done) | (go_simp; rfl)); intro gb456 hg w9 hbox hb; have n0_ := Aside0.mk (Kd.R_below (by (with_reducible repeat (first | apply Kd.R_alloc | apply Kd.R_drewN | apply Kd.R_drew)); exact HO453.out) hb); have n1_ := Aside0.mk (blk_below (g := gb445) (o := .cells #[.slice none 0 0] 53 (0, 0)) (by (with_reducible repeat (first | refine blk_drewN ?_ _ | refine blk_drew ?_ | refine blk_alloc ?_ _)); exact BK445.out) hb); have n2_ := Aside0.mk (blk_below (g := gb446) (o := .cells #[.int .i64 0, .int .i64 0, .int .i64 0] 39 (0, 0)) (by (with_reducible repeat (first | refine blk_drewN ?_ _ | refine blk_drew ?_ | refine blk_alloc ?_ _)); exact BK446.out) hb); have n3_ := Aside0.mk (IsS93.below (by repeat (first | (with_reducible first | exact HI450.out | apply IsS93.alloc | apply IsS93.drewN | apply IsS93.drew | apply IsS93.set_1 | apply IsS93.set_2 | refine IsS93.far ?_ NB450_445.out _ | refine IsS93.far ?_ NB450_446.out _) | exact HI450.out)) hb); have n4_ := Aside0.mk (below_step (by repeat (first | (with_reducible first | exact HB.out | apply below_alloc | apply pw_below_drewN | apply below_drew1 | refine below_set ?_ (IsS93.ge HI450.out) | refine below_set ?_ GE445.out | refine below_set ?_ GE446.out) | exact HB.out)) hb); have n5_ := Aside0.mk (hbox); have n6_ := Aside0.mk ((by rw [hg]; exact (below_size (by repeat (first | (with_reducible first | exact HB.out | apply below_alloc | apply pw_below_drewN | apply below_drew1 | refine below_set ?_ (IsS93.ge HI450.out) | refine below_set ?_ GE445.out | refine below_set ?_ GE446.out) | exact HB.out))) : w.heap.size ≤ gb456)); have n7_ := Aside0.mk ((by rw [hg]; exact (below_size (by repeat (first | (with_reducible first | exact HB.out | apply below_alloc | apply pw_below_drewN | apply below_drew1 | refine below_set ?_ (IsS93.ge HI450.out) | refine below_set ?_ GE445.out | refine below_set ?_ GE446.out) | exact HB.out))) : w.heap.size ≤ gb456)); have n8_ := Aside0.mk ((by rw [hg]; exact Nat.ne_of_lt (blk_lt (g := gb445) (o := .cells #[.slice none 0 0] 53 (0, 0)) (by (with_reducible repeat (first | refine blk_drewN ?_ _ | refine blk_drew ?_ | refine blk_alloc ?_ _)); exact BK445.out)) : gb445 ≠ gb456)); have n9_ := Aside0.mk ((by rw [hg]; exact Nat.ne_of_gt (blk_lt (g := gb445) (o := .cells #[.slice none 0 0] 53 (0, 0)) (by (with_reducible repeat (first | refine blk_drewN ?_ _ | refine blk_drew ?_ | refine blk_alloc ?_ _)); exact BK445.out)) : gb456 ≠ gb445)); have n10_ := Aside0.mk ((by rw [hg]; exact Nat.ne_of_lt (blk_lt (g := gb446) (o := .cells #[.int .i64 0, .int .i64 0, .int .i64 0] 39 (0, 0)) (by (with_reducible repeat (first | refine blk_drewN ?_ _ | refine blk_drew ?_ | refine blk_alloc ?_ _)); exact BK446.out)) : gb446 ≠ gb456)); have n11_ := Aside0.mk ((by rw [hg]; exact Nat.ne_of_gt (blk_lt (g := gb446) (o := .cells #[.int .i64 0, .int .i64 0, .int .i64 0] 39 (0, 0)) (by (with_reducible repeat (first | refine blk_drewN ?_ _ | refine blk_drew ?_ | refine blk_alloc ?_ _)); exact BK446.out)) : gb456 ≠ gb446)); have n12_ := Aside0.mk ((by rw [hg]; exact Nat.ne_of_lt (IsS93.lt (show IsS93 w _ g450 t447 t454 t455 from by repeat (first | (with_reducible first | exact HI450.out | apply IsS93.alloc | apply IsS93.drewN | apply IsS93.drew | apply IsS93.set_1 | apply IsS93.set_2 | refine IsS93.far ?_ NB450_445.out _ | refine IsS93.far ?_ NB450_446.out _) | exact HI450.out))) : g450 ≠ gb456)); have n13_ := Aside0.mk ((by rw [hg]; exact Nat.ne_of_gt (IsS93.lt (show IsS93 w _ g450 t447 t454 t455 from by repeat (first | (with_reducible first | exact HI450.out | apply IsS93.alloc | apply IsS93.drewN | apply IsS93.drew | apply IsS93.set_1 | apply IsS93.set_2 | refine IsS93.far ?_ NB450_445.out _ | refine IsS93.far ?_ NB450_446.out _) | exact HI450.out))) : gb456 ≠ g450)); clear HO453; clear BK445; clear BK446; clear HI450; clear HB; have HO453 := n0_; have BK445 := n1_; have BK446 := n2_; have HI450 := n3_; have HB := n4_; have BK456 := n5_; have GW456 := n6_; have GE456 := n7_; have NB445_456 := n8_; have NB456_445 := n9_; have NB446_456 := n10_; have NB456_446 := n11_; have NB450_456 := n12_; have NB456_450 := n13_; clear n0_ n1_ n2_ n3_ n4_ n5_ n6_ n7_ n8_ n9_ n10_ n11_ n12_ n13_; clear hb hbox hg; obtain ⟨Ao10, co10, eo10⟩ := Kd.R_slice HO453.out; subst eo10; have hnb11 := NB456_445.out; have hnc11 := NB445_456.out; have hnb12 := NB456_446.out; have hnc12 := NB446_456.out; have hnb13 := NB456_450.out; have hnc13 := NB450_456.out; have hcz14_0 : w9.cell? ⟨gb456, 0, none⟩ = some (.slice none 0 0) := (blk_cell BK456.out 0).trans rfl; have hfz14_0 := blk_frozen BK456.out 0))
 have n0_ : Aside0 (Kd.R (Kd.int .i64) 3 (w9.setCell ⟨gb456, 0, none⟩ (.slice Ao10 t451.length co10)) w.heap.size (fun _ => True) (.slice Ao10 t451.length co10) t451) := ⟨by (with_reducible repeat (first | apply Kd.R_alloc | apply Kd.R_drewN | apply Kd.R_drew)); exact Kd.R_mono (Kd.R_far (p := ⟨gb456, 0, none⟩) (Kd.R_types HO453.out BK456.out (by decide)) (fun _ hk => hk.2) (.slice Ao10 t451.length co10)) (fun _ hk => trivial)⟩
 have n1_ : Aside0 ((w9.setCell ⟨gb456, 0, none⟩ (.slice Ao10 t451.length co10)).heap[gb445]? = some (.cells #[.slice none 0 0] 53 (0, 0))) := ⟨by (with_reducible repeat (first | refine blk_drewN ?_ _ | refine blk_drew ?_ | refine blk_alloc ?_ _)); refine blk_far ?_ NB445_456.out _; (with_reducible repeat (first | refine blk_drewN ?_ _ | refine blk_drew ?_ | refine blk_alloc ?_ _)); exact BK445.out⟩
 have n2_ : Aside0 ((w9.setCell ⟨gb456, 0, none⟩ (.slice Ao10 t451.length co10)).heap[gb446]? = some (.cells #[.int .i64 0, .int .i64 0, .int .i64 0] 39 (0, 0))) := ⟨by (with_reducible repeat (first | refine blk_drewN ?_ _ | refine blk_drew ?_ | refine blk_alloc ?_ _)); refine blk_far ?_ NB446_456.out _; (with_reducible repeat (first | refine blk_drewN ?_ _ | refine blk_drew ?_ | refine blk_alloc ?_ _)); exact BK446.out⟩
 have n3_ : Aside0 ((w9.setCell ⟨gb456, 0, none⟩ (.slice Ao10 t451.length co10)).heap[gb456]? = some (.cells #[.slice Ao10 t451.length co10] 53 (0, 0))) := ⟨by (with_reducible repeat (first | refine blk_drewN ?_ _ | refine blk_drew ?_ | refine blk_alloc ?_ _)); refine blk_put (cs := #[.slice none 0 0]) ?_ 0 _ rfl; (with_reducible repeat (first | refine blk_drewN ?_ _ | refine blk_drew ?_ | refine blk_alloc ?_ _)); exact BK456.out⟩
 have n4_ : Aside0 (IsS93 w (w9.setCell ⟨gb456, 0, none⟩ (.slice Ao10 t451.length co10)) g450 t447 t454 t455) := ⟨by repeat (first | (with_reducible first | exact HI450.out | apply IsS93.alloc | apply IsS93.drewN | apply IsS93.drew | apply IsS93.set_1 | apply IsS93.set_2 | refine IsS93.far ?_ NB450_445.out _ | refine IsS93.far ?_ NB450_446.out _ | refine IsS93.far ?_ NB450_456.out _) | exact HI450.out)⟩
 have n5_ : Aside0 (Below w.heap.size w (w9.setCell ⟨gb456, 0, none⟩ (.slice Ao10 t451.length co10))) := ⟨by repeat (first | (with_reducible first | exact HB.out | apply below_alloc | apply pw_below_drewN | apply below_drew1 | refine below_set ?_ (IsS93.ge HI450.out) | refine below_set ?_ GE445.out | refine below_set ?_ GE446.out | refine below_set ?_ GE456.out) | exact HB.out)⟩
 (try clear HO453)
 (try clear BK445)
 (try clear BK446)
 (try clear BK456)
 (try clear HI450)
 (try clear HB)
 generalize (w9.setCell ⟨gb456, 0, none⟩ (.slice Ao10 t451.length co10)) = w15 at n0_ n1_ n2_ n3_ n4_ n5_ ⊢
 have HO453 := n0_
 have BK445 := n1_
 have BK446 := n2_
 have BK456 := n3_
 have HI450 := n4_
 have HB := n5_
 clear n0_ n1_ n2_ n3_ n4_ n5_
 have n0_ := Aside0.mk (Kd.R_drew HO453.out)
 have n1_ := Aside0.mk (blk_drew BK445.out)
 have n2_ := Aside0.mk (blk_drew BK446.out)
 have n3_ := Aside0.mk (blk_drew BK456.out)
 have n4_ := Aside0.mk (IsS93.drew HI450.out)
 have n5_ := Aside0.mk (below_drew1 HB.out)
 clear HO453
 clear BK445
 clear BK446
 clear BK456
 clear HI450
 clear HB
 have HO453 := n0_
 have BK445 := n1_
 have BK446 := n2_
 have BK456 := n3_
 have HI450 := n4_
 have HB := n5_
 clear n0_ n1_ n2_ n3_ n4_ n5_
 refine start_ (n := 5) (S := fun w' => w'.cell? ⟨gb456, 0, none⟩ = some (.slice Ao10 t451.length co10)) (ds := []) #[false, false, false, false, false] (by kernel_rfl) rfl rfl ((blk_cell BK456.out 0).trans rfl) (fun hHeld => ?_)
 generalize w15.drew = w16 at HO453 BK445 BK446 BK456 HI450 HB hHeld ⊢
 refine pure_ (i := 1) (N := some 11) (v := ?_) (a' := ?_) #[false, true, false, false, false] rfl rfl (by kernel_rfl) (fun _ _ _ h => h) (Or.inl ⟨by rfl, ?_⟩) ?_ ?_
 rotate_left
 ·intro w'
  go_simp
  with_reducible rfl
 rotate_left
 ·simp only [Act.put, List.setIfInBounds_toArray, List.set_cons_zero, List.set_cons_succ, i64_w, i32_w]
  rfl
 refine take_ (i := 0) (N := some 10) (v := ?_) (a' := ?_) #[true, true, false, false, false] rfl rfl (by kernel_rfl) (fun _ _ _ h => h) (Or.inl ⟨by rfl, ?_⟩) hHeld ?_ ?_
 rotate_left
 ·intro w' s0
  go_simp
  with_reducible rfl
 rotate_left
 ·simp only [Act.put, List.setIfInBounds_toArray, List.set_cons_zero, List.set_cons_succ, i64_w, i32_w]
  rfl
 refine one_ (i := 2) (N := some 12) #[true, true, true, false, false] rfl rfl (by kernel_rfl) (by decide) (fun K hK => ?_)
 refine goes_ Try.func57 (by kernel_rfl) rfl #[.pointer (some ⟨g450, 0, none⟩)] (by rfl) rfl rfl (by (try simp only [List.map_toArray, List.map_cons, List.map_nil]); first | done | rfl | (simp only [List.length_drop, List.length_take]; rfl)) ?_
 with_reducible refine (spec_l04Screen.calls g450 t447 t454 t455 t457 t458 t459 t460 t461 w _ ?side1 ?side2 A4.out).mono ?_
 (case side1 => repeat (first | (with_reducible first | exact HI450.out | apply IsS93.alloc | apply IsS93.drewN | apply IsS93.drew | apply IsS93.set_1 | apply IsS93.set_2 | refine IsS93.far ?_ NB450_445.out _ | refine IsS93.far ?_ NB450_446.out _ | refine IsS93.far ?_ NB450_456.out _) | exact HI450.out))
 (case side2 => repeat (first | (with_reducible first | exact HB.out | apply below_alloc | apply pw_below_drewN | apply below_drew1 | refine below_set ?_ (IsS93.ge HI450.out) | refine below_set ?_ GE445.out | refine below_set ?_ GE446.out | refine below_set ?_ GE456.out) | exact HB.out))
 rintro e w17 ⟨rfl, hi, hb, hk⟩
 refine ⟨_, rfl, ?_⟩
 have n0_ := Aside0.mk (KeepBut.blk hk (g' := gb445) (o := .cells #[.slice none 0 0] 53 (0, 0)) (by (with_reducible repeat (first | refine blk_drewN ?_ _ | refine blk_drew ?_ | refine blk_alloc ?_ _)); exact BK445.out) NB445_450.out (by simp))
 have n1_ := Aside0.mk (KeepBut.blk hk (g' := gb446) (o := .cells #[.int .i64 0, .int .i64 0, .int .i64 0] 39 (0, 0)) (by (with_reducible repeat (first | refine blk_drewN ?_ _ | refine blk_drew ?_ | refine blk_alloc ?_ _)); exact BK446.out) NB446_450.out (by simp))
 have n2_ := Aside0.mk (Kd.R_mono (Kd.R_keep (IsS93.apart (show IsS93 w _ g450 t447 t454 t455 from by repeat (first | (with_reducible first | exact HI450.out | apply IsS93.alloc | apply IsS93.drewN | apply IsS93.drew | apply IsS93.set_1 | apply IsS93.set_2 | refine IsS93.far ?_ NB450_445.out _ | refine IsS93.far ?_ NB450_446.out _ | refine IsS93.far ?_ NB450_456.out _) | exact HI450.out)) (by (with_reducible repeat (first | apply Kd.R_alloc | apply Kd.R_drewN | apply Kd.R_drew)); exact HO453.out) (by decide)) hk (fun _ h => h.2)) (fun _ h => h.1))
 have n3_ := Aside0.mk (KeepBut.blk hk (g' := gb456) (o := .cells #[.slice Ao10 t451.length co10] 53 (0, 0)) (by (with_reducible repeat (first | refine blk_drewN ?_ _ | refine blk_drew ?_ | refine blk_alloc ?_ _)); exact BK456.out) NB456_450.out (by simp))
 have n4_ := Aside0.mk (hb)
 have n5_ := Aside0.mk (hi)
 clear BK445
 clear BK446
 clear HO453
 clear BK456
 clear HB
 clear HI450
 have BK445 := n0_
 have BK446 := n1_
 have HO453 := n2_
 have BK456 := n3_
 have HB := n4_
 have HI450 := n5_
 clear n0_ n1_ n2_ n3_ n4_ n5_
 (try clear hb)
 (try clear hb2)
 (try clear hk)
 (try clear hi)
 refine hK.out _ _ ((blk_cell BK456.out 0).trans rfl) (fun hHeld => ?_)
 clear hK K
 refine norm_ (a' := ?_) ?_ ?_
 rotate_left
 ·show Act.put _ (some 12) _ = _
  simp only [Act.put, List.setIfInBounds_toArray, List.set_cons_zero, List.set_cons_succ, i64_w, i32_w]
  rfl
 refine one_ (i := 3) (N := none) #[true, true, true, true, false] rfl rfl (by kernel_rfl) (by decide) (fun K hK => ?_)
 have hs18 : w17.cell? ⟨gb445, 0, none⟩ = some (.slice none 0 0) := (blk_cell BK445.out 0).trans rfl
 have hfs18 := blk_frozen BK445.out 0
 have hns18_1 := NB446_445.out
 have hns18_2 := NB456_445.out
 have hms18_1 := NB445_446.out
 have hms18_2 := NB445_456.out
 refine skip_ (w1 := ?_) (by rfl) rfl ?_ ?_
 rotate_left
 ·go_simp
  rfl
 refine hK.out _ _ (((cell_far (p := ⟨gb445, _, none⟩) NB456_445.out _).trans (hHeld))) (fun hHeld => ?_)
 clear hK K
 refine one_ (i := 4) (N := none) #[true, true, true, true, true] rfl rfl (by kernel_rfl) (by decide) (fun K hK => ?_)
 have hs19 : w17.cell? ⟨gb446, 0, none⟩ = some (.int .i64 0) := (blk_cell BK446.out 0).trans rfl
 have hfs19 := blk_frozen BK446.out 0
 have hns19_0 := NB445_446.out
 have hns19_2 := NB456_446.out
 have hms19_0 := NB446_445.out
 have hms19_2 := NB446_456.out
 have hs20 : w17.cell? ⟨gb446, 1, none⟩ = some (.int .i64 0) := (blk_cell BK446.out 1).trans rfl
 have hfs20 := blk_frozen BK446.out 1
 have hns20_0 := NB445_446.out
 have hns20_2 := NB456_446.out
 have hms20_0 := NB446_445.out
 have hms20_2 := NB446_456.out
 have hs21 : w17.cell? ⟨gb446, 2, none⟩ = some (.int .i64 0) := (blk_cell BK446.out 2).trans rfl
 have hfs21 := blk_frozen BK446.out 2
 have hns21_0 := NB445_446.out
 have hns21_2 := NB456_446.out
 have hms21_0 := NB446_445.out
 have hms21_2 := NB446_456.out
 refine skip_ (w1 := ?_) (by rfl) rfl ?_ ?_
 rotate_left
 ·go_simp
  rfl
 refine hK.out _ _ (((cell_far (p := ⟨gb446, _, none⟩) NB456_446.out _).trans (((cell_far (p := ⟨gb446, _, none⟩) NB456_446.out _).trans (((cell_far (p := ⟨gb446, _, none⟩) NB456_446.out _).trans (hHeld))))))) (fun hHeld => ?_)
 clear hK K
 refine done_ (by kernel_rfl) ?_
 try go_wp2
 refine bodyPost_ret (results_cc rfl _ _ gb445 gb446 53 39 #[.slice Ao10 t451.length co10] #[.int .i64 t457, .int .i64 t458, .int .i64 t459] (0, 0) (0, 0) _ _ rfl (by (with_reducible repeat (first | refine blk_drewN ?_ _ | refine blk_drew ?_ | refine blk_alloc ?_ _)); refine blk_far ?_ NB445_446.out _; (with_reducible repeat (first | refine blk_drewN ?_ _ | refine blk_drew ?_ | refine blk_alloc ?_ _)); refine blk_far ?_ NB445_446.out _; (with_reducible repeat (first | refine blk_drewN ?_ _ | refine blk_drew ?_ | refine blk_alloc ?_ _)); refine blk_far ?_ NB445_446.out _; (with_reducible repeat (first | refine blk_drewN ?_ _ | refine blk_drew ?_ | refine blk_alloc ?_ _)); refine blk_put (cs := #[.slice none 0 0]) ?_ 0 _ rfl; (with_reducible repeat (first | refine blk_drewN ?_ _ | refine blk_drew ?_ | refine blk_alloc ?_ _)); exact BK445.out) Try.underlying53 rfl (by kernel_rfl) rfl (by (with_reducible repeat (first | refine blk_drewN ?_ _ | refine blk_drew ?_ | refine blk_alloc ?_ _)); refine blk_put (cs := #[.int .i64 t457, .int .i64 t458, .int .i64 0]) ?_ 2 _ rfl; (with_reducible repeat (first | refine blk_drewN ?_ _ | refine blk_drew ?_ | refine blk_alloc ?_ _)); refine blk_put (cs := #[.int .i64 t457, .int .i64 0, .int .i64 0]) ?_ 1 _ rfl; (with_reducible repeat (first | refine blk_drewN ?_ _ | refine blk_drew ?_ | refine blk_alloc ?_ _)); refine blk_put (cs := #[.int .i64 0, .int .i64 0, .int .i64 0]) ?_ 0 _ rfl; (with_reducible repeat (first | refine blk_drewN ?_ _ | refine blk_drew ?_ | refine blk_alloc ?_ _)); refine blk_far ?_ NB446_445.out _; (with_reducible repeat (first | refine blk_drewN ?_ _ | refine blk_drew ?_ | refine blk_alloc ?_ _)); exact BK446.out) Try.underlying39 rfl (by kernel_rfl)) rfl ?_
 exact ⟨_, by first | rfl | (simp [errW_none, errW_some] <;> rfl) | (simp [*, errW_none, errW_some] <;> rfl), by (with_reducible repeat (first | apply Kd.R_alloc | apply Kd.R_drewN | apply Kd.R_drew)); exact Kd.R_mono (Kd.R_far (p := ⟨gb446, 2, none⟩) (Kd.R_far (p := ⟨gb446, 1, none⟩) (Kd.R_far (p := ⟨gb446, 0, none⟩) (Kd.R_far (p := ⟨gb445, 0, none⟩) (Kd.R_types (Kd.R_types HO453.out BK445.out (by decide)) BK446.out (by decide)) (fun _ hk => hk.1.2) (.slice Ao10 t451.length co10)) (fun _ hk => hk.2) (.int .i64 t457)) (fun _ hk => hk.2) (.int .i64 t458)) (fun _ hk => hk.2) (.int .i64 t459)) (fun _ hk => trivial), by repeat (first | (with_reducible first | exact HB.out | apply below_alloc | apply pw_below_drewN | apply below_drew1 | refine below_set ?_ (IsS93.ge HI450.out) | refine below_set ?_ GE445.out | refine below_set ?_ GE446.out | refine below_set ?_ GE456.out) | exact HB.out)⟩

def spec_DrawPlaces.l0 : Nat → List Int → Int → List Int → Int → Int → Option (List Int)
 | 0, _, _, _, _, _ => none
 | k + 1, x4, x5, x466000, x466001, x466002 => if x5 < 12 then ((spec_l01Below.f x466000 x466001 x466002 10000).bind fun bt469 => (if x4.length < 17592186044416 then (spec_DrawPlaces.l0 k (x4 ++ [bt469.1]) (wrap64 (x5 + 1)) x466000 bt469.2.1 bt469.2.2) else (none))) else (some x4)
def spec_DrawPlaces.f (k : Nat) (l0 : List Int) : Option (List Int) := (spec_l01New.f k l0).bind fun bt462 => (spec_DrawPlaces.l0 k (([] : List Int)) 0 bt462.1 bt462.2.1 bt462.2.2)
theorem spec_DrawPlaces.mono_l : ∀ k, (∀ y0 y1 y2 y3 y4, LeO (spec_DrawPlaces.l0 k y0 y1 y2 y3 y4) (spec_DrawPlaces.l0 (k + 1) y0 y1 y2 y3 y4))
 | 0 => fun _ _ _ _ _ r h => by simp [spec_DrawPlaces.l0] at h
 | k + 1 => by
  have ih0 := spec_DrawPlaces.mono_l k
  ·intro y0 y1 y2 y3 y4
   unfold spec_DrawPlaces.l0
   repeat' first
   | (with_reducible exact ih0 _ _ _ _ _)
   | (with_reducible exact spec_l01New.mono _ _)
   | (with_reducible exact LeO.refl _)
   | (with_reducible exact LeO.none _)
   | (with_reducible refine LeO.ite ?_ ?_)
   | (with_reducible refine LeO.bind ?_ (fun _ => ?_))
   | exact ih0 _ _ _ _ _
   | exact spec_l01New.mono _ _
   | exact LeO.none _
   | refine LeO.ite ?_ ?_
   | refine LeO.bind ?_ (fun _ => ?_)
theorem spec_DrawPlaces.mono : ∀ a0 k, LeO (spec_DrawPlaces.f k a0) (spec_DrawPlaces.f (k + 1) a0) := by
 intro a0 k
 have ih0 := spec_DrawPlaces.mono_l k
 unfold spec_DrawPlaces.f
 repeat' first
   | (with_reducible exact ih0 _ _ _ _ _)
   | (with_reducible exact spec_l01New.mono _ _)
   | (with_reducible exact LeO.refl _)
   | (with_reducible exact LeO.none _)
   | (with_reducible refine LeO.ite ?_ ?_)
   | (with_reducible refine LeO.bind ?_ (fun _ => ?_))
   | exact ih0 _ _ _ _ _
   | exact spec_l01New.mono _ _
   | exact LeO.none _
   | refine LeO.ite ?_ ?_
   | refine LeO.bind ?_ (fun _ => ?_)
set_option maxHeartbeats 8000000 in
set_option maxRecDepth 100000 in
theorem spec_DrawPlaces.calls (k : Nat) (A0 : Option Addr) (c0 : Nat) (l0 : List Int) (r : List Int) (w : World) (hr0 : Kd.C (Kd.int .u8) w A0 l0.length l0) (hc0 : l0.length ≤ c0) (h : spec_DrawPlaces.f k l0 = some r) :
  Calls Try.prog 44 #[.slice A0 l0.length c0] w fun e w' => ∃ v0_ : Value, e = .returned (v0_) ∧ Kd.R (Kd.int .i64) 3 w' w.heap.size (fun _ => True) v0_ r ∧ Below w.heap.size w w' := by
 have HR0 := Aside0.mk hr0
 have HC0 := Aside0.mk hc0
 clear hr0 hc0
 have HB := Aside0.mk (Below.refl w.heap.size w)
 have H : ((spec_l01New.f k l0).bind fun bt462 => (spec_DrawPlaces.l0 k (([] : List Int)) 0 bt462.1 bt462.2.1 bt462.2.2)) = some r := h
 clear h
 replace H := Option.bind_eq_some_iff.mp H
 obtain ⟨⟨t462, t463, t464⟩, A20, H⟩ := H
 replace H : (spec_DrawPlaces.l0 k (([] : List Int)) 0 t462 t463 t464) = some r := H
 have A2 := Aside0.mk A20
 clear A20
 obtain ⟨y466, hy466⟩ : ∃ y_ : List Int, y_ = (([] : List Int)) := ⟨_, rfl⟩
 replace H : (spec_DrawPlaces.l0 k y466 0 t462 t463 t464) = some r := by first | (rw [hy466]; with_reducible exact H) | (have H2_ := (Option.bind_some _ _).symm.trans H; rw [hy466]; with_reducible exact H2_) | (have H2_ := (Option.bind_some _ _).symm.trans H; with_reducible exact H2_) | with_reducible exact H | (rw [hy466]; exact H) | exact H
 have Ny466 := Aside0.mk hy466
 clear hy466
 have H' := Aside0.mk H
 clear H
 go_enter Try.func44, Try.ntmps44
 go_wp2_with (first | ((with_reducible refine gate_callee (f := 55) rfl ?_); refine goesL_ (some 7) rfl rfl Try.func55 (by kernel_rfl) rfl #[.slice A0 l0.length c0] rfl (by (try simp only [List.map_toArray, List.map_cons, List.map_nil]); first | done | rfl | (simp only [List.length_drop, List.length_take]; rfl)) ?_; (with_reducible refine (spec_l01New.calls k _ _ l0 t462 t463 t464 w _ ?side1 ?side2 ?side3 A2.out).mono ?_); (case side1 => repeat (first | (with_reducible first | exact HB.out | apply below_alloc | apply pw_below_drewN | apply below_drew1) | exact HB.out)); (case side2 => exact HR0.out); (case side3 => exact HC0.out); rintro e w3 ⟨g465, rfl, hi, hb, hb2⟩; refine ⟨_, rfl, ?_⟩; have n0_ := Aside0.mk (hb); have n1_ := Aside0.mk (hi); clear HB; have HB := n0_; have HI465 := n1_; clear n0_ n1_; (try clear hb); (try clear hb2); (try clear hk); (try clear hi)) | ((with_reducible refine gate_dst (N := 8) rfl ?_); refine Kd.R_lit (Kd.int .i64) _ 3 ?hg (N := 8) ?hd (xs := ([] : List Int)) (inner := []) (ok := fun _ => True) (okp := fun _ => True) ?hr ?hp (fun _ hk => hk) trivial (Below.refl _ _) (Nat.le_refl _) (by simp) ?_; (case hd => rfl); (case hg => rfl); (case hr => first | (go_simp; done) | (go_simp; rfl)); (case hp => exact (Reps.none _ _)); intro v467 w4 ho5 hb hg_ hnew_; clear hg_ hnew_; (first | rw [← Ny466.out] at ho5 | (simp only [Int.reduceToNat] at ho5; rw [← Ny466.out] at ho5)); have n0_ := Aside0.mk (Kd.R_lower ho5 (below_size (by repeat (first | (with_reducible first | exact HB.out | apply below_alloc | apply pw_below_drewN | apply below_drew1 | refine below_set ?_ (IsS93.ge HI465.out)) | exact HB.out)))); have n1_ := Aside0.mk (IsS93.below (by repeat (first | (with_reducible first | exact HI465.out | apply IsS93.alloc | apply IsS93.drewN | apply IsS93.drew | apply IsS93.set_1 | apply IsS93.set_2) | exact HI465.out)) hb); have n2_ := Aside0.mk (below_step (by repeat (first | (with_reducible first | exact HB.out | apply below_alloc | apply pw_below_drewN | apply below_drew1 | refine below_set ?_ (IsS93.ge HI465.out)) | exact HB.out)) hb); clear HI465; clear HB; have HO468 := n0_; have HI465 := n1_; have HB := n2_; clear n0_ n1_ n2_; clear hb ho5))
 go_loopg [4, 5] k (fun kq v4 v5 w' => ∃ (x4_1 : List Int) (x5_1 : Int) (x466001_1 : Int) (x466002_1 : Int), v5 = .int .i64 x5_1 ∧ Aside0 (spec_DrawPlaces.l0 kq x4_1 x5_1 t462 x466001_1 x466002_1 = some r) ∧ Aside0 (kq ≤ k) ∧ Aside0 (Kd.R (Kd.int .i64) 3 w' w.heap.size (fun _ => True) v4 x4_1) ∧ Aside0 (IsS93 w w' g465 t462 x466001_1 x466002_1) ∧ Aside0 (Below w.heap.size w w'))
 case atStart => exact ⟨(y466), (0), (t463), (t464), (by first | rfl | (simp; done) | (simp [*]; done)), H', ⟨Nat.le_refl _⟩, ⟨by (with_reducible repeat (first | apply Kd.R_alloc | apply Kd.R_drewN | apply Kd.R_drew)); exact HO468.out⟩, ⟨by repeat (first | (with_reducible first | exact HI465.out | apply IsS93.alloc | apply IsS93.drewN | apply IsS93.drew | apply IsS93.set_1 | apply IsS93.set_2) | exact HI465.out)⟩, ⟨by repeat (first | (with_reducible first | exact HB.out | apply below_alloc | apply pw_below_drewN | apply below_drew1 | refine below_set ?_ (IsS93.ge HI465.out)) | exact HB.out)⟩⟩
 case round =>
  clear H'
  try clear p2
  try clear c4
  try clear c5
  obtain ⟨x4_1, x5_1, x466001_1, x466002_1, rfl, HA, HK1, HO_4, HI465, HB⟩ := hrel
  cases gk with
  | zero => exact absurd HA.out (by simp [spec_DrawPlaces.l0])
  | succ k1 =>
   have H := HA.out
   clear HA
   simp only [spec_DrawPlaces.l0] at H
   by_cases c6 : x5_1 < 12
   ·rw [if_pos c6] at H
    have c6b0 : decide (x5_1 < 12) = true := decide_eq_true c6
    clear c6
    replace H := Option.bind_eq_some_iff.mp H
    obtain ⟨⟨t469, t470, t471⟩, A70, H⟩ := H
    replace H : (if x4_1.length < 17592186044416 then (spec_DrawPlaces.l0 k1 (x4_1 ++ [t469]) (wrap64 (x5_1 + 1)) t462 t470 t471) else (none)) = some r := H
    have A7 := Aside0.mk A70
    clear A70
    by_cases c8 : x4_1.length < 17592186044416
    ·rw [if_pos c8] at H
     have LMc8 := Aside0.mk c8
     clear c8
     obtain ⟨y472, hy472⟩ : ∃ y_ : List Int, y_ = (x4_1 ++ [t469]) := ⟨_, rfl⟩
     replace H : (spec_DrawPlaces.l0 k1 y472 (wrap64 (x5_1 + 1)) t462 t470 t471) = some r := by first | (rw [hy472]; with_reducible exact H) | (have H2_ := (Option.bind_some _ _).symm.trans H; rw [hy472]; with_reducible exact H2_) | (have H2_ := (Option.bind_some _ _).symm.trans H; with_reducible exact H2_) | with_reducible exact H | (rw [hy472]; exact H) | exact H
     have Ny472 := Aside0.mk hy472
     clear hy472
     have H' := Aside0.mk H
     clear H
     go_wp2_with (first | ((with_reducible refine gate_callee (f := 58) rfl ?_); refine goesL_ (some 15) rfl rfl Try.func58 (by kernel_rfl) rfl #[.pointer (some ⟨g465, 0, none⟩), .int .i64 10000] rfl (by (try simp only [List.map_toArray, List.map_cons, List.map_nil]); first | done | rfl | (simp only [List.length_drop, List.length_take]; rfl)) ?_; (with_reducible refine (spec_l01Below.calls g465 t462 x466001_1 x466002_1 10000 t469 t470 t471 w _ ?side1 ?side2 A7.out).mono ?_); (case side1 => repeat (first | (with_reducible first | exact HI465.out | apply IsS93.alloc | apply IsS93.drewN | apply IsS93.drew | apply IsS93.set_1 | apply IsS93.set_2) | exact HI465.out)); (case side2 => repeat (first | (with_reducible first | exact HB.out | apply below_alloc | apply pw_below_drewN | apply below_drew1 | refine below_set ?_ (IsS93.ge HI465.out)) | exact HB.out)); rintro e w9 ⟨rfl, hi, hb, hk⟩; refine ⟨_, rfl, ?_⟩; have n0_ := Aside0.mk (Kd.R_mono (Kd.R_keep (IsS93.apart (show IsS93 w _ g465 t462 x466001_1 x466002_1 from by repeat (first | (with_reducible first | exact HI465.out | apply IsS93.alloc | apply IsS93.drewN | apply IsS93.drew | apply IsS93.set_1 | apply IsS93.set_2) | exact HI465.out)) (by (with_reducible repeat (first | apply Kd.R_alloc | apply Kd.R_drewN | apply Kd.R_drew)); exact HO_4.out) (by decide)) hk (fun _ h => h.2)) (fun _ h => h.1)); have n1_ := Aside0.mk (hb); have n2_ := Aside0.mk (hi); clear HO_4; clear HB; clear HI465; have HO_4 := n0_; have HB := n1_; have HI465 := n2_; clear n0_ n1_ n2_; (try clear hb); (try clear hb2); (try clear hk); (try clear hi)) | ((with_reducible refine gate_builtin (b := .append) (xs := #[.tmp 13, .tmp 16]) rfl ?_); at_builtin; refine Kd.R_append (Kd.int .i64) (w0 := w) w.heap.size rfl (.tmp 13) (.tmp 16) 28 3 (.int .i64 0) 8 rfl Try.underlying28 info3 rfl (by decide) (by omega) u4 x4_1 t469 [.int .i64 t469] (fun _ => True) (fun _ => False) rfl rfl ?aP (fun _ hk => hk.elim) ?aF ?aO ?aB ?aS ?aL ?_; (case aP => exact rfl); (case aB => exact (by repeat (first | (with_reducible first | exact HB.out | apply below_alloc | apply pw_below_drewN | apply below_drew1 | refine below_set ?_ (IsS93.ge HI465.out)) | exact HB.out))); (case aF => exact (fun _ _ => trivial)); (case aO => exact (by (with_reducible repeat (first | apply Kd.R_alloc | apply Kd.R_drewN | apply Kd.R_drew)); exact HO_4.out)); (case aS => exact (below_size (by repeat (first | (with_reducible first | exact HB.out | apply below_alloc | apply pw_below_drewN | apply below_drew1 | refine below_set ?_ (IsS93.ge HI465.out)) | exact HB.out)))); (case aL => have := LMc8.out; omega); intro v473 w10 ho hb hg hat; rw [← Ny472.out] at ho; have n0_ := Aside0.mk (IsS93.grown (by repeat (first | (with_reducible first | exact HI465.out | apply IsS93.alloc | apply IsS93.drewN | apply IsS93.drew | apply IsS93.set_1 | apply IsS93.set_2) | exact HI465.out)) hg (IsS93.own_ne HI465.out HO_4.out (by decide))); have n1_ := Aside0.mk (hb); have n2_ := Aside0.mk (ho); clear HI465; clear HB; clear HO_4; have HI465 := n0_; have HB := n1_; have HO474 := n2_; clear n0_ n1_ n2_; clear ho hb hg hat))
     go_roundg k1
     case measure => have := HK1.out; omega
     case rel => exact ⟨(y472), (wrap64 (x5_1 + 1)), (t470), (t471), (by first | rfl | (simp; done) | (simp [*]; done)), H', ⟨by have := HK1.out; omega⟩, ⟨by (with_reducible repeat (first | apply Kd.R_alloc | apply Kd.R_drewN | apply Kd.R_drew)); exact HO474.out⟩, ⟨by repeat (first | (with_reducible first | exact HI465.out | apply IsS93.alloc | apply IsS93.drewN | apply IsS93.drew | apply IsS93.set_1 | apply IsS93.set_2) | exact HI465.out)⟩, ⟨by repeat (first | (with_reducible first | exact HB.out | apply below_alloc | apply pw_below_drewN | apply below_drew1 | refine below_set ?_ (IsS93.ge HI465.out)) | exact HB.out)⟩⟩
    ·rw [if_neg c8] at H
     exact absurd H (by simp)
   ·rw [if_neg c6] at H
    have c6b0 : decide (x5_1 < 12) = false := decide_eq_false c6
    clear c6
    obtain rfl := Option.some.inj H
    go_wp2
    go_ret
    exact ⟨_, by first | rfl | (simp [errW_none, errW_some] <;> rfl) | (simp [*, errW_none, errW_some] <;> rfl), by (with_reducible repeat (first | apply Kd.R_alloc | apply Kd.R_drewN | apply Kd.R_drew)); exact HO_4.out, by repeat (first | (with_reducible first | exact HB.out | apply below_alloc | apply pw_below_drewN | apply below_drew1 | refine below_set ?_ (IsS93.ge HI465.out)) | exact HB.out)⟩

def laws_FnElapses.j0 : Nat → Int → Bool → Bool → List Int → Int → Int → Int → Option (Bool)
 | 0, _, _, _, _, _, _, _ => none
 | k + 1, x10, x13, x112, x483000, x484000, x484001, x484002 => if x112 = true then (some false) else (if x13 = true then ((impl_Elapse.f k x483000 x484000 x484001 x484002 x10).bind fun bt509 => ((impl_Elapse.f k x483000 x484000 x484001 x484002 (wrap64 (x10 - 1))).bind fun bt513 => (if bt509.1 = 4 then (if x10 = x484001 then (some true) else (if x10 > x484001 then (some (decide (bt513.1 < 4))) else (some false))) else (some false)))) else (some (x484002 != 0)))
def laws_FnElapses.f (k : Nat) (l0 : List Int) : Option (Bool) := (laws_big.f l0).bind fun t475 => (if t475 = true then (some true) else ((spec_DrawScreen.f k l0).bind fun bt476 => ((spec_DrawPlaces.f k l0).bind fun t484 => (if 0 < (t484.length : Int) then (if 1 < (t484.length : Int) then ((impl_Elapse.f k bt476.1 bt476.2.1 bt476.2.2.1 bt476.2.2.2 (wrap64 (bt476.2.2.1 + (Int.tmod (rd t484 0) 40)))).bind fun bt489 => ((impl_Elapse.f k bt476.1 bt489.1 bt489.2.1 bt489.2.2 (wrap64 ((wrap64 (bt476.2.2.1 + (Int.tmod (rd t484 0) 40))) + (Int.tmod (rd t484 1) 40)))).bind fun bt493 => ((impl_HandTime.f k bt476.1 bt476.2.1 bt476.2.2.1 bt476.2.2.2).bind fun bt497 => ((spec_HandTime.f k bt476.1 bt476.2.1 bt476.2.2.1 bt476.2.2.2).bind fun bt499 => ((spec_Elapse.f k bt476.1 bt476.2.1 bt476.2.2.1 bt476.2.2.2 (wrap64 (bt476.2.2.1 + (Int.tmod (rd t484 0) 40)))).bind fun bt501 => (if (!(bt489.1 == bt501.1) || (!(bt489.2.1 == bt501.2.1) || (!(bt489.2.2 == bt501.2.2)))) = true then (laws_FnElapses.j0 k bt497.1 bt499.2 true bt476.1 bt476.2.1 bt476.2.2.1 bt476.2.2.2) else ((impl_Elapse.f k bt476.1 bt476.2.1 bt476.2.2.1 bt476.2.2.2 (wrap64 ((wrap64 (bt476.2.2.1 + (Int.tmod (rd t484 0) 40))) + (Int.tmod (rd t484 1) 40)))).bind fun bt504 => (if (!(bt493.1 == bt504.1) || (!(bt493.2.1 == bt504.2.1) || (!(bt493.2.2 == bt504.2.2)))) = true then (laws_FnElapses.j0 k bt497.1 bt499.2 true bt476.1 bt476.2.1 bt476.2.2.1 bt476.2.2.2) else (if bt489.1 < bt476.2.1 then (laws_FnElapses.j0 k bt497.1 bt499.2 true bt476.1 bt476.2.1 bt476.2.2.1 bt476.2.2.2) else (if bt493.1 < bt489.1 then (laws_FnElapses.j0 k bt497.1 bt499.2 true bt476.1 bt476.2.1 bt476.2.2.1 bt476.2.2.2) else (if bt489.2.2 = bt476.2.2.2 then ((impl_ScreenOk.f bt489.1 bt489.2.1 bt489.2.2).bind fun t507 => (if t507 = true then ((impl_PolicyOk.f bt476.1).bind fun t508 => (if t508 = true then (if (bt497.2 != bt499.2) = true then (laws_FnElapses.j0 k bt497.1 bt499.2 true bt476.1 bt476.2.1 bt476.2.2.1 bt476.2.2.2) else (laws_FnElapses.j0 k bt497.1 bt499.2 (bt497.1 != bt499.1) bt476.1 bt476.2.1 bt476.2.2.1 bt476.2.2.2)) else (laws_FnElapses.j0 k bt497.1 bt499.2 true bt476.1 bt476.2.1 bt476.2.2.1 bt476.2.2.2))) else (laws_FnElapses.j0 k bt497.1 bt499.2 true bt476.1 bt476.2.1 bt476.2.2.1 bt476.2.2.2))) else (laws_FnElapses.j0 k bt497.1 bt499.2 true bt476.1 bt476.2.1 bt476.2.2.1 bt476.2.2.2)))))))))))) else (none)) else (none)))))
theorem laws_FnElapses.mono_l : ∀ k, (∀ y0 y1 y2 y3 y4 y5 y6, LeO (laws_FnElapses.j0 k y0 y1 y2 y3 y4 y5 y6) (laws_FnElapses.j0 (k + 1) y0 y1 y2 y3 y4 y5 y6))
 | 0 => fun _ _ _ _ _ _ _ r h => by simp [laws_FnElapses.j0] at h
 | k + 1 => by
  have ih0 := laws_FnElapses.mono_l k
  ·intro y0 y1 y2 y3 y4 y5 y6
   unfold laws_FnElapses.j0
   repeat' first
   | (with_reducible exact ih0 _ _ _ _ _ _ _)
   | (with_reducible exact impl_Elapse.mono _ _ _ _ _ _)
   | (with_reducible exact impl_HandTime.mono _ _ _ _ _)
   | (with_reducible exact spec_DrawPlaces.mono _ _)
   | (with_reducible exact spec_DrawScreen.mono _ _)
   | (with_reducible exact spec_Elapse.mono _ _ _ _ _ _)
   | (with_reducible exact spec_HandTime.mono _ _ _ _ _)
   | (with_reducible exact LeO.refl _)
   | (with_reducible exact LeO.none _)
   | (with_reducible refine LeO.ite ?_ ?_)
   | (with_reducible refine LeO.bind ?_ (fun _ => ?_))
   | exact ih0 _ _ _ _ _ _ _
   | exact impl_Elapse.mono _ _ _ _ _ _
   | exact impl_HandTime.mono _ _ _ _ _
   | exact spec_DrawPlaces.mono _ _
   | exact spec_DrawScreen.mono _ _
   | exact spec_Elapse.mono _ _ _ _ _ _
   | exact spec_HandTime.mono _ _ _ _ _
   | exact LeO.none _
   | refine LeO.ite ?_ ?_
   | refine LeO.bind ?_ (fun _ => ?_)
theorem laws_FnElapses.mono : ∀ a0 k, LeO (laws_FnElapses.f k a0) (laws_FnElapses.f (k + 1) a0) := by
 intro a0 k
 have ih0 := laws_FnElapses.mono_l k
 unfold laws_FnElapses.f
 repeat' first
   | (with_reducible exact ih0 _ _ _ _ _ _ _)
   | (with_reducible exact impl_Elapse.mono _ _ _ _ _ _)
   | (with_reducible exact impl_HandTime.mono _ _ _ _ _)
   | (with_reducible exact spec_DrawPlaces.mono _ _)
   | (with_reducible exact spec_DrawScreen.mono _ _)
   | (with_reducible exact spec_Elapse.mono _ _ _ _ _ _)
   | (with_reducible exact spec_HandTime.mono _ _ _ _ _)
   | (with_reducible exact LeO.refl _)
   | (with_reducible exact LeO.none _)
   | (with_reducible refine LeO.ite ?_ ?_)
   | (with_reducible refine LeO.bind ?_ (fun _ => ?_))
   | exact ih0 _ _ _ _ _ _ _
   | exact impl_Elapse.mono _ _ _ _ _ _
   | exact impl_HandTime.mono _ _ _ _ _
   | exact spec_DrawPlaces.mono _ _
   | exact spec_DrawScreen.mono _ _
   | exact spec_Elapse.mono _ _ _ _ _ _
   | exact spec_HandTime.mono _ _ _ _ _
   | exact LeO.none _
   | refine LeO.ite ?_ ?_
   | refine LeO.bind ?_ (fun _ => ?_)
def laws_FnElapses.T5 : Bool × List (List Nat × List Nat) := (true, [([], []), ([0], [0]), ([], []), ([2], [2]), ([3], [3]), ([4], [4]), ([1, 5], [1, 5]), ([6, 0, 1, 2, 3, 4, 5, 6], [6])])
def laws_FnElapses.B5 : List Nat := [0, 1, 0, 4, 12, 28, 63, 127]
theorem laws_FnElapses.tab5 : rtab .any (opsOf Try.f11 5) = laws_FnElapses.T5 := by kernel_rfl
theorem laws_FnElapses.bits5 : waitsOk laws_FnElapses.T5.2 laws_FnElapses.B5 = true := by kernel_rfl
def laws_FnElapses.T11 : Bool × List (List Nat × List Nat) := (true, [([], []), ([], []), ([], []), ([], []), ([1, 2, 3], [1, 2, 3]), ([0, 4], [0, 4]), ([5, 4], [5]), ([6], [6]), ([6], [6]), ([6], [6]), ([6], [6]), ([8, 9, 10, 6, 6], [6, 8, 9, 10]), ([7, 11, 6], [6, 7, 11]), ([6, 12], [6, 12]), ([13, 11], [13]), ([14], [14]), ([15, 14], [14, 15]), ([14], [14]), ([17, 14], [14, 17]), ([16, 18, 14], [14, 16, 18]), ([14, 19], [14, 19]), ([20, 14], [20]), ([21], [21]), ([22, 21], [21, 22]), ([21], [21]), ([24, 21], [21, 24]), ([23, 25, 21], [21, 23, 25]), ([21, 26], [21, 26]), ([27, 21], [27]), ([28], [28]), ([29, 28], [28, 29]), ([28], [28]), ([31, 28], [28, 31]), ([30, 32, 28], [28, 30, 32]), ([28, 33], [28, 33]), ([34, 28], [34]), ([35], [35]), ([36, 35, 35], [35, 36]), ([37, 35], [35, 37]), ([35, 38], [35, 38]), ([39, 37], [39]), ([40], [40]), ([41, 40, 40], [40, 41]), ([42, 40], [40, 42]), ([40, 43], [40, 43]), ([44, 42], [44]), ([45], [45]), ([45], [45]), ([46, 47, 45], [45, 46, 47]), ([45, 48], [45, 48]), ([49, 45], [49]), ([50], [50]), ([50], [50]), ([51, 52, 50], [50, 51, 52]), ([50, 53], [50, 53])])
def laws_FnElapses.B11 : List Nat := [0, 0, 0, 0, 14, 31, 63, 127, 127, 127, 127, 1919, 4095, 8191, 16383, 32767, 65535, 32767, 163839, 524287, 1048575, 2097151, 4194303, 8388607, 4194303, 20971519, 67108863, 134217727, 268435455, 536870911, 1073741823, 536870911, 2684354559, 8589934591, 17179869183, 34359738367, 68719476735, 137438953471, 274877906943, 549755813887, 1099511627775, 2199023255551, 4398046511103, 8796093022207, 17592186044415, 35184372088831, 70368744177663, 70368744177663, 281474976710655, 562949953421311, 1125899906842623, 2251799813685247, 2251799813685247, 9007199254740991, 18014398509481983]
theorem laws_FnElapses.tab11 : rtab .any (opsOf Try.f11 11) = laws_FnElapses.T11 := by kernel_rfl
theorem laws_FnElapses.bits11 : waitsOk laws_FnElapses.T11.2 laws_FnElapses.B11 = true := by kernel_rfl
set_option maxHeartbeats 8000000 in
set_option maxRecDepth 100000 in
theorem laws_FnElapses.calls (k : Nat) (A0 : Option Addr) (c0 : Nat) (l0 : List Int) (r : Bool) (w : World) (hr0 : Kd.C (Kd.int .u8) w A0 l0.length l0) (hc0 : l0.length ≤ c0) (hrt : Aside0 (r = true)) (h : laws_FnElapses.f k l0 = some r) :
  Calls Try.prog 11 #[.slice A0 l0.length c0] w fun e w' => e = .returned (.bool r) ∧ Below w.heap.size w w' := by
 have hu53 := Try.underlying53
 have hu39 := Try.underlying39
 have HR0 := Aside0.mk hr0
 have HC0 := Aside0.mk hc0
 clear hr0 hc0
 have HB := Aside0.mk (Below.refl w.heap.size w)
 have H : ((laws_big.f l0).bind fun t475 => (if t475 = true then (some true) else ((spec_DrawScreen.f k l0).bind fun bt476 => ((spec_DrawPlaces.f k l0).bind fun t484 => (if 0 < (t484.length : Int) then (if 1 < (t484.length : Int) then ((impl_Elapse.f k bt476.1 bt476.2.1 bt476.2.2.1 bt476.2.2.2 (wrap64 (bt476.2.2.1 + (Int.tmod (rd t484 0) 40)))).bind fun bt489 => ((impl_Elapse.f k bt476.1 bt489.1 bt489.2.1 bt489.2.2 (wrap64 ((wrap64 (bt476.2.2.1 + (Int.tmod (rd t484 0) 40))) + (Int.tmod (rd t484 1) 40)))).bind fun bt493 => ((impl_HandTime.f k bt476.1 bt476.2.1 bt476.2.2.1 bt476.2.2.2).bind fun bt497 => ((spec_HandTime.f k bt476.1 bt476.2.1 bt476.2.2.1 bt476.2.2.2).bind fun bt499 => ((spec_Elapse.f k bt476.1 bt476.2.1 bt476.2.2.1 bt476.2.2.2 (wrap64 (bt476.2.2.1 + (Int.tmod (rd t484 0) 40)))).bind fun bt501 => (if (!(bt489.1 == bt501.1) || (!(bt489.2.1 == bt501.2.1) || (!(bt489.2.2 == bt501.2.2)))) = true then (laws_FnElapses.j0 k bt497.1 bt499.2 true bt476.1 bt476.2.1 bt476.2.2.1 bt476.2.2.2) else ((impl_Elapse.f k bt476.1 bt476.2.1 bt476.2.2.1 bt476.2.2.2 (wrap64 ((wrap64 (bt476.2.2.1 + (Int.tmod (rd t484 0) 40))) + (Int.tmod (rd t484 1) 40)))).bind fun bt504 => (if (!(bt493.1 == bt504.1) || (!(bt493.2.1 == bt504.2.1) || (!(bt493.2.2 == bt504.2.2)))) = true then (laws_FnElapses.j0 k bt497.1 bt499.2 true bt476.1 bt476.2.1 bt476.2.2.1 bt476.2.2.2) else (if bt489.1 < bt476.2.1 then (laws_FnElapses.j0 k bt497.1 bt499.2 true bt476.1 bt476.2.1 bt476.2.2.1 bt476.2.2.2) else (if bt493.1 < bt489.1 then (laws_FnElapses.j0 k bt497.1 bt499.2 true bt476.1 bt476.2.1 bt476.2.2.1 bt476.2.2.2) else (if bt489.2.2 = bt476.2.2.2 then ((impl_ScreenOk.f bt489.1 bt489.2.1 bt489.2.2).bind fun t507 => (if t507 = true then ((impl_PolicyOk.f bt476.1).bind fun t508 => (if t508 = true then (if (bt497.2 != bt499.2) = true then (laws_FnElapses.j0 k bt497.1 bt499.2 true bt476.1 bt476.2.1 bt476.2.2.1 bt476.2.2.2) else (laws_FnElapses.j0 k bt497.1 bt499.2 (bt497.1 != bt499.1) bt476.1 bt476.2.1 bt476.2.2.1 bt476.2.2.2)) else (laws_FnElapses.j0 k bt497.1 bt499.2 true bt476.1 bt476.2.1 bt476.2.2.1 bt476.2.2.2))) else (laws_FnElapses.j0 k bt497.1 bt499.2 true bt476.1 bt476.2.1 bt476.2.2.1 bt476.2.2.2))) else (laws_FnElapses.j0 k bt497.1 bt499.2 true bt476.1 bt476.2.1 bt476.2.2.1 bt476.2.2.2)))))))))))) else (none)) else (none)))))) = some r := h
 clear h
 replace H := Option.bind_eq_some_iff.mp H
 obtain ⟨t475, A20, H⟩ := H
 replace H : (if t475 = true then (some true) else ((spec_DrawScreen.f k l0).bind fun bt476 => ((spec_DrawPlaces.f k l0).bind fun t484 => (if 0 < (t484.length : Int) then (if 1 < (t484.length : Int) then ((impl_Elapse.f k bt476.1 bt476.2.1 bt476.2.2.1 bt476.2.2.2 (wrap64 (bt476.2.2.1 + (Int.tmod (rd t484 0) 40)))).bind fun bt489 => ((impl_Elapse.f k bt476.1 bt489.1 bt489.2.1 bt489.2.2 (wrap64 ((wrap64 (bt476.2.2.1 + (Int.tmod (rd t484 0) 40))) + (Int.tmod (rd t484 1) 40)))).bind fun bt493 => ((impl_HandTime.f k bt476.1 bt476.2.1 bt476.2.2.1 bt476.2.2.2).bind fun bt497 => ((spec_HandTime.f k bt476.1 bt476.2.1 bt476.2.2.1 bt476.2.2.2).bind fun bt499 => ((spec_Elapse.f k bt476.1 bt476.2.1 bt476.2.2.1 bt476.2.2.2 (wrap64 (bt476.2.2.1 + (Int.tmod (rd t484 0) 40)))).bind fun bt501 => (if (!(bt489.1 == bt501.1) || (!(bt489.2.1 == bt501.2.1) || (!(bt489.2.2 == bt501.2.2)))) = true then (laws_FnElapses.j0 k bt497.1 bt499.2 true bt476.1 bt476.2.1 bt476.2.2.1 bt476.2.2.2) else ((impl_Elapse.f k bt476.1 bt476.2.1 bt476.2.2.1 bt476.2.2.2 (wrap64 ((wrap64 (bt476.2.2.1 + (Int.tmod (rd t484 0) 40))) + (Int.tmod (rd t484 1) 40)))).bind fun bt504 => (if (!(bt493.1 == bt504.1) || (!(bt493.2.1 == bt504.2.1) || (!(bt493.2.2 == bt504.2.2)))) = true then (laws_FnElapses.j0 k bt497.1 bt499.2 true bt476.1 bt476.2.1 bt476.2.2.1 bt476.2.2.2) else (if bt489.1 < bt476.2.1 then (laws_FnElapses.j0 k bt497.1 bt499.2 true bt476.1 bt476.2.1 bt476.2.2.1 bt476.2.2.2) else (if bt493.1 < bt489.1 then (laws_FnElapses.j0 k bt497.1 bt499.2 true bt476.1 bt476.2.1 bt476.2.2.1 bt476.2.2.2) else (if bt489.2.2 = bt476.2.2.2 then ((impl_ScreenOk.f bt489.1 bt489.2.1 bt489.2.2).bind fun t507 => (if t507 = true then ((impl_PolicyOk.f bt476.1).bind fun t508 => (if t508 = true then (if (bt497.2 != bt499.2) = true then (laws_FnElapses.j0 k bt497.1 bt499.2 true bt476.1 bt476.2.1 bt476.2.2.1 bt476.2.2.2) else (laws_FnElapses.j0 k bt497.1 bt499.2 (bt497.1 != bt499.1) bt476.1 bt476.2.1 bt476.2.2.1 bt476.2.2.2)) else (laws_FnElapses.j0 k bt497.1 bt499.2 true bt476.1 bt476.2.1 bt476.2.2.1 bt476.2.2.2))) else (laws_FnElapses.j0 k bt497.1 bt499.2 true bt476.1 bt476.2.1 bt476.2.2.1 bt476.2.2.2))) else (laws_FnElapses.j0 k bt497.1 bt499.2 true bt476.1 bt476.2.1 bt476.2.2.1 bt476.2.2.2)))))))))))) else (none)) else (none))))) = some r := H
 have A2 := Aside0.mk A20
 clear A20
 by_cases c3 : t475 = true
 ·subst c3
  have H1 : (some true) = some r := by rw [if_pos rfl] at H; exact H
  clear H
  have H := H1
  clear H1
  obtain rfl := Option.some.inj H
  go_enter Try.func11, Try.ntmps11
  go_wp2_with (first | ((with_reducible refine gate_callee (f := 42) rfl ?_); refine goesL_ (some 17) rfl rfl Try.func42 (by kernel_rfl) rfl #[.slice A0 l0.length c0] rfl (by (try simp only [List.map_toArray, List.map_cons, List.map_nil]); first | done | rfl | (simp only [List.length_drop, List.length_take]; rfl)) ?_; (with_reducible refine (laws_big.calls _ _ l0 true _ ?side1 ?side2 A2.out).mono ?_); (case side1 => repeat (first | exact HR0.out | (with_reducible refine Kd.C_alloc ?_ _) | (with_reducible refine Kd.C_drewN ?_ _) | (with_reducible refine Kd.C_drew ?_))); (case side2 => exact HC0.out); rintro e w' ⟨rfl, ⟨nd, rfl⟩⟩; refine ⟨_, rfl, ?_⟩))
  go_ret
  exact ⟨by first | rfl | (simp [errW_none, errW_some] <;> rfl) | (simp [*, errW_none, errW_some] <;> rfl), by repeat (first | (with_reducible first | exact HB.out | apply below_alloc | apply pw_below_drewN | apply below_drew1) | exact HB.out)⟩
 ·replace c3 := Bool.eq_false_iff.mpr c3
  subst c3
  have H1 : ((spec_DrawScreen.f k l0).bind fun bt476 => ((spec_DrawPlaces.f k l0).bind fun t484 => (if 0 < (t484.length : Int) then (if 1 < (t484.length : Int) then ((impl_Elapse.f k bt476.1 bt476.2.1 bt476.2.2.1 bt476.2.2.2 (wrap64 (bt476.2.2.1 + (Int.tmod (rd t484 0) 40)))).bind fun bt489 => ((impl_Elapse.f k bt476.1 bt489.1 bt489.2.1 bt489.2.2 (wrap64 ((wrap64 (bt476.2.2.1 + (Int.tmod (rd t484 0) 40))) + (Int.tmod (rd t484 1) 40)))).bind fun bt493 => ((impl_HandTime.f k bt476.1 bt476.2.1 bt476.2.2.1 bt476.2.2.2).bind fun bt497 => ((spec_HandTime.f k bt476.1 bt476.2.1 bt476.2.2.1 bt476.2.2.2).bind fun bt499 => ((spec_Elapse.f k bt476.1 bt476.2.1 bt476.2.2.1 bt476.2.2.2 (wrap64 (bt476.2.2.1 + (Int.tmod (rd t484 0) 40)))).bind fun bt501 => (if (!(bt489.1 == bt501.1) || (!(bt489.2.1 == bt501.2.1) || (!(bt489.2.2 == bt501.2.2)))) = true then (laws_FnElapses.j0 k bt497.1 bt499.2 true bt476.1 bt476.2.1 bt476.2.2.1 bt476.2.2.2) else ((impl_Elapse.f k bt476.1 bt476.2.1 bt476.2.2.1 bt476.2.2.2 (wrap64 ((wrap64 (bt476.2.2.1 + (Int.tmod (rd t484 0) 40))) + (Int.tmod (rd t484 1) 40)))).bind fun bt504 => (if (!(bt493.1 == bt504.1) || (!(bt493.2.1 == bt504.2.1) || (!(bt493.2.2 == bt504.2.2)))) = true then (laws_FnElapses.j0 k bt497.1 bt499.2 true bt476.1 bt476.2.1 bt476.2.2.1 bt476.2.2.2) else (if bt489.1 < bt476.2.1 then (laws_FnElapses.j0 k bt497.1 bt499.2 true bt476.1 bt476.2.1 bt476.2.2.1 bt476.2.2.2) else (if bt493.1 < bt489.1 then (laws_FnElapses.j0 k bt497.1 bt499.2 true bt476.1 bt476.2.1 bt476.2.2.1 bt476.2.2.2) else (if bt489.2.2 = bt476.2.2.2 then ((impl_ScreenOk.f bt489.1 bt489.2.1 bt489.2.2).bind fun t507 => (if t507 = true then ((impl_PolicyOk.f bt476.1).bind fun t508 => (if t508 = true then (if (bt497.2 != bt499.2) = true then (laws_FnElapses.j0 k bt497.1 bt499.2 true bt476.1 bt476.2.1 bt476.2.2.1 bt476.2.2.2) else (laws_FnElapses.j0 k bt497.1 bt499.2 (bt497.1 != bt499.1) bt476.1 bt476.2.1 bt476.2.2.1 bt476.2.2.2)) else (laws_FnElapses.j0 k bt497.1 bt499.2 true bt476.1 bt476.2.1 bt476.2.2.1 bt476.2.2.2))) else (laws_FnElapses.j0 k bt497.1 bt499.2 true bt476.1 bt476.2.1 bt476.2.2.1 bt476.2.2.2))) else (laws_FnElapses.j0 k bt497.1 bt499.2 true bt476.1 bt476.2.1 bt476.2.2.1 bt476.2.2.2)))))))))))) else (none)) else (none)))) = some r := by rw [if_neg (show ¬ (false = true) by decide)] at H; exact H
  clear H
  have H := H1
  clear H1
  replace H := Option.bind_eq_some_iff.mp H
  obtain ⟨⟨t476, t479, t480, t481⟩, A40, H⟩ := H
  replace H : ((spec_DrawPlaces.f k l0).bind fun t484 => (if 0 < (t484.length : Int) then (if 1 < (t484.length : Int) then ((impl_Elapse.f k t476 t479 t480 t481 (wrap64 (t480 + (Int.tmod (rd t484 0) 40)))).bind fun bt489 => ((impl_Elapse.f k t476 bt489.1 bt489.2.1 bt489.2.2 (wrap64 ((wrap64 (t480 + (Int.tmod (rd t484 0) 40))) + (Int.tmod (rd t484 1) 40)))).bind fun bt493 => ((impl_HandTime.f k t476 t479 t480 t481).bind fun bt497 => ((spec_HandTime.f k t476 t479 t480 t481).bind fun bt499 => ((spec_Elapse.f k t476 t479 t480 t481 (wrap64 (t480 + (Int.tmod (rd t484 0) 40)))).bind fun bt501 => (if (!(bt489.1 == bt501.1) || (!(bt489.2.1 == bt501.2.1) || (!(bt489.2.2 == bt501.2.2)))) = true then (laws_FnElapses.j0 k bt497.1 bt499.2 true t476 t479 t480 t481) else ((impl_Elapse.f k t476 t479 t480 t481 (wrap64 ((wrap64 (t480 + (Int.tmod (rd t484 0) 40))) + (Int.tmod (rd t484 1) 40)))).bind fun bt504 => (if (!(bt493.1 == bt504.1) || (!(bt493.2.1 == bt504.2.1) || (!(bt493.2.2 == bt504.2.2)))) = true then (laws_FnElapses.j0 k bt497.1 bt499.2 true t476 t479 t480 t481) else (if bt489.1 < t479 then (laws_FnElapses.j0 k bt497.1 bt499.2 true t476 t479 t480 t481) else (if bt493.1 < bt489.1 then (laws_FnElapses.j0 k bt497.1 bt499.2 true t476 t479 t480 t481) else (if bt489.2.2 = t481 then ((impl_ScreenOk.f bt489.1 bt489.2.1 bt489.2.2).bind fun t507 => (if t507 = true then ((impl_PolicyOk.f t476).bind fun t508 => (if t508 = true then (if (bt497.2 != bt499.2) = true then (laws_FnElapses.j0 k bt497.1 bt499.2 true t476 t479 t480 t481) else (laws_FnElapses.j0 k bt497.1 bt499.2 (bt497.1 != bt499.1) t476 t479 t480 t481)) else (laws_FnElapses.j0 k bt497.1 bt499.2 true t476 t479 t480 t481))) else (laws_FnElapses.j0 k bt497.1 bt499.2 true t476 t479 t480 t481))) else (laws_FnElapses.j0 k bt497.1 bt499.2 true t476 t479 t480 t481)))))))))))) else (none)) else (none))) = some r := H
  have A4 := Aside0.mk A40
  clear A40
  replace H := Option.bind_eq_some_iff.mp H
  obtain ⟨t484, A50, H⟩ := H
  replace H : (if 0 < (t484.length : Int) then (if 1 < (t484.length : Int) then ((impl_Elapse.f k t476 t479 t480 t481 (wrap64 (t480 + (Int.tmod (rd t484 0) 40)))).bind fun bt489 => ((impl_Elapse.f k t476 bt489.1 bt489.2.1 bt489.2.2 (wrap64 ((wrap64 (t480 + (Int.tmod (rd t484 0) 40))) + (Int.tmod (rd t484 1) 40)))).bind fun bt493 => ((impl_HandTime.f k t476 t479 t480 t481).bind fun bt497 => ((spec_HandTime.f k t476 t479 t480 t481).bind fun bt499 => ((spec_Elapse.f k t476 t479 t480 t481 (wrap64 (t480 + (Int.tmod (rd t484 0) 40)))).bind fun bt501 => (if (!(bt489.1 == bt501.1) || (!(bt489.2.1 == bt501.2.1) || (!(bt489.2.2 == bt501.2.2)))) = true then (laws_FnElapses.j0 k bt497.1 bt499.2 true t476 t479 t480 t481) else ((impl_Elapse.f k t476 t479 t480 t481 (wrap64 ((wrap64 (t480 + (Int.tmod (rd t484 0) 40))) + (Int.tmod (rd t484 1) 40)))).bind fun bt504 => (if (!(bt493.1 == bt504.1) || (!(bt493.2.1 == bt504.2.1) || (!(bt493.2.2 == bt504.2.2)))) = true then (laws_FnElapses.j0 k bt497.1 bt499.2 true t476 t479 t480 t481) else (if bt489.1 < t479 then (laws_FnElapses.j0 k bt497.1 bt499.2 true t476 t479 t480 t481) else (if bt493.1 < bt489.1 then (laws_FnElapses.j0 k bt497.1 bt499.2 true t476 t479 t480 t481) else (if bt489.2.2 = t481 then ((impl_ScreenOk.f bt489.1 bt489.2.1 bt489.2.2).bind fun t507 => (if t507 = true then ((impl_PolicyOk.f t476).bind fun t508 => (if t508 = true then (if (bt497.2 != bt499.2) = true then (laws_FnElapses.j0 k bt497.1 bt499.2 true t476 t479 t480 t481) else (laws_FnElapses.j0 k bt497.1 bt499.2 (bt497.1 != bt499.1) t476 t479 t480 t481)) else (laws_FnElapses.j0 k bt497.1 bt499.2 true t476 t479 t480 t481))) else (laws_FnElapses.j0 k bt497.1 bt499.2 true t476 t479 t480 t481))) else (laws_FnElapses.j0 k bt497.1 bt499.2 true t476 t479 t480 t481)))))))))))) else (none)) else (none)) = some r := H
  have A5 := Aside0.mk A50
  clear A50
  by_cases c6 : 0 < (t484.length : Int)
  ·rw [if_pos c6] at H
   have c6b0 : decide (0 < (t484.length : Int)) = true := decide_eq_true c6
   have c6b1 : decide (0 < t484.length) = true := decide_eq_true (by omega)
   clear c6
   by_cases c7 : 1 < (t484.length : Int)
   ·rw [if_pos c7] at H
    have c7b0 : decide (1 < (t484.length : Int)) = true := decide_eq_true c7
    have c7b1 : decide (1 < t484.length) = true := decide_eq_true (by omega)
    clear c7
    replace H := Option.bind_eq_some_iff.mp H
    obtain ⟨⟨t489, t490, t491⟩, A80, H⟩ := H
    replace H : ((impl_Elapse.f k t476 t489 t490 t491 (wrap64 ((wrap64 (t480 + (Int.tmod (rd t484 0) 40))) + (Int.tmod (rd t484 1) 40)))).bind fun bt493 => ((impl_HandTime.f k t476 t479 t480 t481).bind fun bt497 => ((spec_HandTime.f k t476 t479 t480 t481).bind fun bt499 => ((spec_Elapse.f k t476 t479 t480 t481 (wrap64 (t480 + (Int.tmod (rd t484 0) 40)))).bind fun bt501 => (if (!(t489 == bt501.1) || (!(t490 == bt501.2.1) || (!(t491 == bt501.2.2)))) = true then (laws_FnElapses.j0 k bt497.1 bt499.2 true t476 t479 t480 t481) else ((impl_Elapse.f k t476 t479 t480 t481 (wrap64 ((wrap64 (t480 + (Int.tmod (rd t484 0) 40))) + (Int.tmod (rd t484 1) 40)))).bind fun bt504 => (if (!(bt493.1 == bt504.1) || (!(bt493.2.1 == bt504.2.1) || (!(bt493.2.2 == bt504.2.2)))) = true then (laws_FnElapses.j0 k bt497.1 bt499.2 true t476 t479 t480 t481) else (if t489 < t479 then (laws_FnElapses.j0 k bt497.1 bt499.2 true t476 t479 t480 t481) else (if bt493.1 < t489 then (laws_FnElapses.j0 k bt497.1 bt499.2 true t476 t479 t480 t481) else (if t491 = t481 then ((impl_ScreenOk.f t489 t490 t491).bind fun t507 => (if t507 = true then ((impl_PolicyOk.f t476).bind fun t508 => (if t508 = true then (if (bt497.2 != bt499.2) = true then (laws_FnElapses.j0 k bt497.1 bt499.2 true t476 t479 t480 t481) else (laws_FnElapses.j0 k bt497.1 bt499.2 (bt497.1 != bt499.1) t476 t479 t480 t481)) else (laws_FnElapses.j0 k bt497.1 bt499.2 true t476 t479 t480 t481))) else (laws_FnElapses.j0 k bt497.1 bt499.2 true t476 t479 t480 t481))) else (laws_FnElapses.j0 k bt497.1 bt499.2 true t476 t479 t480 t481))))))))))) = some r := H
    have A8 := Aside0.mk A80
    clear A80
    replace H := Option.bind_eq_some_iff.mp H
    obtain ⟨⟨t493, t494, t495⟩, A90, H⟩ := H
    replace H : ((impl_HandTime.f k t476 t479 t480 t481).bind fun bt497 => ((spec_HandTime.f k t476 t479 t480 t481).bind fun bt499 => ((spec_Elapse.f k t476 t479 t480 t481 (wrap64 (t480 + (Int.tmod (rd t484 0) 40)))).bind fun bt501 => (if (!(t489 == bt501.1) || (!(t490 == bt501.2.1) || (!(t491 == bt501.2.2)))) = true then (laws_FnElapses.j0 k bt497.1 bt499.2 true t476 t479 t480 t481) else ((impl_Elapse.f k t476 t479 t480 t481 (wrap64 ((wrap64 (t480 + (Int.tmod (rd t484 0) 40))) + (Int.tmod (rd t484 1) 40)))).bind fun bt504 => (if (!(t493 == bt504.1) || (!(t494 == bt504.2.1) || (!(t495 == bt504.2.2)))) = true then (laws_FnElapses.j0 k bt497.1 bt499.2 true t476 t479 t480 t481) else (if t489 < t479 then (laws_FnElapses.j0 k bt497.1 bt499.2 true t476 t479 t480 t481) else (if t493 < t489 then (laws_FnElapses.j0 k bt497.1 bt499.2 true t476 t479 t480 t481) else (if t491 = t481 then ((impl_ScreenOk.f t489 t490 t491).bind fun t507 => (if t507 = true then ((impl_PolicyOk.f t476).bind fun t508 => (if t508 = true then (if (bt497.2 != bt499.2) = true then (laws_FnElapses.j0 k bt497.1 bt499.2 true t476 t479 t480 t481) else (laws_FnElapses.j0 k bt497.1 bt499.2 (bt497.1 != bt499.1) t476 t479 t480 t481)) else (laws_FnElapses.j0 k bt497.1 bt499.2 true t476 t479 t480 t481))) else (laws_FnElapses.j0 k bt497.1 bt499.2 true t476 t479 t480 t481))) else (laws_FnElapses.j0 k bt497.1 bt499.2 true t476 t479 t480 t481)))))))))) = some r := H
    have A9 := Aside0.mk A90
    clear A90
    replace H := Option.bind_eq_some_iff.mp H
    obtain ⟨⟨t497, t498⟩, A100, H⟩ := H
    replace H : ((spec_HandTime.f k t476 t479 t480 t481).bind fun bt499 => ((spec_Elapse.f k t476 t479 t480 t481 (wrap64 (t480 + (Int.tmod (rd t484 0) 40)))).bind fun bt501 => (if (!(t489 == bt501.1) || (!(t490 == bt501.2.1) || (!(t491 == bt501.2.2)))) = true then (laws_FnElapses.j0 k t497 bt499.2 true t476 t479 t480 t481) else ((impl_Elapse.f k t476 t479 t480 t481 (wrap64 ((wrap64 (t480 + (Int.tmod (rd t484 0) 40))) + (Int.tmod (rd t484 1) 40)))).bind fun bt504 => (if (!(t493 == bt504.1) || (!(t494 == bt504.2.1) || (!(t495 == bt504.2.2)))) = true then (laws_FnElapses.j0 k t497 bt499.2 true t476 t479 t480 t481) else (if t489 < t479 then (laws_FnElapses.j0 k t497 bt499.2 true t476 t479 t480 t481) else (if t493 < t489 then (laws_FnElapses.j0 k t497 bt499.2 true t476 t479 t480 t481) else (if t491 = t481 then ((impl_ScreenOk.f t489 t490 t491).bind fun t507 => (if t507 = true then ((impl_PolicyOk.f t476).bind fun t508 => (if t508 = true then (if (t498 != bt499.2) = true then (laws_FnElapses.j0 k t497 bt499.2 true t476 t479 t480 t481) else (laws_FnElapses.j0 k t497 bt499.2 (t497 != bt499.1) t476 t479 t480 t481)) else (laws_FnElapses.j0 k t497 bt499.2 true t476 t479 t480 t481))) else (laws_FnElapses.j0 k t497 bt499.2 true t476 t479 t480 t481))) else (laws_FnElapses.j0 k t497 bt499.2 true t476 t479 t480 t481))))))))) = some r := H
    have A10 := Aside0.mk A100
    clear A100
    replace H := Option.bind_eq_some_iff.mp H
    obtain ⟨⟨t499, t500⟩, A110, H⟩ := H
    replace H : ((spec_Elapse.f k t476 t479 t480 t481 (wrap64 (t480 + (Int.tmod (rd t484 0) 40)))).bind fun bt501 => (if (!(t489 == bt501.1) || (!(t490 == bt501.2.1) || (!(t491 == bt501.2.2)))) = true then (laws_FnElapses.j0 k t497 t500 true t476 t479 t480 t481) else ((impl_Elapse.f k t476 t479 t480 t481 (wrap64 ((wrap64 (t480 + (Int.tmod (rd t484 0) 40))) + (Int.tmod (rd t484 1) 40)))).bind fun bt504 => (if (!(t493 == bt504.1) || (!(t494 == bt504.2.1) || (!(t495 == bt504.2.2)))) = true then (laws_FnElapses.j0 k t497 t500 true t476 t479 t480 t481) else (if t489 < t479 then (laws_FnElapses.j0 k t497 t500 true t476 t479 t480 t481) else (if t493 < t489 then (laws_FnElapses.j0 k t497 t500 true t476 t479 t480 t481) else (if t491 = t481 then ((impl_ScreenOk.f t489 t490 t491).bind fun t507 => (if t507 = true then ((impl_PolicyOk.f t476).bind fun t508 => (if t508 = true then (if (t498 != t500) = true then (laws_FnElapses.j0 k t497 t500 true t476 t479 t480 t481) else (laws_FnElapses.j0 k t497 t500 (t497 != t499) t476 t479 t480 t481)) else (laws_FnElapses.j0 k t497 t500 true t476 t479 t480 t481))) else (laws_FnElapses.j0 k t497 t500 true t476 t479 t480 t481))) else (laws_FnElapses.j0 k t497 t500 true t476 t479 t480 t481)))))))) = some r := H
    have A11 := Aside0.mk A110
    clear A110
    have HC12 := Aside0.mk H
    clear H
    go_enter Try.func11, Try.ntmps11
    try go_wp2_with (first | ((with_reducible refine gate_callee (f := 42) rfl ?_); refine goesL_ (some 17) rfl rfl Try.func42 (by kernel_rfl) rfl #[.slice A0 l0.length c0] rfl (by (try simp only [List.map_toArray, List.map_cons, List.map_nil]); first | done | rfl | (simp only [List.length_drop, List.length_take]; rfl)) ?_; (with_reducible refine (laws_big.calls _ _ l0 false _ ?side1 ?side2 A2.out).mono ?_); (case side1 => repeat (first | exact HR0.out | (with_reducible refine Kd.C_alloc ?_ _) | (with_reducible refine Kd.C_drewN ?_ _) | (with_reducible refine Kd.C_drew ?_))); (case side2 => exact HC0.out); rintro e w' ⟨rfl, ⟨nd, rfl⟩⟩; refine ⟨_, rfl, ?_⟩) | ((with_reducible refine gate_callee (f := 43) rfl ?_); refine goesL_ (some 20) rfl rfl Try.func43 (by kernel_rfl) rfl #[.slice A0 l0.length c0] rfl (by (try simp only [List.map_toArray, List.map_cons, List.map_nil]); first | done | rfl | (simp only [List.length_drop, List.length_take]; rfl)) ?_; (with_reducible refine (spec_DrawScreen.calls k _ _ l0 t476 t479 t480 t481 _ ?side1 ?side2 A4.out).mono ?_); (case side1 => repeat (first | exact HR0.out | (with_reducible refine Kd.C_alloc ?_ _) | (with_reducible refine Kd.C_drewN ?_ _) | (with_reducible refine Kd.C_drew ?_))); (case side2 => exact HC0.out); rintro e w13 ⟨v477, rfl, ho0, hb⟩; refine ⟨_, rfl, ?_⟩; have n0_ := Aside0.mk (Kd.R_lower ho0 (below_size (by repeat (first | (with_reducible first | exact HB.out | apply below_alloc | apply pw_below_drewN | apply below_drew1) | exact HB.out)))); have n1_ := Aside0.mk (below_step (by repeat (first | (with_reducible first | exact HB.out | apply below_alloc | apply pw_below_drewN | apply below_drew1) | exact HB.out)) hb); clear HB; have HO478 := n0_; have HB := n1_; clear n0_ n1_; (try clear hb); (try clear hb2); (try clear hk); (try clear hi); (try clear ho0)) | ((with_reducible refine gate_dst (N := 3) rfl ?_); refine box_event ?hg (N := 3) ?hd (cs := #[.slice none 0 0]) (t := 53) ?hr ?_; (case hd => rfl); (case hg => rfl); (case hr => first | (go_simp; done) | (go_simp; rfl)); intro gb482 hg w14 hbox hb; have n0_ := Aside0.mk (Kd.R_below (by (with_reducible repeat (first | apply Kd.R_alloc | apply Kd.R_drewN | apply Kd.R_drew)); exact HO478.out) hb); have n1_ := Aside0.mk (below_step (by repeat (first | (with_reducible first | exact HB.out | apply below_alloc | apply pw_below_drewN | apply below_drew1) | exact HB.out)) hb); have n2_ := Aside0.mk (hbox); have n3_ := Aside0.mk ((by rw [hg]; exact (below_size (by repeat (first | (with_reducible first | exact HB.out | apply below_alloc | apply pw_below_drewN | apply below_drew1) | exact HB.out))) : w.heap.size ≤ gb482)); have n4_ := Aside0.mk ((by rw [hg]; exact (below_size (by repeat (first | (with_reducible first | exact HB.out | apply below_alloc | apply pw_below_drewN | apply below_drew1) | exact HB.out))) : w.heap.size ≤ gb482)); clear HO478; clear HB; have HO478 := n0_; have HB := n1_; have BK482 := n2_; have GW482 := n3_; have GE482 := n4_; clear n0_ n1_ n2_ n3_ n4_; clear hb hbox hg) | ((with_reducible refine gate_dst (N := 4) rfl ?_); refine box_event ?hg (N := 4) ?hd (cs := #[.int .i64 0, .int .i64 0, .int .i64 0]) (t := 39) ?hr ?_; (case hd => rfl); (case hg => rfl); (case hr => first | (go_simp; done) | (go_simp; rfl)); intro gb483 hg w15 hbox hb; have n0_ := Aside0.mk (Kd.R_below (by (with_reducible repeat (first | apply Kd.R_alloc | apply Kd.R_drewN | apply Kd.R_drew)); exact HO478.out) hb); have n1_ := Aside0.mk (blk_below (g := gb482) (o := .cells #[.slice none 0 0] 53 (0, 0)) (by (with_reducible repeat (first | refine blk_drewN ?_ _ | refine blk_drew ?_ | refine blk_alloc ?_ _)); exact BK482.out) hb); have n2_ := Aside0.mk (below_step (by repeat (first | (with_reducible first | exact HB.out | apply below_alloc | apply pw_below_drewN | apply below_drew1 | refine below_set ?_ GE482.out) | exact HB.out)) hb); have n3_ := Aside0.mk (hbox); have n4_ := Aside0.mk ((by rw [hg]; exact (below_size (by repeat (first | (with_reducible first | exact HB.out | apply below_alloc | apply pw_below_drewN | apply below_drew1 | refine below_set ?_ GE482.out) | exact HB.out))) : w.heap.size ≤ gb483)); have n5_ := Aside0.mk ((by rw [hg]; exact (below_size (by repeat (first | (with_reducible first | exact HB.out | apply below_alloc | apply pw_below_drewN | apply below_drew1 | refine below_set ?_ GE482.out) | exact HB.out))) : w.heap.size ≤ gb483)); have n6_ := Aside0.mk ((by rw [hg]; exact Nat.ne_of_lt (blk_lt (g := gb482) (o := .cells #[.slice none 0 0] 53 (0, 0)) (by (with_reducible repeat (first | refine blk_drewN ?_ _ | refine blk_drew ?_ | refine blk_alloc ?_ _)); exact BK482.out)) : gb482 ≠ gb483)); have n7_ := Aside0.mk ((by rw [hg]; exact Nat.ne_of_gt (blk_lt (g := gb482) (o := .cells #[.slice none 0 0] 53 (0, 0)) (by (with_reducible repeat (first | refine blk_drewN ?_ _ | refine blk_drew ?_ | refine blk_alloc ?_ _)); exact BK482.out)) : gb483 ≠ gb482)); clear HO478; clear BK482; clear HB; have HO478 := n0_; have BK482 := n1_; have HB := n2_; have BK483 := n3_; have GW483 := n4_; have GE483 := n5_; have NB482_483 := n6_; have NB483_482 := n7_; clear n0_ n1_ n2_ n3_ n4_ n5_ n6_ n7_; clear hb hbox hg; obtain ⟨Ao16, co16, eo16⟩ := Kd.R_slice HO478.out; subst eo16; have hnb17 := NB482_483.out; have hnc17 := NB483_482.out; have hcz18_0 : w15.cell? ⟨gb482, 0, none⟩ = some (.slice none 0 0) := (blk_cell BK482.out 0).trans rfl; have hfz18_0 := blk_frozen BK482.out 0; have hcz19_0 : w15.cell? ⟨gb483, 0, none⟩ = some (.int .i64 0) := (blk_cell BK483.out 0).trans rfl; have hcz19_1 : w15.cell? ⟨gb483, 1, none⟩ = some (.int .i64 0) := (blk_cell BK483.out 1).trans rfl; have hcz19_2 : w15.cell? ⟨gb483, 2, none⟩ = some (.int .i64 0) := (blk_cell BK483.out 2).trans rfl; have hfz19_0 := blk_frozen BK483.out 0; have hfz19_1 := blk_frozen BK483.out 1; have hfz19_2 := blk_frozen BK483.out 2) | ((with_reducible refine gate_callee (f := 44) rfl ?_); refine goesL_ (some 24) rfl rfl Try.func44 (by kernel_rfl) rfl #[.slice A0 l0.length c0] rfl (by (try simp only [List.map_toArray, List.map_cons, List.map_nil]); first | done | rfl | (simp only [List.length_drop, List.length_take]; rfl)) ?_; (with_reducible refine (spec_DrawPlaces.calls k _ _ l0 t484 _ ?side1 ?side2 A5.out).mono ?_); (case side1 => exact Kd.C_below HR0.out (by repeat (first | (with_reducible first | exact HB.out | apply below_alloc | apply pw_below_drewN | apply below_drew1 | refine below_set ?_ GE482.out | refine below_set ?_ GE483.out) | exact HB.out))); (case side2 => exact HC0.out); rintro e w20 ⟨v485, rfl, ho0, hb⟩; refine ⟨_, rfl, ?_⟩; have n0_ := Aside0.mk (Kd.R_elder' (by (with_reducible repeat (first | apply Kd.R_alloc | apply Kd.R_drewN | apply Kd.R_drew)); exact (Kd.R_mono (Kd.R_mono (Kd.R_far (p := ⟨gb483, 2, none⟩) (Kd.R_far (p := ⟨gb483, 1, none⟩) (Kd.R_far (p := ⟨gb483, 0, none⟩) (Kd.R_far (p := ⟨gb482, 0, none⟩) (Kd.R_types (Kd.R_types HO478.out BK482.out (by decide)) BK483.out (by decide)) (fun _ hk => hk.1.2) (.slice Ao16 t476.length co16)) (fun _ hk => hk.2) (.int .i64 t479)) (fun _ hk => hk.2) (.int .i64 t480)) (fun _ hk => hk.2) (.int .i64 t481)) (fun _ h_ => h_.1)) (fun _ h_ => h_.1))) (Kd.R_base ho0) hb); have n1_ := Aside0.mk (Kd.R_lower (Kd.R_new' ho0 (Kd.R_lt (by (with_reducible repeat (first | apply Kd.R_alloc | apply Kd.R_drewN | apply Kd.R_drew)); exact (Kd.R_mono (Kd.R_mono (Kd.R_far (p := ⟨gb483, 2, none⟩) (Kd.R_far (p := ⟨gb483, 1, none⟩) (Kd.R_far (p := ⟨gb483, 0, none⟩) (Kd.R_far (p := ⟨gb482, 0, none⟩) (Kd.R_types (Kd.R_types HO478.out BK482.out (by decide)) BK483.out (by decide)) (fun _ hk => hk.1.2) (.slice Ao16 t476.length co16)) (fun _ hk => hk.2) (.int .i64 t479)) (fun _ hk => hk.2) (.int .i64 t480)) (fun _ hk => hk.2) (.int .i64 t481)) (fun _ h_ => h_.1)) (fun _ h_ => h_.1))))) (below_size (by repeat (first | (with_reducible first | exact HB.out | apply below_alloc | apply pw_below_drewN | apply below_drew1 | refine below_set ?_ GE482.out | refine below_set ?_ GE483.out) | exact HB.out)))); have n2_ := Aside0.mk (blk_below (g := gb482) (o := .cells #[.slice Ao16 t476.length co16] 53 (0, 0)) (by (with_reducible repeat (first | refine blk_drewN ?_ _ | refine blk_drew ?_ | refine blk_alloc ?_ _)); refine blk_far ?_ NB482_483.out _; (with_reducible repeat (first | refine blk_drewN ?_ _ | refine blk_drew ?_ | refine blk_alloc ?_ _)); refine blk_far ?_ NB482_483.out _; (with_reducible repeat (first | refine blk_drewN ?_ _ | refine blk_drew ?_ | refine blk_alloc ?_ _)); refine blk_far ?_ NB482_483.out _; (with_reducible repeat (first | refine blk_drewN ?_ _ | refine blk_drew ?_ | refine blk_alloc ?_ _)); refine blk_put (cs := #[.slice none 0 0]) ?_ 0 _ rfl; (with_reducible repeat (first | refine blk_drewN ?_ _ | refine blk_drew ?_ | refine blk_alloc ?_ _)); exact BK482.out) hb); have n3_ := Aside0.mk (blk_below (g := gb483) (o := .cells #[.int .i64 t479, .int .i64 t480, .int .i64 t481] 39 (0, 0)) (by (with_reducible repeat (first | refine blk_drewN ?_ _ | refine blk_drew ?_ | refine blk_alloc ?_ _)); refine blk_put (cs := #[.int .i64 t479, .int .i64 t480, .int .i64 0]) ?_ 2 _ rfl; (with_reducible repeat (first | refine blk_drewN ?_ _ | refine blk_drew ?_ | refine blk_alloc ?_ _)); refine blk_put (cs := #[.int .i64 t479, .int .i64 0, .int .i64 0]) ?_ 1 _ rfl; (with_reducible repeat (first | refine blk_drewN ?_ _ | refine blk_drew ?_ | refine blk_alloc ?_ _)); refine blk_put (cs := #[.int .i64 0, .int .i64 0, .int .i64 0]) ?_ 0 _ rfl; (with_reducible repeat (first | refine blk_drewN ?_ _ | refine blk_drew ?_ | refine blk_alloc ?_ _)); refine blk_far ?_ NB483_482.out _; (with_reducible repeat (first | refine blk_drewN ?_ _ | refine blk_drew ?_ | refine blk_alloc ?_ _)); exact BK483.out) hb); have n4_ := Aside0.mk (below_step (by repeat (first | (with_reducible first | exact HB.out | apply below_alloc | apply pw_below_drewN | apply below_drew1 | refine below_set ?_ GE482.out | refine below_set ?_ GE483.out) | exact HB.out)) hb); clear HO478; clear BK482; clear BK483; clear HB; have HO478 := n0_; have HO486 := n1_; have BK482 := n2_; have BK483 := n3_; have HB := n4_; clear n0_ n1_ n2_ n3_ n4_; (try clear hb); (try clear hb2); (try clear hk); (try clear hi); (try clear ho0)))
    have n0_ := Aside0.mk (Kd.R_drew HO478.out)
    have n1_ := Aside0.mk (Kd.R_drew HO486.out)
    have n2_ := Aside0.mk (blk_drew BK482.out)
    have n3_ := Aside0.mk (blk_drew BK483.out)
    have n4_ := Aside0.mk (below_drew1 HB.out)
    clear HO478
    clear HO486
    clear BK482
    clear BK483
    clear HB
    have HO478 := n0_
    have HO486 := n1_
    have BK482 := n2_
    have BK483 := n3_
    have HB := n4_
    clear n0_ n1_ n2_ n3_ n4_
    obtain ⟨Ao22, co22, eo22⟩ := Kd.R_slice HO486.out
    (first | subst eo22 | (injection eo22 with f1_ f2_ f3_; have f4_ := f1_.symm; have f5_ := f3_.symm; clear f1_ f2_ f3_; subst f4_; subst f5_))
    have p487 : 0 ≤ (0 : Int) := (by omega)
    have q487 : 0 < (t484.length : Int) := of_decide_eq_true (by first | (with_reducible assumption) | assumption)
    obtain ⟨ad487, e487, hx487_0⟩ := Kd.at_int (Kd.R_reads' HO486.out).2.2 0 p487 q487
    cases e487
    have qi487 : (0 < t484.length) = True := eq_true (by omega)
    (try rw [show ((0 : Int)).toNat = 0 from rfl] at hx487_0)
    (try rw [Addr.add_zero'] at hx487_0)
    replace p487 := eq_true p487
    replace q487 := eq_true q487
    refine start_ (n := 8) (S := fun w' => w'.cell? ⟨gb483, 0, none⟩ = some (.int .i64 t479) ∧ w'.cell? ⟨gb483, 1, none⟩ = some (.int .i64 t480) ∧ w'.cell? ⟨gb483, 2, none⟩ = some (.int .i64 t481) ∧ w'.cell? ad487 = some (.int .i64 (rd t484 0))) (ds := []) #[false, false, false, false, false, false, false, false] (by kernel_rfl) rfl rfl ⟨(blk_cell BK483.out 0).trans rfl, (blk_cell BK483.out 1).trans rfl, (blk_cell BK483.out 2).trans rfl, hx487_0⟩ (fun hHeld => ?_); refine with_tabW laws_FnElapses.tab5 laws_FnElapses.bits5 (fun HT_ HW_ => ?_)
    generalize w20.drew = w21 at HO478 HO486 BK482 BK483 HB hx487_0 hHeld ⊢
    refine pure_ (i := 0) (N := some 25) (v := ?_) (a' := ?_) #[true, false, false, false, false, false, false, false] rfl rfl (any_of HT_.out (by kernel_rfl)) (fun _ _ _ h => h) (Or.inl ⟨by rfl, ?_⟩) ?_ ?_
    rotate_left
    ·intro w'
     go_simp
     with_reducible rfl
    rotate_left
    ·simp only [Act.put, List.setIfInBounds_toArray, List.set_cons_zero, List.set_cons_succ, i64_w, i32_w]
     rfl
    refine pure_ (i := 2) (N := some 27) (v := ?_) (a' := ?_) #[true, false, true, false, false, false, false, false] rfl rfl (any_of HT_.out (by kernel_rfl)) (fun _ _ _ h => h) (Or.inl ⟨by rfl, ?_⟩) ?_ ?_
    rotate_left
    ·intro w'
     go_simp
     with_reducible rfl
    rotate_left
    ·simp only [Act.put, List.setIfInBounds_toArray, List.set_cons_zero, List.set_cons_succ, i64_w, i32_w]
     rfl
    refine pure_ (i := 3) (N := some 28) (v := ?_) (a' := ?_) #[true, false, true, true, false, false, false, false] rfl rfl (any_of HT_.out (by kernel_rfl)) (fun _ _ _ h => h) (Or.inl ⟨by rfl, ?_⟩) ?_ ?_
    rotate_left
    ·intro w'
     go_simp
     with_reducible rfl
    rotate_left
    ·simp only [Act.put, List.setIfInBounds_toArray, List.set_cons_zero, List.set_cons_succ, i64_w, i32_w]
     rfl
    refine take_ (i := 1) (N := some 26) (v := ?_) (a' := ?_) #[true, true, true, true, false, false, false, false] rfl rfl (take_ofW HT_.out HW_.out (by kernel_rfl)) (fun _ _ _ h => h) (Or.inl ⟨by rfl, ?_⟩) hHeld ?_ ?_
    rotate_left
    ·rintro w' ⟨s0, s1, s2, s3⟩
     go_simp
     with_reducible rfl
    rotate_left
    ·simp only [Act.put, List.setIfInBounds_toArray, List.set_cons_zero, List.set_cons_succ, i64_w, i32_w]
     rfl
    refine take_ (i := 4) (N := some 29) (v := ?_) (a' := ?_) #[true, true, true, true, true, false, false, false] rfl rfl (take_ofW HT_.out HW_.out (by kernel_rfl)) (fun _ _ _ h => h) (Or.inl ⟨by rfl, ?_⟩) hHeld ?_ ?_
    rotate_left
    ·rintro w' ⟨s0, s1, s2, s3⟩
     go_simp
     with_reducible rfl
    rotate_left
    ·simp only [Act.put, List.setIfInBounds_toArray, List.set_cons_zero, List.set_cons_succ, i64_w, i32_w]
     rfl
    refine pure_ (i := 5) (N := some 30) (v := ?_) (a' := ?_) #[true, true, true, true, true, true, false, false] rfl rfl (any_of HT_.out (by kernel_rfl)) (fun _ _ _ h => h) (Or.inl ⟨by rfl, ?_⟩) ?_ ?_
    rotate_left
    ·intro w'
     go_simp
     with_reducible rfl
    rotate_left
    ·simp only [Act.put, List.setIfInBounds_toArray, List.set_cons_zero, List.set_cons_succ, i64_w, i32_w]
     rfl
    refine pure_ (i := 6) (N := some 31) (v := ?_) (a' := ?_) #[true, true, true, true, true, true, true, false] rfl rfl (any_of HT_.out (by kernel_rfl)) (fun _ _ _ h => h) (Or.inl ⟨by rfl, ?_⟩) ?_ ?_
    rotate_left
    ·intro w'
     go_simp
     with_reducible rfl
    rotate_left
    ·simp only [Act.put, List.setIfInBounds_toArray, List.set_cons_zero, List.set_cons_succ, i64_w, i32_w]
     rfl
    refine pure_ (i := 7) (N := some 6) (v := ?_) (a' := ?_) #[true, true, true, true, true, true, true, true] rfl rfl (any_of HT_.out (by kernel_rfl)) (fun _ _ _ h => h) (Or.inl ⟨by rfl, ?_⟩) ?_ ?_
    rotate_left
    ·intro w'
     go_simp
     with_reducible rfl
    rotate_left
    ·simp only [Act.put, List.setIfInBounds_toArray, List.set_cons_zero, List.set_cons_succ, i64_w, i32_w]
     rfl
    refine done_ (done_of HT_.out (by kernel_rfl)) ?_
    have p488 : 0 ≤ (1 : Int) := (by omega)
    have q488 : 1 < (t484.length : Int) := of_decide_eq_true (by first | (with_reducible assumption) | assumption)
    obtain ⟨ad488, e488, hx488_0⟩ := Kd.at_int (Kd.R_reads' HO486.out).2.2 1 p488 q488
    obtain rfl : ad487 = ad488 := (by injection e488)
    (try simp only [show (1 : Int).toNat = 1 from rfl, Nat.reduceMul, Nat.reduceEqDiff, Go.Addr.add, ↓reduceIte] at hx488_0)
    have qi488 : (1 < t484.length) = True := eq_true (by omega)
    (try rw [show ((1 : Int)).toNat = 1 from rfl] at hx488_0)
    replace p488 := eq_true p488
    replace q488 := eq_true q488
    have hcz23_0 : w21.cell? ⟨gb482, 0, none⟩ = some (.slice Ao16 t476.length co16) := (blk_cell BK482.out 0).trans rfl
    have hfz23_0 := blk_frozen BK482.out 0
    have hcz24_0 : w21.cell? ⟨gb483, 0, none⟩ = some (.int .i64 t479) := (blk_cell BK483.out 0).trans rfl
    have hcz24_1 : w21.cell? ⟨gb483, 1, none⟩ = some (.int .i64 t480) := (blk_cell BK483.out 1).trans rfl
    have hcz24_2 : w21.cell? ⟨gb483, 2, none⟩ = some (.int .i64 t481) := (blk_cell BK483.out 2).trans rfl
    have hfz24_0 := blk_frozen BK483.out 0
    have hfz24_1 := blk_frozen BK483.out 1
    have hfz24_2 := blk_frozen BK483.out 2
    go_upto_region 11 with (first | ((with_reducible refine gate_callee (f := 36) rfl ?_); refine goesL_ (some 41) rfl rfl Try.func36 (by kernel_rfl) rfl #[.agg #[.slice Ao16 t476.length co16], .agg #[.int .i64 t479, .int .i64 t480, .int .i64 t481], .int .i64 (wrap64 (t480 + (Int.tmod (rd t484 0) 40)))] rfl (by (try simp only [List.map_toArray, List.map_cons, List.map_nil]); first | done | rfl | (simp only [List.length_drop, List.length_take]; rfl)) ?_; (with_reducible refine (impl_Elapse.calls k _ _ t476 t479 t480 t481 (wrap64 (t480 + (Int.tmod (rd t484 0) 40))) t489 t490 t491 _ ?side1 ?side2 A8.out).mono ?_); (case side1 => repeat (first | exact (Kd.R_reads' HO478.out).2.2 | (with_reducible refine Kd.C_alloc ?_ _) | (with_reducible refine Kd.C_drewN ?_ _) | (with_reducible refine Kd.C_drew ?_))); (case side2 => exact (Kd.R_reads' HO478.out).2.1); rintro e w25 ⟨rfl, hb⟩; refine ⟨_, rfl, ?_⟩; have n0_ := Aside0.mk (Kd.R_below (by (with_reducible repeat (first | apply Kd.R_alloc | apply Kd.R_drewN | apply Kd.R_drew)); exact HO478.out) hb); have n1_ := Aside0.mk (Kd.R_below (by (with_reducible repeat (first | apply Kd.R_alloc | apply Kd.R_drewN | apply Kd.R_drew)); exact HO486.out) hb); have n2_ := Aside0.mk (blk_below (g := gb482) (o := .cells #[.slice Ao16 t476.length co16] 53 (0, 0)) (by (with_reducible repeat (first | refine blk_drewN ?_ _ | refine blk_drew ?_ | refine blk_alloc ?_ _)); exact BK482.out) hb); have n3_ := Aside0.mk (blk_below (g := gb483) (o := .cells #[.int .i64 t479, .int .i64 t480, .int .i64 t481] 39 (0, 0)) (by (with_reducible repeat (first | refine blk_drewN ?_ _ | refine blk_drew ?_ | refine blk_alloc ?_ _)); exact BK483.out) hb); have n4_ := Aside0.mk (below_step (by repeat (first | (with_reducible first | exact HB.out | apply below_alloc | apply pw_below_drewN | apply below_drew1 | refine below_set ?_ GE482.out | refine below_set ?_ GE483.out) | exact HB.out)) hb); clear HO478; clear HO486; clear BK482; clear BK483; clear HB; have HO478 := n0_; have HO486 := n1_; have BK482 := n2_; have BK483 := n3_; have HB := n4_; clear n0_ n1_ n2_ n3_ n4_; (try clear hb); (try clear hb2); (try clear hk); (try clear hi)) | ((with_reducible refine gate_dst (N := 8) rfl ?_); refine box_event ?hg (N := 8) ?hd (cs := #[.int .i64 0, .int .i64 0, .int .i64 0]) (t := 39) ?hr ?_; (case hd => rfl); (case hg => rfl); (case hr => first | (go_simp; done) | (go_simp; rfl)); intro gb492 hg w26 hbox hb; have n0_ := Aside0.mk (Kd.R_below (by (with_reducible repeat (first | apply Kd.R_alloc | apply Kd.R_drewN | apply Kd.R_drew)); exact HO478.out) hb); have n1_ := Aside0.mk (Kd.R_below (by (with_reducible repeat (first | apply Kd.R_alloc | apply Kd.R_drewN | apply Kd.R_drew)); exact HO486.out) hb); have n2_ := Aside0.mk (blk_below (g := gb482) (o := .cells #[.slice Ao16 t476.length co16] 53 (0, 0)) (by (with_reducible repeat (first | refine blk_drewN ?_ _ | refine blk_drew ?_ | refine blk_alloc ?_ _)); exact BK482.out) hb); have n3_ := Aside0.mk (blk_below (g := gb483) (o := .cells #[.int .i64 t479, .int .i64 t480, .int .i64 t481] 39 (0, 0)) (by (with_reducible repeat (first | refine blk_drewN ?_ _ | refine blk_drew ?_ | refine blk_alloc ?_ _)); exact BK483.out) hb); have n4_ := Aside0.mk (below_step (by repeat (first | (with_reducible first | exact HB.out | apply below_alloc | apply pw_below_drewN | apply below_drew1 | refine below_set ?_ GE482.out | refine below_set ?_ GE483.out) | exact HB.out)) hb); have n5_ := Aside0.mk (hbox); have n6_ := Aside0.mk ((by rw [hg]; exact (below_size (by repeat (first | (with_reducible first | exact HB.out | apply below_alloc | apply pw_below_drewN | apply below_drew1 | refine below_set ?_ GE482.out | refine below_set ?_ GE483.out) | exact HB.out))) : w.heap.size ≤ gb492)); have n7_ := Aside0.mk ((by rw [hg]; exact (below_size (by repeat (first | (with_reducible first | exact HB.out | apply below_alloc | apply pw_below_drewN | apply below_drew1 | refine below_set ?_ GE482.out | refine below_set ?_ GE483.out) | exact HB.out))) : w.heap.size ≤ gb492)); have n8_ := Aside0.mk ((by rw [hg]; exact Nat.ne_of_lt (blk_lt (g := gb482) (o := .cells #[.slice Ao16 t476.length co16] 53 (0, 0)) (by (with_reducible repeat (first | refine blk_drewN ?_ _ | refine blk_drew ?_ | refine blk_alloc ?_ _)); exact BK482.out)) : gb482 ≠ gb492)); have n9_ := Aside0.mk ((by rw [hg]; exact Nat.ne_of_gt (blk_lt (g := gb482) (o := .cells #[.slice Ao16 t476.length co16] 53 (0, 0)) (by (with_reducible repeat (first | refine blk_drewN ?_ _ | refine blk_drew ?_ | refine blk_alloc ?_ _)); exact BK482.out)) : gb492 ≠ gb482)); have n10_ := Aside0.mk ((by rw [hg]; exact Nat.ne_of_lt (blk_lt (g := gb483) (o := .cells #[.int .i64 t479, .int .i64 t480, .int .i64 t481] 39 (0, 0)) (by (with_reducible repeat (first | refine blk_drewN ?_ _ | refine blk_drew ?_ | refine blk_alloc ?_ _)); exact BK483.out)) : gb483 ≠ gb492)); have n11_ := Aside0.mk ((by rw [hg]; exact Nat.ne_of_gt (blk_lt (g := gb483) (o := .cells #[.int .i64 t479, .int .i64 t480, .int .i64 t481] 39 (0, 0)) (by (with_reducible repeat (first | refine blk_drewN ?_ _ | refine blk_drew ?_ | refine blk_alloc ?_ _)); exact BK483.out)) : gb492 ≠ gb483)); clear HO478; clear HO486; clear BK482; clear BK483; clear HB; have HO478 := n0_; have HO486 := n1_; have BK482 := n2_; have BK483 := n3_; have HB := n4_; have BK492 := n5_; have GW492 := n6_; have GE492 := n7_; have NB482_492 := n8_; have NB492_482 := n9_; have NB483_492 := n10_; have NB492_483 := n11_; clear n0_ n1_ n2_ n3_ n4_ n5_ n6_ n7_ n8_ n9_ n10_ n11_; clear hb hbox hg; have hnb27 := NB492_482.out; have hnc27 := NB482_492.out; have hnb28 := NB492_483.out; have hnc28 := NB483_492.out; have hcz29_0 : w26.cell? ⟨gb492, 0, none⟩ = some (.int .i64 0) := (blk_cell BK492.out 0).trans rfl; have hcz29_1 : w26.cell? ⟨gb492, 1, none⟩ = some (.int .i64 0) := (blk_cell BK492.out 1).trans rfl; have hcz29_2 : w26.cell? ⟨gb492, 2, none⟩ = some (.int .i64 0) := (blk_cell BK492.out 2).trans rfl; have hfz29_0 := blk_frozen BK492.out 0; have hfz29_1 := blk_frozen BK492.out 1; have hfz29_2 := blk_frozen BK492.out 2; have hcz30_0 : w26.cell? ⟨gb482, 0, none⟩ = some (.slice Ao16 t476.length co16) := (blk_cell BK482.out 0).trans rfl; have hfz30_0 := blk_frozen BK482.out 0) | ((with_reducible refine gate_callee (f := 36) rfl ?_); refine goesL_ (some 45) rfl rfl Try.func36 (by kernel_rfl) rfl #[.agg #[.slice Ao16 t476.length co16], .agg #[.int .i64 t489, .int .i64 t490, .int .i64 t491], .int .i64 (wrap64 ((wrap64 (t480 + (Int.tmod (rd t484 0) 40))) + (Int.tmod (rd t484 1) 40)))] rfl (by (try simp only [List.map_toArray, List.map_cons, List.map_nil]); first | done | rfl | (simp only [List.length_drop, List.length_take]; rfl)) ?_; (with_reducible refine (impl_Elapse.calls k _ _ t476 t489 t490 t491 (wrap64 ((wrap64 (t480 + (Int.tmod (rd t484 0) 40))) + (Int.tmod (rd t484 1) 40))) t493 t494 t495 _ ?side1 ?side2 A9.out).mono ?_); (case side1 => refine (Kd.R_reads' (e := 3) (base := w.heap.size) (ok := fun k_ => (True ∧ some k_ ≠ (.slice (some ad487) t484.length co22 : Value).ownBlock)) (n := t476.length) (c := co16) ?_).2.2; exact (by (with_reducible repeat (first | apply Kd.R_alloc | apply Kd.R_drewN | apply Kd.R_drew)); exact (Kd.R_mono (Kd.R_far (p := ⟨gb492, 2, none⟩) (Kd.R_far (p := ⟨gb492, 1, none⟩) (Kd.R_far (p := ⟨gb492, 0, none⟩) (Kd.R_types HO478.out BK492.out (by decide)) (fun _ hk => hk.2) (.int .i64 t489)) (fun _ hk => hk.2) (.int .i64 t490)) (fun _ hk => hk.2) (.int .i64 t491)) (fun _ h_ => h_.1)))); (case side2 => exact (Kd.R_reads' HO478.out).2.1); rintro e w31 ⟨rfl, hb⟩; refine ⟨_, rfl, ?_⟩; have n0_ := Aside0.mk (Kd.R_below (by (with_reducible repeat (first | apply Kd.R_alloc | apply Kd.R_drewN | apply Kd.R_drew)); exact (Kd.R_mono (Kd.R_far (p := ⟨gb492, 2, none⟩) (Kd.R_far (p := ⟨gb492, 1, none⟩) (Kd.R_far (p := ⟨gb492, 0, none⟩) (Kd.R_types HO478.out BK492.out (by decide)) (fun _ hk => hk.2) (.int .i64 t489)) (fun _ hk => hk.2) (.int .i64 t490)) (fun _ hk => hk.2) (.int .i64 t491)) (fun _ h_ => h_.1))) hb); have n1_ := Aside0.mk (Kd.R_below (by (with_reducible repeat (first | apply Kd.R_alloc | apply Kd.R_drewN | apply Kd.R_drew)); exact (Kd.R_mono (Kd.R_far (p := ⟨gb492, 2, none⟩) (Kd.R_far (p := ⟨gb492, 1, none⟩) (Kd.R_far (p := ⟨gb492, 0, none⟩) (Kd.R_types HO486.out BK492.out (by decide)) (fun _ hk => hk.2) (.int .i64 t489)) (fun _ hk => hk.2) (.int .i64 t490)) (fun _ hk => hk.2) (.int .i64 t491)) (fun _ h_ => h_.1))) hb); have n2_ := Aside0.mk (blk_below (g := gb482) (o := .cells #[.slice Ao16 t476.length co16] 53 (0, 0)) (by (with_reducible repeat (first | refine blk_drewN ?_ _ | refine blk_drew ?_ | refine blk_alloc ?_ _)); refine blk_far ?_ NB482_492.out _; (with_reducible repeat (first | refine blk_drewN ?_ _ | refine blk_drew ?_ | refine blk_alloc ?_ _)); refine blk_far ?_ NB482_492.out _; (with_reducible repeat (first | refine blk_drewN ?_ _ | refine blk_drew ?_ | refine blk_alloc ?_ _)); refine blk_far ?_ NB482_492.out _; (with_reducible repeat (first | refine blk_drewN ?_ _ | refine blk_drew ?_ | refine blk_alloc ?_ _)); exact BK482.out) hb); have n3_ := Aside0.mk (blk_below (g := gb483) (o := .cells #[.int .i64 t479, .int .i64 t480, .int .i64 t481] 39 (0, 0)) (by (with_reducible repeat (first | refine blk_drewN ?_ _ | refine blk_drew ?_ | refine blk_alloc ?_ _)); refine blk_far ?_ NB483_492.out _; (with_reducible repeat (first | refine blk_drewN ?_ _ | refine blk_drew ?_ | refine blk_alloc ?_ _)); refine blk_far ?_ NB483_492.out _; (with_reducible repeat (first | refine blk_drewN ?_ _ | refine blk_drew ?_ | refine blk_alloc ?_ _)); refine blk_far ?_ NB483_492.out _; (with_reducible repeat (first | refine blk_drewN ?_ _ | refine blk_drew ?_ | refine blk_alloc ?_ _)); exact BK483.out) hb); have n4_ := Aside0.mk (blk_below (g := gb492) (o := .cells #[.int .i64 t489, .int .i64 t490, .int .i64 t491] 39 (0, 0)) (by (with_reducible repeat (first | refine blk_drewN ?_ _ | refine blk_drew ?_ | refine blk_alloc ?_ _)); refine blk_put (cs := #[.int .i64 t489, .int .i64 t490, .int .i64 0]) ?_ 2 _ rfl; (with_reducible repeat (first | refine blk_drewN ?_ _ | refine blk_drew ?_ | refine blk_alloc ?_ _)); refine blk_put (cs := #[.int .i64 t489, .int .i64 0, .int .i64 0]) ?_ 1 _ rfl; (with_reducible repeat (first | refine blk_drewN ?_ _ | refine blk_drew ?_ | refine blk_alloc ?_ _)); refine blk_put (cs := #[.int .i64 0, .int .i64 0, .int .i64 0]) ?_ 0 _ rfl; (with_reducible repeat (first | refine blk_drewN ?_ _ | refine blk_drew ?_ | refine blk_alloc ?_ _)); exact BK492.out) hb); have n5_ := Aside0.mk (below_step (by repeat (first | (with_reducible first | exact HB.out | apply below_alloc | apply pw_below_drewN | apply below_drew1 | refine below_set ?_ GE482.out | refine below_set ?_ GE483.out | refine below_set ?_ GE492.out) | exact HB.out)) hb); clear HO478; clear HO486; clear BK482; clear BK483; clear BK492; clear HB; have HO478 := n0_; have HO486 := n1_; have BK482 := n2_; have BK483 := n3_; have BK492 := n4_; have HB := n5_; clear n0_ n1_ n2_ n3_ n4_ n5_; (try clear hb); (try clear hb2); (try clear hk); (try clear hi)) | ((with_reducible refine gate_dst (N := 9) rfl ?_); refine box_event ?hg (N := 9) ?hd (cs := #[.int .i64 0, .int .i64 0, .int .i64 0]) (t := 39) ?hr ?_; (case hd => rfl); (case hg => rfl); (case hr => first | (go_simp; done) | (go_simp; rfl)); intro gb496 hg w32 hbox hb; have n0_ := Aside0.mk (Kd.R_below (by (with_reducible repeat (first | apply Kd.R_alloc | apply Kd.R_drewN | apply Kd.R_drew)); exact HO478.out) hb); have n1_ := Aside0.mk (Kd.R_below (by (with_reducible repeat (first | apply Kd.R_alloc | apply Kd.R_drewN | apply Kd.R_drew)); exact HO486.out) hb); have n2_ := Aside0.mk (blk_below (g := gb482) (o := .cells #[.slice Ao16 t476.length co16] 53 (0, 0)) (by (with_reducible repeat (first | refine blk_drewN ?_ _ | refine blk_drew ?_ | refine blk_alloc ?_ _)); exact BK482.out) hb); have n3_ := Aside0.mk (blk_below (g := gb483) (o := .cells #[.int .i64 t479, .int .i64 t480, .int .i64 t481] 39 (0, 0)) (by (with_reducible repeat (first | refine blk_drewN ?_ _ | refine blk_drew ?_ | refine blk_alloc ?_ _)); exact BK483.out) hb); have n4_ := Aside0.mk (blk_below (g := gb492) (o := .cells #[.int .i64 t489, .int .i64 t490, .int .i64 t491] 39 (0, 0)) (by (with_reducible repeat (first | refine blk_drewN ?_ _ | refine blk_drew ?_ | refine blk_alloc ?_ _)); exact BK492.out) hb); have n5_ := Aside0.mk (below_step (by repeat (first | (with_reducible first | exact HB.out | apply below_alloc | apply pw_below_drewN | apply below_drew1 | refine below_set ?_ GE482.out | refine below_set ?_ GE483.out | refine below_set ?_ GE492.out) | exact HB.out)) hb); have n6_ := Aside0.mk (hbox); have n7_ := Aside0.mk ((by rw [hg]; exact (below_size (by repeat (first | (with_reducible first | exact HB.out | apply below_alloc | apply pw_below_drewN | apply below_drew1 | refine below_set ?_ GE482.out | refine below_set ?_ GE483.out | refine below_set ?_ GE492.out) | exact HB.out))) : w.heap.size ≤ gb496)); have n8_ := Aside0.mk ((by rw [hg]; exact (below_size (by repeat (first | (with_reducible first | exact HB.out | apply below_alloc | apply pw_below_drewN | apply below_drew1 | refine below_set ?_ GE482.out | refine below_set ?_ GE483.out | refine below_set ?_ GE492.out) | exact HB.out))) : w.heap.size ≤ gb496)); have n9_ := Aside0.mk ((by rw [hg]; exact Nat.ne_of_lt (blk_lt (g := gb482) (o := .cells #[.slice Ao16 t476.length co16] 53 (0, 0)) (by (with_reducible repeat (first | refine blk_drewN ?_ _ | refine blk_drew ?_ | refine blk_alloc ?_ _)); exact BK482.out)) : gb482 ≠ gb496)); have n10_ := Aside0.mk ((by rw [hg]; exact Nat.ne_of_gt (blk_lt (g := gb482) (o := .cells #[.slice Ao16 t476.length co16] 53 (0, 0)) (by (with_reducible repeat (first | refine blk_drewN ?_ _ | refine blk_drew ?_ | refine blk_alloc ?_ _)); exact BK482.out)) : gb496 ≠ gb482)); have n11_ := Aside0.mk ((by rw [hg]; exact Nat.ne_of_lt (blk_lt (g := gb483) (o := .cells #[.int .i64 t479, .int .i64 t480, .int .i64 t481] 39 (0, 0)) (by (with_reducible repeat (first | refine blk_drewN ?_ _ | refine blk_drew ?_ | refine blk_alloc ?_ _)); exact BK483.out)) : gb483 ≠ gb496)); have n12_ := Aside0.mk ((by rw [hg]; exact Nat.ne_of_gt (blk_lt (g := gb483) (o := .cells #[.int .i64 t479, .int .i64 t480, .int .i64 t481] 39 (0, 0)) (by (with_reducible repeat (first | refine blk_drewN ?_ _ | refine blk_drew ?_ | refine blk_alloc ?_ _)); exact BK483.out)) : gb496 ≠ gb483)); have n13_ := Aside0.mk ((by rw [hg]; exact Nat.ne_of_lt (blk_lt (g := gb492) (o := .cells #[.int .i64 t489, .int .i64 t490, .int .i64 t491] 39 (0, 0)) (by (with_reducible repeat (first | refine blk_drewN ?_ _ | refine blk_drew ?_ | refine blk_alloc ?_ _)); exact BK492.out)) : gb492 ≠ gb496)); have n14_ := Aside0.mk ((by rw [hg]; exact Nat.ne_of_gt (blk_lt (g := gb492) (o := .cells #[.int .i64 t489, .int .i64 t490, .int .i64 t491] 39 (0, 0)) (by (with_reducible repeat (first | refine blk_drewN ?_ _ | refine blk_drew ?_ | refine blk_alloc ?_ _)); exact BK492.out)) : gb496 ≠ gb492)); clear HO478; clear HO486; clear BK482; clear BK483; clear BK492; clear HB; have HO478 := n0_; have HO486 := n1_; have BK482 := n2_; have BK483 := n3_; have BK492 := n4_; have HB := n5_; have BK496 := n6_; have GW496 := n7_; have GE496 := n8_; have NB482_496 := n9_; have NB496_482 := n10_; have NB483_496 := n11_; have NB496_483 := n12_; have NB492_496 := n13_; have NB496_492 := n14_; clear n0_ n1_ n2_ n3_ n4_ n5_ n6_ n7_ n8_ n9_ n10_ n11_ n12_ n13_ n14_; clear hb hbox hg; have hnb33 := NB496_482.out; have hnc33 := NB482_496.out; have hnb34 := NB496_483.out; have hnc34 := NB483_496.out; have hnb35 := NB496_492.out; have hnc35 := NB492_496.out; have hcz36_0 : w32.cell? ⟨gb496, 0, none⟩ = some (.int .i64 0) := (blk_cell BK496.out 0).trans rfl; have hcz36_1 : w32.cell? ⟨gb496, 1, none⟩ = some (.int .i64 0) := (blk_cell BK496.out 1).trans rfl; have hcz36_2 : w32.cell? ⟨gb496, 2, none⟩ = some (.int .i64 0) := (blk_cell BK496.out 2).trans rfl; have hfz36_0 := blk_frozen BK496.out 0; have hfz36_1 := blk_frozen BK496.out 1; have hfz36_2 := blk_frozen BK496.out 2; have hcz37_0 : w32.cell? ⟨gb482, 0, none⟩ = some (.slice Ao16 t476.length co16) := (blk_cell BK482.out 0).trans rfl; have hfz37_0 := blk_frozen BK482.out 0; have hcz38_0 : w32.cell? ⟨gb483, 0, none⟩ = some (.int .i64 t479) := (blk_cell BK483.out 0).trans rfl; have hcz38_1 : w32.cell? ⟨gb483, 1, none⟩ = some (.int .i64 t480) := (blk_cell BK483.out 1).trans rfl; have hcz38_2 : w32.cell? ⟨gb483, 2, none⟩ = some (.int .i64 t481) := (blk_cell BK483.out 2).trans rfl; have hfz38_0 := blk_frozen BK483.out 0; have hfz38_1 := blk_frozen BK483.out 1; have hfz38_2 := blk_frozen BK483.out 2) | ((with_reducible refine gate_callee (f := 39) rfl ?_); refine goesL_ (some 49) rfl rfl Try.func39 (by kernel_rfl) rfl #[.agg #[.slice Ao16 t476.length co16], .agg #[.int .i64 t479, .int .i64 t480, .int .i64 t481]] rfl (by (try simp only [List.map_toArray, List.map_cons, List.map_nil]); first | done | rfl | (simp only [List.length_drop, List.length_take]; rfl)) ?_; (with_reducible refine (impl_HandTime.calls k _ _ t476 t479 t480 t481 t497 t498 _ ?side1 ?side2 A10.out).mono ?_); (case side1 => refine (Kd.R_reads' (e := 3) (base := w.heap.size) (ok := fun k_ => (True ∧ some k_ ≠ (.slice (some ad487) t484.length co22 : Value).ownBlock)) (n := t476.length) (c := co16) ?_).2.2; exact (by (with_reducible repeat (first | apply Kd.R_alloc | apply Kd.R_drewN | apply Kd.R_drew)); exact (Kd.R_mono (Kd.R_far (p := ⟨gb496, 2, none⟩) (Kd.R_far (p := ⟨gb496, 1, none⟩) (Kd.R_far (p := ⟨gb496, 0, none⟩) (Kd.R_types HO478.out BK496.out (by decide)) (fun _ hk => hk.2) (.int .i64 t493)) (fun _ hk => hk.2) (.int .i64 t494)) (fun _ hk => hk.2) (.int .i64 t495)) (fun _ h_ => h_.1)))); (case side2 => exact (Kd.R_reads' HO478.out).2.1); rintro e w39 ⟨rfl, hb⟩; refine ⟨_, rfl, ?_⟩; have n0_ := Aside0.mk (Kd.R_below (by (with_reducible repeat (first | apply Kd.R_alloc | apply Kd.R_drewN | apply Kd.R_drew)); exact (Kd.R_mono (Kd.R_far (p := ⟨gb496, 2, none⟩) (Kd.R_far (p := ⟨gb496, 1, none⟩) (Kd.R_far (p := ⟨gb496, 0, none⟩) (Kd.R_types HO478.out BK496.out (by decide)) (fun _ hk => hk.2) (.int .i64 t493)) (fun _ hk => hk.2) (.int .i64 t494)) (fun _ hk => hk.2) (.int .i64 t495)) (fun _ h_ => h_.1))) hb); have n1_ := Aside0.mk (Kd.R_below (by (with_reducible repeat (first | apply Kd.R_alloc | apply Kd.R_drewN | apply Kd.R_drew)); exact (Kd.R_mono (Kd.R_far (p := ⟨gb496, 2, none⟩) (Kd.R_far (p := ⟨gb496, 1, none⟩) (Kd.R_far (p := ⟨gb496, 0, none⟩) (Kd.R_types HO486.out BK496.out (by decide)) (fun _ hk => hk.2) (.int .i64 t493)) (fun _ hk => hk.2) (.int .i64 t494)) (fun _ hk => hk.2) (.int .i64 t495)) (fun _ h_ => h_.1))) hb); have n2_ := Aside0.mk (blk_below (g := gb482) (o := .cells #[.slice Ao16 t476.length co16] 53 (0, 0)) (by (with_reducible repeat (first | refine blk_drewN ?_ _ | refine blk_drew ?_ | refine blk_alloc ?_ _)); refine blk_far ?_ NB482_496.out _; (with_reducible repeat (first | refine blk_drewN ?_ _ | refine blk_drew ?_ | refine blk_alloc ?_ _)); refine blk_far ?_ NB482_496.out _; (with_reducible repeat (first | refine blk_drewN ?_ _ | refine blk_drew ?_ | refine blk_alloc ?_ _)); refine blk_far ?_ NB482_496.out _; (with_reducible repeat (first | refine blk_drewN ?_ _ | refine blk_drew ?_ | refine blk_alloc ?_ _)); exact BK482.out) hb); have n3_ := Aside0.mk (blk_below (g := gb483) (o := .cells #[.int .i64 t479, .int .i64 t480, .int .i64 t481] 39 (0, 0)) (by (with_reducible repeat (first | refine blk_drewN ?_ _ | refine blk_drew ?_ | refine blk_alloc ?_ _)); refine blk_far ?_ NB483_496.out _; (with_reducible repeat (first | refine blk_drewN ?_ _ | refine blk_drew ?_ | refine blk_alloc ?_ _)); refine blk_far ?_ NB483_496.out _; (with_reducible repeat (first | refine blk_drewN ?_ _ | refine blk_drew ?_ | refine blk_alloc ?_ _)); refine blk_far ?_ NB483_496.out _; (with_reducible repeat (first | refine blk_drewN ?_ _ | refine blk_drew ?_ | refine blk_alloc ?_ _)); exact BK483.out) hb); have n4_ := Aside0.mk (blk_below (g := gb492) (o := .cells #[.int .i64 t489, .int .i64 t490, .int .i64 t491] 39 (0, 0)) (by (with_reducible repeat (first | refine blk_drewN ?_ _ | refine blk_drew ?_ | refine blk_alloc ?_ _)); refine blk_far ?_ NB492_496.out _; (with_reducible repeat (first | refine blk_drewN ?_ _ | refine blk_drew ?_ | refine blk_alloc ?_ _)); refine blk_far ?_ NB492_496.out _; (with_reducible repeat (first | refine blk_drewN ?_ _ | refine blk_drew ?_ | refine blk_alloc ?_ _)); refine blk_far ?_ NB492_496.out _; (with_reducible repeat (first | refine blk_drewN ?_ _ | refine blk_drew ?_ | refine blk_alloc ?_ _)); exact BK492.out) hb); have n5_ := Aside0.mk (blk_below (g := gb496) (o := .cells #[.int .i64 t493, .int .i64 t494, .int .i64 t495] 39 (0, 0)) (by (with_reducible repeat (first | refine blk_drewN ?_ _ | refine blk_drew ?_ | refine blk_alloc ?_ _)); refine blk_put (cs := #[.int .i64 t493, .int .i64 t494, .int .i64 0]) ?_ 2 _ rfl; (with_reducible repeat (first | refine blk_drewN ?_ _ | refine blk_drew ?_ | refine blk_alloc ?_ _)); refine blk_put (cs := #[.int .i64 t493, .int .i64 0, .int .i64 0]) ?_ 1 _ rfl; (with_reducible repeat (first | refine blk_drewN ?_ _ | refine blk_drew ?_ | refine blk_alloc ?_ _)); refine blk_put (cs := #[.int .i64 0, .int .i64 0, .int .i64 0]) ?_ 0 _ rfl; (with_reducible repeat (first | refine blk_drewN ?_ _ | refine blk_drew ?_ | refine blk_alloc ?_ _)); exact BK496.out) hb); have n6_ := Aside0.mk (below_step (by repeat (first | (with_reducible first | exact HB.out | apply below_alloc | apply pw_below_drewN | apply below_drew1 | refine below_set ?_ GE482.out | refine below_set ?_ GE483.out | refine below_set ?_ GE492.out | refine below_set ?_ GE496.out) | exact HB.out)) hb); clear HO478; clear HO486; clear BK482; clear BK483; clear BK492; clear BK496; clear HB; have HO478 := n0_; have HO486 := n1_; have BK482 := n2_; have BK483 := n3_; have BK492 := n4_; have BK496 := n5_; have HB := n6_; clear n0_ n1_ n2_ n3_ n4_ n5_ n6_; (try clear hb); (try clear hb2); (try clear hk); (try clear hi); have hcz40_0 : w39.cell? ⟨gb482, 0, none⟩ = some (.slice Ao16 t476.length co16) := (blk_cell BK482.out 0).trans rfl; have hfz40_0 := blk_frozen BK482.out 0; have hcz41_0 : w39.cell? ⟨gb483, 0, none⟩ = some (.int .i64 t479) := (blk_cell BK483.out 0).trans rfl; have hcz41_1 : w39.cell? ⟨gb483, 1, none⟩ = some (.int .i64 t480) := (blk_cell BK483.out 1).trans rfl; have hcz41_2 : w39.cell? ⟨gb483, 2, none⟩ = some (.int .i64 t481) := (blk_cell BK483.out 2).trans rfl; have hfz41_0 := blk_frozen BK483.out 0; have hfz41_1 := blk_frozen BK483.out 1; have hfz41_2 := blk_frozen BK483.out 2) | ((with_reducible refine gate_callee (f := 38) rfl ?_); refine goesL_ (some 55) rfl rfl Try.func38 (by kernel_rfl) rfl #[.agg #[.slice Ao16 t476.length co16], .agg #[.int .i64 t479, .int .i64 t480, .int .i64 t481]] rfl (by (try simp only [List.map_toArray, List.map_cons, List.map_nil]); first | done | rfl | (simp only [List.length_drop, List.length_take]; rfl)) ?_; (with_reducible refine (spec_HandTime.calls k _ _ t476 t479 t480 t481 t499 t500 _ ?side1 ?side2 A11.out).mono ?_); (case side1 => repeat (first | exact (Kd.R_reads' HO478.out).2.2 | (with_reducible refine Kd.C_alloc ?_ _) | (with_reducible refine Kd.C_drewN ?_ _) | (with_reducible refine Kd.C_drew ?_))); (case side2 => exact (Kd.R_reads' HO478.out).2.1); rintro e w42 ⟨rfl, hb⟩; refine ⟨_, rfl, ?_⟩; have n0_ := Aside0.mk (Kd.R_below (by (with_reducible repeat (first | apply Kd.R_alloc | apply Kd.R_drewN | apply Kd.R_drew)); exact HO478.out) hb); have n1_ := Aside0.mk (Kd.R_below (by (with_reducible repeat (first | apply Kd.R_alloc | apply Kd.R_drewN | apply Kd.R_drew)); exact HO486.out) hb); have n2_ := Aside0.mk (blk_below (g := gb482) (o := .cells #[.slice Ao16 t476.length co16] 53 (0, 0)) (by (with_reducible repeat (first | refine blk_drewN ?_ _ | refine blk_drew ?_ | refine blk_alloc ?_ _)); exact BK482.out) hb); have n3_ := Aside0.mk (blk_below (g := gb483) (o := .cells #[.int .i64 t479, .int .i64 t480, .int .i64 t481] 39 (0, 0)) (by (with_reducible repeat (first | refine blk_drewN ?_ _ | refine blk_drew ?_ | refine blk_alloc ?_ _)); exact BK483.out) hb); have n4_ := Aside0.mk (blk_below (g := gb492) (o := .cells #[.int .i64 t489, .int .i64 t490, .int .i64 t491] 39 (0, 0)) (by (with_reducible repeat (first | refine blk_drewN ?_ _ | refine blk_drew ?_ | refine blk_alloc ?_ _)); exact BK492.out) hb); have n5_ := Aside0.mk (blk_below (g := gb496) (o := .cells #[.int .i64 t493, .int .i64 t494, .int .i64 t495] 39 (0, 0)) (by (with_reducible repeat (first | refine blk_drewN ?_ _ | refine blk_drew ?_ | refine blk_alloc ?_ _)); exact BK496.out) hb); have n6_ := Aside0.mk (below_step (by repeat (first | (with_reducible first | exact HB.out | apply below_alloc | apply pw_below_drewN | apply below_drew1 | refine below_set ?_ GE482.out | refine below_set ?_ GE483.out | refine below_set ?_ GE492.out | refine below_set ?_ GE496.out) | exact HB.out)) hb); clear HO478; clear HO486; clear BK482; clear BK483; clear BK492; clear BK496; clear HB; have HO478 := n0_; have HO486 := n1_; have BK482 := n2_; have BK483 := n3_; have BK492 := n4_; have BK496 := n5_; have HB := n6_; clear n0_ n1_ n2_ n3_ n4_ n5_ n6_; (try clear hb); (try clear hb2); (try clear hk); (try clear hi)))
    (try simp only [Act.put, List.setIfInBounds_toArray, List.set_cons_zero, List.set_cons_succ])
    go_cut [112] (fun v112 wc => ∃ (kq : Nat) (x112_11 : Bool), v112 = .bool x112_11 ∧ Aside0 (laws_FnElapses.j0 kq t497 t500 x112_11 t476 t479 t480 t481 = some r) ∧ Aside0 (kq ≤ k) ∧ Aside0 (Kd.R (Kd.int .i64) 3 wc w.heap.size (fun _ => True) (.slice Ao16 t476.length co16) t476) ∧ Aside0 (wc.heap[gb482]? = some (.cells #[(.slice Ao16 t476.length co16)] 53 (0, 0))) ∧ Aside0 (wc.heap[gb483]? = some (.cells #[.int .i64 t479, .int .i64 t480, .int .i64 t481] 39 (0, 0))) ∧ Aside0 (wc.heap[gb492]? = some (.cells #[.int .i64 t489, .int .i64 t490, .int .i64 t491] 39 (0, 0))) ∧ Aside0 (wc.heap[gb496]? = some (.cells #[.int .i64 t493, .int .i64 t494, .int .i64 t495] 39 (0, 0))) ∧ Aside0 (Below w.heap.size w wc))
    case first =>
     have H := HC12.out
     clear HC12
     replace H := Option.bind_eq_some_iff.mp H
     obtain ⟨⟨t501, t502, t503⟩, A430, H⟩ := H
     replace H : (if (!(t489 == t501) || (!(t490 == t502) || (!(t491 == t503)))) = true then (laws_FnElapses.j0 k t497 t500 true t476 t479 t480 t481) else ((impl_Elapse.f k t476 t479 t480 t481 (wrap64 ((wrap64 (t480 + (Int.tmod (rd t484 0) 40))) + (Int.tmod (rd t484 1) 40)))).bind fun bt504 => (if (!(t493 == bt504.1) || (!(t494 == bt504.2.1) || (!(t495 == bt504.2.2)))) = true then (laws_FnElapses.j0 k t497 t500 true t476 t479 t480 t481) else (if t489 < t479 then (laws_FnElapses.j0 k t497 t500 true t476 t479 t480 t481) else (if t493 < t489 then (laws_FnElapses.j0 k t497 t500 true t476 t479 t480 t481) else (if t491 = t481 then ((impl_ScreenOk.f t489 t490 t491).bind fun t507 => (if t507 = true then ((impl_PolicyOk.f t476).bind fun t508 => (if t508 = true then (if (t498 != t500) = true then (laws_FnElapses.j0 k t497 t500 true t476 t479 t480 t481) else (laws_FnElapses.j0 k t497 t500 (t497 != t499) t476 t479 t480 t481)) else (laws_FnElapses.j0 k t497 t500 true t476 t479 t480 t481))) else (laws_FnElapses.j0 k t497 t500 true t476 t479 t480 t481))) else (laws_FnElapses.j0 k t497 t500 true t476 t479 t480 t481))))))) = some r := H
     have A43 := Aside0.mk A430
     clear A430
     by_cases c44 : (!(t489 == t501) || (!(t490 == t502) || (!(t491 == t503)))) = true
     ·rw [if_pos c44] at H
      have c44b0 : (!(t489 == t501) || (!(t490 == t502) || (!(t491 == t503)))) = true := c44
      clear c44
      (first | rw [c44b0] | (simp only [i64_w, i32_w]; rw [c44b0]) | skip)
      exact absurd (H.trans (congrArg some hrt.out)) (by cases k <;> simp [laws_FnElapses.j0])
     ·rw [if_neg c44] at H
      have c44b0 : (!(t489 == t501) || (!(t490 == t502) || (!(t491 == t503)))) = false := by simpa using c44
      clear c44
      (first | rw [c44b0] | (simp only [i64_w, i32_w]; rw [c44b0]) | skip)
      replace H := Option.bind_eq_some_iff.mp H
      obtain ⟨⟨t504, t505, t506⟩, A450, H⟩ := H
      replace H : (if (!(t493 == t504) || (!(t494 == t505) || (!(t495 == t506)))) = true then (laws_FnElapses.j0 k t497 t500 true t476 t479 t480 t481) else (if t489 < t479 then (laws_FnElapses.j0 k t497 t500 true t476 t479 t480 t481) else (if t493 < t489 then (laws_FnElapses.j0 k t497 t500 true t476 t479 t480 t481) else (if t491 = t481 then ((impl_ScreenOk.f t489 t490 t491).bind fun t507 => (if t507 = true then ((impl_PolicyOk.f t476).bind fun t508 => (if t508 = true then (if (t498 != t500) = true then (laws_FnElapses.j0 k t497 t500 true t476 t479 t480 t481) else (laws_FnElapses.j0 k t497 t500 (t497 != t499) t476 t479 t480 t481)) else (laws_FnElapses.j0 k t497 t500 true t476 t479 t480 t481))) else (laws_FnElapses.j0 k t497 t500 true t476 t479 t480 t481))) else (laws_FnElapses.j0 k t497 t500 true t476 t479 t480 t481))))) = some r := H
      have A45 := Aside0.mk A450
      clear A450
      by_cases c46 : (!(t493 == t504) || (!(t494 == t505) || (!(t495 == t506)))) = true
      ·rw [if_pos c46] at H
       have c46b0 : (!(t493 == t504) || (!(t494 == t505) || (!(t495 == t506)))) = true := c46
       clear c46
       exact absurd (H.trans (congrArg some hrt.out)) (by cases k <;> simp [laws_FnElapses.j0])
      ·rw [if_neg c46] at H
       have c46b0 : (!(t493 == t504) || (!(t494 == t505) || (!(t495 == t506)))) = false := by simpa using c46
       clear c46
       by_cases c47 : t489 < t479
       ·rw [if_pos c47] at H
        have c47b0 : decide (t489 < t479) = true := decide_eq_true c47
        clear c47
        exact absurd (H.trans (congrArg some hrt.out)) (by cases k <;> simp [laws_FnElapses.j0])
       ·rw [if_neg c47] at H
        have c47b0 : decide (t489 < t479) = false := decide_eq_false c47
        clear c47
        by_cases c48 : t493 < t489
        ·rw [if_pos c48] at H
         have c48b0 : decide (t493 < t489) = true := decide_eq_true c48
         clear c48
         exact absurd (H.trans (congrArg some hrt.out)) (by cases k <;> simp [laws_FnElapses.j0])
        ·rw [if_neg c48] at H
         have c48b0 : decide (t493 < t489) = false := decide_eq_false c48
         clear c48
         by_cases c49 : t491 = t481
         ·rw [if_pos c49] at H
          have c49b0 : (t491 == t481) = true := beq_iff_eq.mpr c49
          have c49b1 : (t491 != t481) = false := bne_eq_false_iff_eq.mpr c49
          clear c49
          replace H := Option.bind_eq_some_iff.mp H
          obtain ⟨t507, A500, H⟩ := H
          replace H : (if t507 = true then ((impl_PolicyOk.f t476).bind fun t508 => (if t508 = true then (if (t498 != t500) = true then (laws_FnElapses.j0 k t497 t500 true t476 t479 t480 t481) else (laws_FnElapses.j0 k t497 t500 (t497 != t499) t476 t479 t480 t481)) else (laws_FnElapses.j0 k t497 t500 true t476 t479 t480 t481))) else (laws_FnElapses.j0 k t497 t500 true t476 t479 t480 t481)) = some r := H
          have A50 := Aside0.mk A500
          clear A500
          by_cases c51 : t507 = true
          ·subst c51
           have H1 : ((impl_PolicyOk.f t476).bind fun t508 => (if t508 = true then (if (t498 != t500) = true then (laws_FnElapses.j0 k t497 t500 true t476 t479 t480 t481) else (laws_FnElapses.j0 k t497 t500 (t497 != t499) t476 t479 t480 t481)) else (laws_FnElapses.j0 k t497 t500 true t476 t479 t480 t481))) = some r := by rw [if_pos rfl] at H; exact H
           clear H
           have H := H1
           clear H1
           replace H := Option.bind_eq_some_iff.mp H
           obtain ⟨t508, A520, H⟩ := H
           replace H : (if t508 = true then (if (t498 != t500) = true then (laws_FnElapses.j0 k t497 t500 true t476 t479 t480 t481) else (laws_FnElapses.j0 k t497 t500 (t497 != t499) t476 t479 t480 t481)) else (laws_FnElapses.j0 k t497 t500 true t476 t479 t480 t481)) = some r := H
           have A52 := Aside0.mk A520
           clear A520
           by_cases c53 : t508 = true
           ·subst c53
            have H1 : (if (t498 != t500) = true then (laws_FnElapses.j0 k t497 t500 true t476 t479 t480 t481) else (laws_FnElapses.j0 k t497 t500 (t497 != t499) t476 t479 t480 t481)) = some r := by rw [if_pos rfl] at H; exact H
            clear H
            have H := H1
            clear H1
            by_cases c54 : (t498 != t500) = true
            ·rw [if_pos c54] at H
             have c54b0 : (t498 != t500) = true := c54
             (try (have c54b1 : decide (t498 = t500) = false := by simpa using c54))
             (try (have c54b2 : (t498 == t500) = false := by simpa using c54))
             (try (have c54b3 : ¬ (t498 = t500) := by simpa using c54))
             clear c54
             exact absurd (H.trans (congrArg some hrt.out)) (by cases k <;> simp [laws_FnElapses.j0])
            ·rw [if_neg c54] at H
             have c54b0 : (t498 != t500) = false := by simpa using c54
             (try (have c54b1 : decide (t498 = t500) = true := by simpa using c54))
             (try (have c54b2 : (t498 == t500) = true := by simpa using c54))
             clear c54
             have H' := Aside0.mk H
             clear H
             try go_wp2
             have n0_ := Aside0.mk (Kd.R_drew HO478.out)
             have n1_ := Aside0.mk (Kd.R_drew HO486.out)
             have n2_ := Aside0.mk (blk_drew BK482.out)
             have n3_ := Aside0.mk (blk_drew BK483.out)
             have n4_ := Aside0.mk (blk_drew BK492.out)
             have n5_ := Aside0.mk (blk_drew BK496.out)
             have n6_ := Aside0.mk (below_drew1 HB.out)
             clear HO478
             clear HO486
             clear BK482
             clear BK483
             clear BK492
             clear BK496
             clear HB
             have HO478 := n0_
             have HO486 := n1_
             have BK482 := n2_
             have BK483 := n3_
             have BK492 := n4_
             have BK496 := n5_
             have HB := n6_
             clear n0_ n1_ n2_ n3_ n4_ n5_ n6_
             refine start_ (n := 55) (S := fun w' => w'.cell? ⟨gb492, 0, none⟩ = some (.int .i64 t489) ∧ w'.cell? ⟨gb492, 1, none⟩ = some (.int .i64 t490) ∧ w'.cell? ⟨gb492, 2, none⟩ = some (.int .i64 t491) ∧ w'.cell? ⟨gb482, 0, none⟩ = some (.slice Ao16 t476.length co16) ∧ w'.cell? ⟨gb483, 0, none⟩ = some (.int .i64 t479) ∧ w'.cell? ⟨gb483, 1, none⟩ = some (.int .i64 t480) ∧ w'.cell? ⟨gb483, 2, none⟩ = some (.int .i64 t481) ∧ w'.cell? ⟨gb496, 0, none⟩ = some (.int .i64 t493) ∧ w'.cell? ⟨gb496, 1, none⟩ = some (.int .i64 t494) ∧ w'.cell? ⟨gb496, 2, none⟩ = some (.int .i64 t495)) (ds := []) #[false, false, false, false, false, false, false, false, false, false, false, false, false, false, false, false, false, false, false, false, false, false, false, false, false, false, false, false, false, false, false, false, false, false, false, false, false, false, false, false, false, false, false, false, false, false, false, false, false, false, false, false, false, false, false] (by kernel_rfl) rfl rfl ⟨(blk_cell BK492.out 0).trans rfl, (blk_cell BK492.out 1).trans rfl, (blk_cell BK492.out 2).trans rfl, (blk_cell BK482.out 0).trans rfl, (blk_cell BK483.out 0).trans rfl, (blk_cell BK483.out 1).trans rfl, (blk_cell BK483.out 2).trans rfl, (blk_cell BK496.out 0).trans rfl, (blk_cell BK496.out 1).trans rfl, (blk_cell BK496.out 2).trans rfl⟩ (fun hHeld => ?_); refine with_tabW laws_FnElapses.tab11 laws_FnElapses.bits11 (fun HT_ HW_ => ?_)
             generalize w42.drew = w55 at HO478 HO486 BK482 BK483 BK492 BK496 HB hHeld ⊢
             refine pure_ (i := 3) (N := some 61) (v := ?_) (a' := ?_) #[false, false, false, true, false, false, false, false, false, false, false, false, false, false, false, false, false, false, false, false, false, false, false, false, false, false, false, false, false, false, false, false, false, false, false, false, false, false, false, false, false, false, false, false, false, false, false, false, false, false, false, false, false, false, false] rfl rfl (any_of HT_.out (by kernel_rfl)) (fun _ _ _ h => h) (Or.inl ⟨by rfl, ?_⟩) ?_ ?_
             rotate_left
             ·intro w'
              go_simp
              with_reducible rfl
             rotate_left
             ·simp only [Act.put, List.setIfInBounds_toArray, List.set_cons_zero, List.set_cons_succ, i64_w, i32_w]
              rfl
             refine take_ (i := 0) (N := some 58) (v := ?_) (a' := ?_) #[true, false, false, true, false, false, false, false, false, false, false, false, false, false, false, false, false, false, false, false, false, false, false, false, false, false, false, false, false, false, false, false, false, false, false, false, false, false, false, false, false, false, false, false, false, false, false, false, false, false, false, false, false, false, false] rfl rfl (take_ofW HT_.out HW_.out (by kernel_rfl)) (fun _ _ _ h => h) (Or.inl ⟨by rfl, ?_⟩) hHeld ?_ ?_
             rotate_left
             ·rintro w' ⟨s0, s1, s2, s3, s4, s5, s6, s7, s8, s9⟩
              go_simp
              with_reducible rfl
             rotate_left
             ·simp only [Act.put, List.setIfInBounds_toArray, List.set_cons_zero, List.set_cons_succ, i64_w, i32_w]
              rfl
             refine take_ (i := 1) (N := some 59) (v := ?_) (a' := ?_) #[true, true, false, true, false, false, false, false, false, false, false, false, false, false, false, false, false, false, false, false, false, false, false, false, false, false, false, false, false, false, false, false, false, false, false, false, false, false, false, false, false, false, false, false, false, false, false, false, false, false, false, false, false, false, false] rfl rfl (take_ofW HT_.out HW_.out (by kernel_rfl)) (fun _ _ _ h => h) (Or.inl ⟨by rfl, ?_⟩) hHeld ?_ ?_
             rotate_left
             ·rintro w' ⟨s0, s1, s2, s3, s4, s5, s6, s7, s8, s9⟩
              go_simp
              with_reducible rfl
             rotate_left
             ·simp only [Act.put, List.setIfInBounds_toArray, List.set_cons_zero, List.set_cons_succ, i64_w, i32_w]
              rfl
             refine take_ (i := 2) (N := some 60) (v := ?_) (a' := ?_) #[true, true, true, true, false, false, false, false, false, false, false, false, false, false, false, false, false, false, false, false, false, false, false, false, false, false, false, false, false, false, false, false, false, false, false, false, false, false, false, false, false, false, false, false, false, false, false, false, false, false, false, false, false, false, false] rfl rfl (take_ofW HT_.out HW_.out (by kernel_rfl)) (fun _ _ _ h => h) (Or.inl ⟨by rfl, ?_⟩) hHeld ?_ ?_
             rotate_left
             ·rintro w' ⟨s0, s1, s2, s3, s4, s5, s6, s7, s8, s9⟩
              go_simp
              with_reducible rfl
             rotate_left
             ·simp only [Act.put, List.setIfInBounds_toArray, List.set_cons_zero, List.set_cons_succ, i64_w, i32_w]
              rfl
             refine one_ (i := 4) (N := some 62) #[true, true, true, true, true, false, false, false, false, false, false, false, false, false, false, false, false, false, false, false, false, false, false, false, false, false, false, false, false, false, false, false, false, false, false, false, false, false, false, false, false, false, false, false, false, false, false, false, false, false, false, false, false, false, false] rfl rfl (one_of HT_.out (by kernel_rfl)) (by decide) (fun K hK => ?_)
             refine goes_ Try.func35 (by kernel_rfl) rfl #[.agg #[.slice Ao16 t476.length co16], .agg #[.int .i64 t479, .int .i64 t480, .int .i64 t481], .int .i64 (wrap64 (t480 + (Int.tmod (rd t484 0) 40)))] (by rfl) rfl rfl (by (try simp only [List.map_toArray, List.map_cons, List.map_nil]); first | done | rfl | (simp only [List.length_drop, List.length_take]; rfl)) ?_
             with_reducible refine (spec_Elapse.calls k _ _ t476 t479 t480 t481 (wrap64 (t480 + (Int.tmod (rd t484 0) 40))) t501 t502 t503 _ ?side1 ?side2 A43.out).mono ?_
             (case side1 => repeat (first | exact (Kd.R_reads' HO478.out).2.2 | (with_reducible refine Kd.C_alloc ?_ _) | (with_reducible refine Kd.C_drewN ?_ _) | (with_reducible refine Kd.C_drew ?_)))
             (case side2 => exact (Kd.R_reads' HO478.out).2.1)
             rintro e w56 ⟨rfl, hb⟩
             refine ⟨_, rfl, ?_⟩
             have n0_ := Aside0.mk (Kd.R_below (by (with_reducible repeat (first | apply Kd.R_alloc | apply Kd.R_drewN | apply Kd.R_drew)); exact HO478.out) hb)
             have n1_ := Aside0.mk (Kd.R_below (by (with_reducible repeat (first | apply Kd.R_alloc | apply Kd.R_drewN | apply Kd.R_drew)); exact HO486.out) hb)
             have n2_ := Aside0.mk (blk_below (g := gb482) (o := .cells #[.slice Ao16 t476.length co16] 53 (0, 0)) (by (with_reducible repeat (first | refine blk_drewN ?_ _ | refine blk_drew ?_ | refine blk_alloc ?_ _)); exact BK482.out) hb)
             have n3_ := Aside0.mk (blk_below (g := gb483) (o := .cells #[.int .i64 t479, .int .i64 t480, .int .i64 t481] 39 (0, 0)) (by (with_reducible repeat (first | refine blk_drewN ?_ _ | refine blk_drew ?_ | refine blk_alloc ?_ _)); exact BK483.out) hb)
             have n4_ := Aside0.mk (blk_below (g := gb492) (o := .cells #[.int .i64 t489, .int .i64 t490, .int .i64 t491] 39 (0, 0)) (by (with_reducible repeat (first | refine blk_drewN ?_ _ | refine blk_drew ?_ | refine blk_alloc ?_ _)); exact BK492.out) hb)
             have n5_ := Aside0.mk (blk_below (g := gb496) (o := .cells #[.int .i64 t493, .int .i64 t494, .int .i64 t495] 39 (0, 0)) (by (with_reducible repeat (first | refine blk_drewN ?_ _ | refine blk_drew ?_ | refine blk_alloc ?_ _)); exact BK496.out) hb)
             have n6_ := Aside0.mk (below_step (by repeat (first | (with_reducible first | exact HB.out | apply below_alloc | apply pw_below_drewN | apply below_drew1 | refine below_set ?_ GE482.out | refine below_set ?_ GE483.out | refine below_set ?_ GE492.out | refine below_set ?_ GE496.out) | exact HB.out)) hb)
             clear HO478
             clear HO486
             clear BK482
             clear BK483
             clear BK492
             clear BK496
             clear HB
             have HO478 := n0_
             have HO486 := n1_
             have BK482 := n2_
             have BK483 := n3_
             have BK492 := n4_
             have BK496 := n5_
             have HB := n6_
             clear n0_ n1_ n2_ n3_ n4_ n5_ n6_
             (try clear hb)
             (try clear hb2)
             (try clear hk)
             (try clear hi)
             refine hK.out _ _ ⟨(blk_cell BK492.out 0).trans rfl, (blk_cell BK492.out 1).trans rfl, (blk_cell BK492.out 2).trans rfl, (blk_cell BK482.out 0).trans rfl, (blk_cell BK483.out 0).trans rfl, (blk_cell BK483.out 1).trans rfl, (blk_cell BK483.out 2).trans rfl, (blk_cell BK496.out 0).trans rfl, (blk_cell BK496.out 1).trans rfl, (blk_cell BK496.out 2).trans rfl⟩ (fun hHeld => ?_)
             clear hK K
             refine norm_ (a' := ?_) ?_ ?_
             rotate_left
             ·show Act.put _ (some 62) _ = _
              simp only [Act.put, List.setIfInBounds_toArray, List.set_cons_zero, List.set_cons_succ, i64_w, i32_w]
              rfl
             refine pure_ (i := 5) (N := some 63) (v := ?_) (a' := ?_) #[true, true, true, true, true, true, false, false, false, false, false, false, false, false, false, false, false, false, false, false, false, false, false, false, false, false, false, false, false, false, false, false, false, false, false, false, false, false, false, false, false, false, false, false, false, false, false, false, false, false, false, false, false, false, false] rfl rfl (any_of HT_.out (by kernel_rfl)) (fun _ _ _ h => h) (Or.inl ⟨by rfl, ?_⟩) ?_ ?_
             rotate_left
             ·intro w'
              go_simp
              with_reducible rfl
             rotate_left
             ·simp only [Act.put, List.setIfInBounds_toArray, List.set_cons_zero, List.set_cons_succ, i64_w, i32_w]
              rfl
             refine pure_ (i := 6) (N := some 64) (v := ?_) (a' := ?_) #[true, true, true, true, true, true, true, false, false, false, false, false, false, false, false, false, false, false, false, false, false, false, false, false, false, false, false, false, false, false, false, false, false, false, false, false, false, false, false, false, false, false, false, false, false, false, false, false, false, false, false, false, false, false, false] rfl rfl (any_of HT_.out (by kernel_rfl)) (fun _ _ _ h => h) (Or.inl ⟨by rfl, ?_⟩) ?_ ?_
             rotate_left
             ·intro w'
              go_simp
              with_reducible rfl
             rotate_left
             ·simp only [Act.put, List.setIfInBounds_toArray, List.set_cons_zero, List.set_cons_succ, i64_w, i32_w]
              rfl
             refine pure_ (i := 10) (N := some 68) (v := ?_) (a' := ?_) #[true, true, true, true, true, true, true, false, false, false, true, false, false, false, false, false, false, false, false, false, false, false, false, false, false, false, false, false, false, false, false, false, false, false, false, false, false, false, false, false, false, false, false, false, false, false, false, false, false, false, false, false, false, false, false] rfl rfl (any_of HT_.out (by kernel_rfl)) (fun _ _ _ h => h) (Or.inl ⟨by rfl, ?_⟩) ?_ ?_
             rotate_left
             ·intro w'
              go_simp
              with_reducible rfl
             rotate_left
             ·simp only [Act.put, List.setIfInBounds_toArray, List.set_cons_zero, List.set_cons_succ, i64_w, i32_w]
              rfl
             refine take_ (i := 7) (N := some 65) (v := ?_) (a' := ?_) #[true, true, true, true, true, true, true, true, false, false, true, false, false, false, false, false, false, false, false, false, false, false, false, false, false, false, false, false, false, false, false, false, false, false, false, false, false, false, false, false, false, false, false, false, false, false, false, false, false, false, false, false, false, false, false] rfl rfl (take_ofW HT_.out HW_.out (by kernel_rfl)) (fun _ _ _ h => h) (Or.inl ⟨by rfl, ?_⟩) hHeld ?_ ?_
             rotate_left
             ·rintro w' ⟨s0, s1, s2, s3, s4, s5, s6, s7, s8, s9⟩
              go_simp
              with_reducible rfl
             rotate_left
             ·simp only [Act.put, List.setIfInBounds_toArray, List.set_cons_zero, List.set_cons_succ, i64_w, i32_w]
              rfl
             refine take_ (i := 8) (N := some 66) (v := ?_) (a' := ?_) #[true, true, true, true, true, true, true, true, true, false, true, false, false, false, false, false, false, false, false, false, false, false, false, false, false, false, false, false, false, false, false, false, false, false, false, false, false, false, false, false, false, false, false, false, false, false, false, false, false, false, false, false, false, false, false] rfl rfl (take_ofW HT_.out HW_.out (by kernel_rfl)) (fun _ _ _ h => h) (Or.inl ⟨by rfl, ?_⟩) hHeld ?_ ?_
             rotate_left
             ·rintro w' ⟨s0, s1, s2, s3, s4, s5, s6, s7, s8, s9⟩
              go_simp
              with_reducible rfl
             rotate_left
             ·simp only [Act.put, List.setIfInBounds_toArray, List.set_cons_zero, List.set_cons_succ, i64_w, i32_w]
              rfl
             refine take_ (i := 9) (N := some 67) (v := ?_) (a' := ?_) #[true, true, true, true, true, true, true, true, true, true, true, false, false, false, false, false, false, false, false, false, false, false, false, false, false, false, false, false, false, false, false, false, false, false, false, false, false, false, false, false, false, false, false, false, false, false, false, false, false, false, false, false, false, false, false] rfl rfl (take_ofW HT_.out HW_.out (by kernel_rfl)) (fun _ _ _ h => h) (Or.inl ⟨by rfl, ?_⟩) hHeld ?_ ?_
             rotate_left
             ·rintro w' ⟨s0, s1, s2, s3, s4, s5, s6, s7, s8, s9⟩
              go_simp
              with_reducible rfl
             rotate_left
             ·simp only [Act.put, List.setIfInBounds_toArray, List.set_cons_zero, List.set_cons_succ, i64_w, i32_w]
              rfl
             refine one_ (i := 11) (N := some 69) #[true, true, true, true, true, true, true, true, true, true, true, true, false, false, false, false, false, false, false, false, false, false, false, false, false, false, false, false, false, false, false, false, false, false, false, false, false, false, false, false, false, false, false, false, false, false, false, false, false, false, false, false, false, false, false] rfl rfl (one_of HT_.out (by kernel_rfl)) (by decide) (fun K hK => ?_)
             refine goes_ Try.func36 (by kernel_rfl) rfl #[.agg #[.slice Ao16 t476.length co16], .agg #[.int .i64 t479, .int .i64 t480, .int .i64 t481], .int .i64 (wrap64 ((wrap64 (t480 + (Int.tmod (rd t484 0) 40))) + (Int.tmod (rd t484 1) 40)))] (by rfl) rfl rfl (by (try simp only [List.map_toArray, List.map_cons, List.map_nil]); first | done | rfl | (simp only [List.length_drop, List.length_take]; rfl)) ?_
             with_reducible refine (impl_Elapse.calls k _ _ t476 t479 t480 t481 (wrap64 ((wrap64 (t480 + (Int.tmod (rd t484 0) 40))) + (Int.tmod (rd t484 1) 40))) t504 t505 t506 _ ?side1 ?side2 A45.out).mono ?_
             (case side1 => repeat (first | exact (Kd.R_reads' HO478.out).2.2 | (with_reducible refine Kd.C_alloc ?_ _) | (with_reducible refine Kd.C_drewN ?_ _) | (with_reducible refine Kd.C_drew ?_)))
             (case side2 => exact (Kd.R_reads' HO478.out).2.1)
             rintro e w57 ⟨rfl, hb⟩
             refine ⟨_, rfl, ?_⟩
             have n0_ := Aside0.mk (Kd.R_below (by (with_reducible repeat (first | apply Kd.R_alloc | apply Kd.R_drewN | apply Kd.R_drew)); exact HO478.out) hb)
             have n1_ := Aside0.mk (Kd.R_below (by (with_reducible repeat (first | apply Kd.R_alloc | apply Kd.R_drewN | apply Kd.R_drew)); exact HO486.out) hb)
             have n2_ := Aside0.mk (blk_below (g := gb482) (o := .cells #[.slice Ao16 t476.length co16] 53 (0, 0)) (by (with_reducible repeat (first | refine blk_drewN ?_ _ | refine blk_drew ?_ | refine blk_alloc ?_ _)); exact BK482.out) hb)
             have n3_ := Aside0.mk (blk_below (g := gb483) (o := .cells #[.int .i64 t479, .int .i64 t480, .int .i64 t481] 39 (0, 0)) (by (with_reducible repeat (first | refine blk_drewN ?_ _ | refine blk_drew ?_ | refine blk_alloc ?_ _)); exact BK483.out) hb)
             have n4_ := Aside0.mk (blk_below (g := gb492) (o := .cells #[.int .i64 t489, .int .i64 t490, .int .i64 t491] 39 (0, 0)) (by (with_reducible repeat (first | refine blk_drewN ?_ _ | refine blk_drew ?_ | refine blk_alloc ?_ _)); exact BK492.out) hb)
             have n5_ := Aside0.mk (blk_below (g := gb496) (o := .cells #[.int .i64 t493, .int .i64 t494, .int .i64 t495] 39 (0, 0)) (by (with_reducible repeat (first | refine blk_drewN ?_ _ | refine blk_drew ?_ | refine blk_alloc ?_ _)); exact BK496.out) hb)
             have n6_ := Aside0.mk (below_step (by repeat (first | (with_reducible first | exact HB.out | apply below_alloc | apply pw_below_drewN | apply below_drew1 | refine below_set ?_ GE482.out | refine below_set ?_ GE483.out | refine below_set ?_ GE492.out | refine below_set ?_ GE496.out) | exact HB.out)) hb)
             clear HO478
             clear HO486
             clear BK482
             clear BK483
             clear BK492
             clear BK496
             clear HB
             have HO478 := n0_
             have HO486 := n1_
             have BK482 := n2_
             have BK483 := n3_
             have BK492 := n4_
             have BK496 := n5_
             have HB := n6_
             clear n0_ n1_ n2_ n3_ n4_ n5_ n6_
             (try clear hb)
             (try clear hb2)
             (try clear hk)
             (try clear hi)
             refine hK.out _ _ ⟨(blk_cell BK492.out 0).trans rfl, (blk_cell BK492.out 1).trans rfl, (blk_cell BK492.out 2).trans rfl, (blk_cell BK482.out 0).trans rfl, (blk_cell BK483.out 0).trans rfl, (blk_cell BK483.out 1).trans rfl, (blk_cell BK483.out 2).trans rfl, (blk_cell BK496.out 0).trans rfl, (blk_cell BK496.out 1).trans rfl, (blk_cell BK496.out 2).trans rfl⟩ (fun hHeld => ?_)
             clear hK K
             refine norm_ (a' := ?_) ?_ ?_
             rotate_left
             ·show Act.put _ (some 69) _ = _
              simp only [Act.put, List.setIfInBounds_toArray, List.set_cons_zero, List.set_cons_succ, i64_w, i32_w]
              rfl
             refine pure_ (i := 12) (N := some 70) (v := ?_) (a' := ?_) #[true, true, true, true, true, true, true, true, true, true, true, true, true, false, false, false, false, false, false, false, false, false, false, false, false, false, false, false, false, false, false, false, false, false, false, false, false, false, false, false, false, false, false, false, false, false, false, false, false, false, false, false, false, false, false] rfl rfl (any_of HT_.out (by kernel_rfl)) (fun _ _ _ h => h) (Or.inl ⟨by rfl, ?_⟩) ?_ ?_
             rotate_left
             ·intro w'
              go_simp
              with_reducible rfl
             rotate_left
             ·simp only [Act.put, List.setIfInBounds_toArray, List.set_cons_zero, List.set_cons_succ, i64_w, i32_w]
              rfl
             refine pure_ (i := 13) (N := some 71) (v := ?_) (a' := ?_) #[true, true, true, true, true, true, true, true, true, true, true, true, true, true, false, false, false, false, false, false, false, false, false, false, false, false, false, false, false, false, false, false, false, false, false, false, false, false, false, false, false, false, false, false, false, false, false, false, false, false, false, false, false, false, false] rfl rfl (any_of HT_.out (by kernel_rfl)) (fun _ _ _ h => h) (Or.inl ⟨by rfl, ?_⟩) ?_ ?_
             rotate_left
             ·intro w'
              go_simp
              with_reducible rfl
             rotate_left
             ·simp only [Act.put, List.setIfInBounds_toArray, List.set_cons_zero, List.set_cons_succ, i64_w, i32_w]
              rfl
             refine pure_ (i := 14) (N := some 72) (v := ?_) (a' := ?_) #[true, true, true, true, true, true, true, true, true, true, true, true, true, true, true, false, false, false, false, false, false, false, false, false, false, false, false, false, false, false, false, false, false, false, false, false, false, false, false, false, false, false, false, false, false, false, false, false, false, false, false, false, false, false, false] rfl rfl (any_of HT_.out (by kernel_rfl)) (fun _ _ _ h => h) (Or.inl ⟨by rfl, ?_⟩) ?_ ?_
             rotate_left
             ·intro w'
              go_simp
              with_reducible rfl
             rotate_left
             ·simp only [Act.put, List.setIfInBounds_toArray, List.set_cons_zero, List.set_cons_succ, i64_w, i32_w]
              rfl
             refine pure_ (i := 15) (N := some 73) (v := ?_) (a' := ?_) #[true, true, true, true, true, true, true, true, true, true, true, true, true, true, true, true, false, false, false, false, false, false, false, false, false, false, false, false, false, false, false, false, false, false, false, false, false, false, false, false, false, false, false, false, false, false, false, false, false, false, false, false, false, false, false] rfl rfl (any_of HT_.out (by kernel_rfl)) (fun _ _ _ h => h) (Or.inl ⟨by rfl, ?_⟩) ?_ ?_
             rotate_left
             ·intro w'
              go_simp
              with_reducible rfl
             rotate_left
             ·simp only [Act.put, List.setIfInBounds_toArray, List.set_cons_zero, List.set_cons_succ, i64_w, i32_w]
              rfl
             refine pure_ (i := 17) (N := some 75) (v := ?_) (a' := ?_) #[true, true, true, true, true, true, true, true, true, true, true, true, true, true, true, true, false, true, false, false, false, false, false, false, false, false, false, false, false, false, false, false, false, false, false, false, false, false, false, false, false, false, false, false, false, false, false, false, false, false, false, false, false, false, false] rfl rfl (any_of HT_.out (by kernel_rfl)) (fun _ _ _ h => h) (Or.inl ⟨by rfl, ?_⟩) ?_ ?_
             rotate_left
             ·intro w'
              go_simp
              with_reducible rfl
             rotate_left
             ·simp only [Act.put, List.setIfInBounds_toArray, List.set_cons_zero, List.set_cons_succ, i64_w, i32_w]
              rfl
             refine take_ (i := 16) (N := some 74) (v := ?_) (a' := ?_) #[true, true, true, true, true, true, true, true, true, true, true, true, true, true, true, true, true, true, false, false, false, false, false, false, false, false, false, false, false, false, false, false, false, false, false, false, false, false, false, false, false, false, false, false, false, false, false, false, false, false, false, false, false, false, false] rfl rfl (take_ofW HT_.out HW_.out (by kernel_rfl)) (fun _ _ _ h => h) (Or.inl ⟨by rfl, ?_⟩) hHeld ?_ ?_
             rotate_left
             ·rintro w' ⟨s0, s1, s2, s3, s4, s5, s6, s7, s8, s9⟩
              go_simp
              with_reducible rfl
             rotate_left
             ·simp only [Act.put, List.setIfInBounds_toArray, List.set_cons_zero, List.set_cons_succ, i64_w, i32_w]
              rfl
             refine take_ (i := 18) (N := some 76) (v := ?_) (a' := ?_) #[true, true, true, true, true, true, true, true, true, true, true, true, true, true, true, true, true, true, true, false, false, false, false, false, false, false, false, false, false, false, false, false, false, false, false, false, false, false, false, false, false, false, false, false, false, false, false, false, false, false, false, false, false, false, false] rfl rfl (take_ofW HT_.out HW_.out (by kernel_rfl)) (fun _ _ _ h => h) (Or.inl ⟨by rfl, ?_⟩) hHeld ?_ ?_
             rotate_left
             ·rintro w' ⟨s0, s1, s2, s3, s4, s5, s6, s7, s8, s9⟩
              go_simp
              with_reducible rfl
             rotate_left
             ·simp only [Act.put, List.setIfInBounds_toArray, List.set_cons_zero, List.set_cons_succ, i64_w, i32_w]
              rfl
             refine pure_ (i := 19) (N := some 77) (v := ?_) (a' := ?_) #[true, true, true, true, true, true, true, true, true, true, true, true, true, true, true, true, true, true, true, true, false, false, false, false, false, false, false, false, false, false, false, false, false, false, false, false, false, false, false, false, false, false, false, false, false, false, false, false, false, false, false, false, false, false, false] rfl rfl (any_of HT_.out (by kernel_rfl)) (fun _ _ _ h => h) (Or.inl ⟨by rfl, ?_⟩) ?_ ?_
             rotate_left
             ·intro w'
              go_simp
              with_reducible rfl
             rotate_left
             ·simp only [Act.put, List.setIfInBounds_toArray, List.set_cons_zero, List.set_cons_succ, i64_w, i32_w]
              rfl
             refine pure_ (i := 20) (N := some 78) (v := ?_) (a' := ?_) #[true, true, true, true, true, true, true, true, true, true, true, true, true, true, true, true, true, true, true, true, true, false, false, false, false, false, false, false, false, false, false, false, false, false, false, false, false, false, false, false, false, false, false, false, false, false, false, false, false, false, false, false, false, false, false] rfl rfl (any_of HT_.out (by kernel_rfl)) (fun _ _ _ h => h) (Or.inl ⟨by rfl, ?_⟩) ?_ ?_
             rotate_left
             ·intro w'
              go_simp
              with_reducible rfl
             rotate_left
             ·simp only [Act.put, List.setIfInBounds_toArray, List.set_cons_zero, List.set_cons_succ, i64_w, i32_w]
              rfl
             refine pure_ (i := 21) (N := some 79) (v := ?_) (a' := ?_) #[true, true, true, true, true, true, true, true, true, true, true, true, true, true, true, true, true, true, true, true, true, true, false, false, false, false, false, false, false, false, false, false, false, false, false, false, false, false, false, false, false, false, false, false, false, false, false, false, false, false, false, false, false, false, false] rfl rfl (any_of HT_.out (by kernel_rfl)) (fun _ _ _ h => h) (Or.inl ⟨by rfl, ?_⟩) ?_ ?_
             rotate_left
             ·intro w'
              go_simp
              with_reducible rfl
             rotate_left
             ·simp only [Act.put, List.setIfInBounds_toArray, List.set_cons_zero, List.set_cons_succ, i64_w, i32_w]
              rfl
             refine pure_ (i := 22) (N := some 80) (v := ?_) (a' := ?_) #[true, true, true, true, true, true, true, true, true, true, true, true, true, true, true, true, true, true, true, true, true, true, true, false, false, false, false, false, false, false, false, false, false, false, false, false, false, false, false, false, false, false, false, false, false, false, false, false, false, false, false, false, false, false, false] rfl rfl (any_of HT_.out (by kernel_rfl)) (fun _ _ _ h => h) (Or.inl ⟨by rfl, ?_⟩) ?_ ?_
             rotate_left
             ·intro w'
              go_simp
              with_reducible rfl
             rotate_left
             ·simp only [Act.put, List.setIfInBounds_toArray, List.set_cons_zero, List.set_cons_succ, i64_w, i32_w]
              rfl
             refine pure_ (i := 24) (N := some 82) (v := ?_) (a' := ?_) #[true, true, true, true, true, true, true, true, true, true, true, true, true, true, true, true, true, true, true, true, true, true, true, false, true, false, false, false, false, false, false, false, false, false, false, false, false, false, false, false, false, false, false, false, false, false, false, false, false, false, false, false, false, false, false] rfl rfl (any_of HT_.out (by kernel_rfl)) (fun _ _ _ h => h) (Or.inl ⟨by rfl, ?_⟩) ?_ ?_
             rotate_left
             ·intro w'
              go_simp
              with_reducible rfl
             rotate_left
             ·simp only [Act.put, List.setIfInBounds_toArray, List.set_cons_zero, List.set_cons_succ, i64_w, i32_w]
              rfl
             refine take_ (i := 23) (N := some 81) (v := ?_) (a' := ?_) #[true, true, true, true, true, true, true, true, true, true, true, true, true, true, true, true, true, true, true, true, true, true, true, true, true, false, false, false, false, false, false, false, false, false, false, false, false, false, false, false, false, false, false, false, false, false, false, false, false, false, false, false, false, false, false] rfl rfl (take_ofW HT_.out HW_.out (by kernel_rfl)) (fun _ _ _ h => h) (Or.inl ⟨by rfl, ?_⟩) hHeld ?_ ?_
             rotate_left
             ·rintro w' ⟨s0, s1, s2, s3, s4, s5, s6, s7, s8, s9⟩
              go_simp
              with_reducible rfl
             rotate_left
             ·simp only [Act.put, List.setIfInBounds_toArray, List.set_cons_zero, List.set_cons_succ, i64_w, i32_w]
              rfl
             refine take_ (i := 25) (N := some 83) (v := ?_) (a' := ?_) #[true, true, true, true, true, true, true, true, true, true, true, true, true, true, true, true, true, true, true, true, true, true, true, true, true, true, false, false, false, false, false, false, false, false, false, false, false, false, false, false, false, false, false, false, false, false, false, false, false, false, false, false, false, false, false] rfl rfl (take_ofW HT_.out HW_.out (by kernel_rfl)) (fun _ _ _ h => h) (Or.inl ⟨by rfl, ?_⟩) hHeld ?_ ?_
             rotate_left
             ·rintro w' ⟨s0, s1, s2, s3, s4, s5, s6, s7, s8, s9⟩
              go_simp
              with_reducible rfl
             rotate_left
             ·simp only [Act.put, List.setIfInBounds_toArray, List.set_cons_zero, List.set_cons_succ, i64_w, i32_w]
              rfl
             refine pure_ (i := 26) (N := some 84) (v := ?_) (a' := ?_) #[true, true, true, true, true, true, true, true, true, true, true, true, true, true, true, true, true, true, true, true, true, true, true, true, true, true, true, false, false, false, false, false, false, false, false, false, false, false, false, false, false, false, false, false, false, false, false, false, false, false, false, false, false, false, false] rfl rfl (any_of HT_.out (by kernel_rfl)) (fun _ _ _ h => h) (Or.inl ⟨by rfl, ?_⟩) ?_ ?_
             rotate_left
             ·intro w'
              go_simp
              with_reducible rfl
             rotate_left
             ·simp only [Act.put, List.setIfInBounds_toArray, List.set_cons_zero, List.set_cons_succ, i64_w, i32_w]
              rfl
             refine pure_ (i := 27) (N := some 85) (v := ?_) (a' := ?_) #[true, true, true, true, true, true, true, true, true, true, true, true, true, true, true, true, true, true, true, true, true, true, true, true, true, true, true, true, false, false, false, false, false, false, false, false, false, false, false, false, false, false, false, false, false, false, false, false, false, false, false, false, false, false, false] rfl rfl (any_of HT_.out (by kernel_rfl)) (fun _ _ _ h => h) (Or.inl ⟨by rfl, ?_⟩) ?_ ?_
             rotate_left
             ·intro w'
              go_simp
              with_reducible rfl
             rotate_left
             ·simp only [Act.put, List.setIfInBounds_toArray, List.set_cons_zero, List.set_cons_succ, i64_w, i32_w]
              rfl
             refine pure_ (i := 28) (N := some 86) (v := ?_) (a' := ?_) #[true, true, true, true, true, true, true, true, true, true, true, true, true, true, true, true, true, true, true, true, true, true, true, true, true, true, true, true, true, false, false, false, false, false, false, false, false, false, false, false, false, false, false, false, false, false, false, false, false, false, false, false, false, false, false] rfl rfl (any_of HT_.out (by kernel_rfl)) (fun _ _ _ h => h) (Or.inl ⟨by rfl, ?_⟩) ?_ ?_
             rotate_left
             ·intro w'
              go_simp
              with_reducible rfl
             rotate_left
             ·simp only [Act.put, List.setIfInBounds_toArray, List.set_cons_zero, List.set_cons_succ, i64_w, i32_w]
              rfl
             refine pure_ (i := 29) (N := some 87) (v := ?_) (a' := ?_) #[true, true, true, true, true, true, true, true, true, true, true, true, true, true, true, true, true, true, true, true, true, true, true, true, true, true, true, true, true, true, false, false, false, false, false, false, false, false, false, false, false, false, false, false, false, false, false, false, false, false, false, false, false, false, false] rfl rfl (any_of HT_.out (by kernel_rfl)) (fun _ _ _ h => h) (Or.inl ⟨by rfl, ?_⟩) ?_ ?_
             rotate_left
             ·intro w'
              go_simp
              with_reducible rfl
             rotate_left
             ·simp only [Act.put, List.setIfInBounds_toArray, List.set_cons_zero, List.set_cons_succ, i64_w, i32_w]
              rfl
             refine pure_ (i := 31) (N := some 89) (v := ?_) (a' := ?_) #[true, true, true, true, true, true, true, true, true, true, true, true, true, true, true, true, true, true, true, true, true, true, true, true, true, true, true, true, true, true, false, true, false, false, false, false, false, false, false, false, false, false, false, false, false, false, false, false, false, false, false, false, false, false, false] rfl rfl (any_of HT_.out (by kernel_rfl)) (fun _ _ _ h => h) (Or.inl ⟨by rfl, ?_⟩) ?_ ?_
             rotate_left
             ·intro w'
              go_simp
              with_reducible rfl
             rotate_left
             ·simp only [Act.put, List.setIfInBounds_toArray, List.set_cons_zero, List.set_cons_succ, i64_w, i32_w]
              rfl
             refine take_ (i := 30) (N := some 88) (v := ?_) (a' := ?_) #[true, true, true, true, true, true, true, true, true, true, true, true, true, true, true, true, true, true, true, true, true, true, true, true, true, true, true, true, true, true, true, true, false, false, false, false, false, false, false, false, false, false, false, false, false, false, false, false, false, false, false, false, false, false, false] rfl rfl (take_ofW HT_.out HW_.out (by kernel_rfl)) (fun _ _ _ h => h) (Or.inl ⟨by rfl, ?_⟩) hHeld ?_ ?_
             rotate_left
             ·rintro w' ⟨s0, s1, s2, s3, s4, s5, s6, s7, s8, s9⟩
              go_simp
              with_reducible rfl
             rotate_left
             ·simp only [Act.put, List.setIfInBounds_toArray, List.set_cons_zero, List.set_cons_succ, i64_w, i32_w]
              rfl
             refine take_ (i := 32) (N := some 90) (v := ?_) (a' := ?_) #[true, true, true, true, true, true, true, true, true, true, true, true, true, true, true, true, true, true, true, true, true, true, true, true, true, true, true, true, true, true, true, true, true, false, false, false, false, false, false, false, false, false, false, false, false, false, false, false, false, false, false, false, false, false, false] rfl rfl (take_ofW HT_.out HW_.out (by kernel_rfl)) (fun _ _ _ h => h) (Or.inl ⟨by rfl, ?_⟩) hHeld ?_ ?_
             rotate_left
             ·rintro w' ⟨s0, s1, s2, s3, s4, s5, s6, s7, s8, s9⟩
              go_simp
              with_reducible rfl
             rotate_left
             ·simp only [Act.put, List.setIfInBounds_toArray, List.set_cons_zero, List.set_cons_succ, i64_w, i32_w]
              rfl
             refine pure_ (i := 33) (N := some 91) (v := ?_) (a' := ?_) #[true, true, true, true, true, true, true, true, true, true, true, true, true, true, true, true, true, true, true, true, true, true, true, true, true, true, true, true, true, true, true, true, true, true, false, false, false, false, false, false, false, false, false, false, false, false, false, false, false, false, false, false, false, false, false] rfl rfl (any_of HT_.out (by kernel_rfl)) (fun _ _ _ h => h) (Or.inl ⟨by rfl, ?_⟩) ?_ ?_
             rotate_left
             ·intro w'
              go_simp
              with_reducible rfl
             rotate_left
             ·simp only [Act.put, List.setIfInBounds_toArray, List.set_cons_zero, List.set_cons_succ, i64_w, i32_w]
              rfl
             refine pure_ (i := 34) (N := some 92) (v := ?_) (a' := ?_) #[true, true, true, true, true, true, true, true, true, true, true, true, true, true, true, true, true, true, true, true, true, true, true, true, true, true, true, true, true, true, true, true, true, true, true, false, false, false, false, false, false, false, false, false, false, false, false, false, false, false, false, false, false, false, false] rfl rfl (any_of HT_.out (by kernel_rfl)) (fun _ _ _ h => h) (Or.inl ⟨by rfl, ?_⟩) ?_ ?_
             rotate_left
             ·intro w'
              go_simp
              with_reducible rfl
             rotate_left
             ·simp only [Act.put, List.setIfInBounds_toArray, List.set_cons_zero, List.set_cons_succ, i64_w, i32_w]
              rfl
             refine pure_ (i := 35) (N := some 93) (v := ?_) (a' := ?_) #[true, true, true, true, true, true, true, true, true, true, true, true, true, true, true, true, true, true, true, true, true, true, true, true, true, true, true, true, true, true, true, true, true, true, true, true, false, false, false, false, false, false, false, false, false, false, false, false, false, false, false, false, false, false, false] rfl rfl (any_of HT_.out (by kernel_rfl)) (fun _ _ _ h => h) (Or.inl ⟨by rfl, ?_⟩) ?_ ?_
             rotate_left
             ·intro w'
              go_simp
              with_reducible rfl
             rotate_left
             ·simp only [Act.put, List.setIfInBounds_toArray, List.set_cons_zero, List.set_cons_succ, i64_w, i32_w]
              rfl
             refine take_ (i := 36) (N := some 94) (v := ?_) (a' := ?_) #[true, true, true, true, true, true, true, true, true, true, true, true, true, true, true, true, true, true, true, true, true, true, true, true, true, true, true, true, true, true, true, true, true, true, true, true, true, false, false, false, false, false, false, false, false, false, false, false, false, false, false, false, false, false, false] rfl rfl (take_ofW HT_.out HW_.out (by kernel_rfl)) (fun _ _ _ h => h) (Or.inl ⟨by rfl, ?_⟩) hHeld ?_ ?_
             rotate_left
             ·rintro w' ⟨s0, s1, s2, s3, s4, s5, s6, s7, s8, s9⟩
              go_simp
              with_reducible rfl
             rotate_left
             ·simp only [Act.put, List.setIfInBounds_toArray, List.set_cons_zero, List.set_cons_succ, i64_w, i32_w]
              rfl
             refine one_ (i := 37) (N := some 95) #[true, true, true, true, true, true, true, true, true, true, true, true, true, true, true, true, true, true, true, true, true, true, true, true, true, true, true, true, true, true, true, true, true, true, true, true, true, true, false, false, false, false, false, false, false, false, false, false, false, false, false, false, false, false, false] rfl rfl (one_of HT_.out (by kernel_rfl)) (by decide) (fun K hK => ?_)
             refine goes_ Try.func24 (by kernel_rfl) rfl #[.agg #[.int .i64 t489, .int .i64 t490, .int .i64 t491]] (by rfl) rfl rfl (by (try simp only [List.map_toArray, List.map_cons, List.map_nil]); first | done | rfl | (simp only [List.length_drop, List.length_take]; rfl)) ?_
             with_reducible refine (impl_ScreenOk.calls t489 t490 t491 true _ A50.out).mono ?_
             rintro e w58 ⟨rfl, hb⟩
             refine ⟨_, rfl, ?_⟩
             have n0_ := Aside0.mk (Kd.R_below (by (with_reducible repeat (first | apply Kd.R_alloc | apply Kd.R_drewN | apply Kd.R_drew)); exact HO478.out) hb)
             have n1_ := Aside0.mk (Kd.R_below (by (with_reducible repeat (first | apply Kd.R_alloc | apply Kd.R_drewN | apply Kd.R_drew)); exact HO486.out) hb)
             have n2_ := Aside0.mk (blk_below (g := gb482) (o := .cells #[.slice Ao16 t476.length co16] 53 (0, 0)) (by (with_reducible repeat (first | refine blk_drewN ?_ _ | refine blk_drew ?_ | refine blk_alloc ?_ _)); exact BK482.out) hb)
             have n3_ := Aside0.mk (blk_below (g := gb483) (o := .cells #[.int .i64 t479, .int .i64 t480, .int .i64 t481] 39 (0, 0)) (by (with_reducible repeat (first | refine blk_drewN ?_ _ | refine blk_drew ?_ | refine blk_alloc ?_ _)); exact BK483.out) hb)
             have n4_ := Aside0.mk (blk_below (g := gb492) (o := .cells #[.int .i64 t489, .int .i64 t490, .int .i64 t491] 39 (0, 0)) (by (with_reducible repeat (first | refine blk_drewN ?_ _ | refine blk_drew ?_ | refine blk_alloc ?_ _)); exact BK492.out) hb)
             have n5_ := Aside0.mk (blk_below (g := gb496) (o := .cells #[.int .i64 t493, .int .i64 t494, .int .i64 t495] 39 (0, 0)) (by (with_reducible repeat (first | refine blk_drewN ?_ _ | refine blk_drew ?_ | refine blk_alloc ?_ _)); exact BK496.out) hb)
             have n6_ := Aside0.mk (below_step (by repeat (first | (with_reducible first | exact HB.out | apply below_alloc | apply pw_below_drewN | apply below_drew1 | refine below_set ?_ GE482.out | refine below_set ?_ GE483.out | refine below_set ?_ GE492.out | refine below_set ?_ GE496.out) | exact HB.out)) hb)
             clear HO478
             clear HO486
             clear BK482
             clear BK483
             clear BK492
             clear BK496
             clear HB
             have HO478 := n0_
             have HO486 := n1_
             have BK482 := n2_
             have BK483 := n3_
             have BK492 := n4_
             have BK496 := n5_
             have HB := n6_
             clear n0_ n1_ n2_ n3_ n4_ n5_ n6_
             (try clear hb)
             (try clear hb2)
             (try clear hk)
             (try clear hi)
             refine hK.out _ _ ⟨(blk_cell BK492.out 0).trans rfl, (blk_cell BK492.out 1).trans rfl, (blk_cell BK492.out 2).trans rfl, (blk_cell BK482.out 0).trans rfl, (blk_cell BK483.out 0).trans rfl, (blk_cell BK483.out 1).trans rfl, (blk_cell BK483.out 2).trans rfl, (blk_cell BK496.out 0).trans rfl, (blk_cell BK496.out 1).trans rfl, (blk_cell BK496.out 2).trans rfl⟩ (fun hHeld => ?_)
             clear hK K
             refine norm_ (a' := ?_) ?_ ?_
             rotate_left
             ·show Act.put _ (some 95) _ = _
              simp only [Act.put, List.setIfInBounds_toArray, List.set_cons_zero, List.set_cons_succ, i64_w, i32_w]
              rfl
             refine pure_ (i := 38) (N := some 96) (v := ?_) (a' := ?_) #[true, true, true, true, true, true, true, true, true, true, true, true, true, true, true, true, true, true, true, true, true, true, true, true, true, true, true, true, true, true, true, true, true, true, true, true, true, true, true, false, false, false, false, false, false, false, false, false, false, false, false, false, false, false, false] rfl rfl (any_of HT_.out (by kernel_rfl)) (fun _ _ _ h => h) (Or.inl ⟨by rfl, ?_⟩) ?_ ?_
             rotate_left
             ·intro w'
              go_simp
              with_reducible rfl
             rotate_left
             ·simp only [Act.put, List.setIfInBounds_toArray, List.set_cons_zero, List.set_cons_succ, i64_w, i32_w]
              rfl
             refine pure_ (i := 39) (N := some 97) (v := ?_) (a' := ?_) #[true, true, true, true, true, true, true, true, true, true, true, true, true, true, true, true, true, true, true, true, true, true, true, true, true, true, true, true, true, true, true, true, true, true, true, true, true, true, true, true, false, false, false, false, false, false, false, false, false, false, false, false, false, false, false] rfl rfl (any_of HT_.out (by kernel_rfl)) (fun _ _ _ h => h) (Or.inl ⟨by rfl, ?_⟩) ?_ ?_
             rotate_left
             ·intro w'
              go_simp
              with_reducible rfl
             rotate_left
             ·simp only [Act.put, List.setIfInBounds_toArray, List.set_cons_zero, List.set_cons_succ, i64_w, i32_w]
              rfl
             refine pure_ (i := 40) (N := some 98) (v := ?_) (a' := ?_) #[true, true, true, true, true, true, true, true, true, true, true, true, true, true, true, true, true, true, true, true, true, true, true, true, true, true, true, true, true, true, true, true, true, true, true, true, true, true, true, true, true, false, false, false, false, false, false, false, false, false, false, false, false, false, false] rfl rfl (any_of HT_.out (by kernel_rfl)) (fun _ _ _ h => h) (Or.inl ⟨by rfl, ?_⟩) ?_ ?_
             rotate_left
             ·intro w'
              go_simp
              with_reducible rfl
             rotate_left
             ·simp only [Act.put, List.setIfInBounds_toArray, List.set_cons_zero, List.set_cons_succ, i64_w, i32_w]
              rfl
             refine take_ (i := 41) (N := some 99) (v := ?_) (a' := ?_) #[true, true, true, true, true, true, true, true, true, true, true, true, true, true, true, true, true, true, true, true, true, true, true, true, true, true, true, true, true, true, true, true, true, true, true, true, true, true, true, true, true, true, false, false, false, false, false, false, false, false, false, false, false, false, false] rfl rfl (take_ofW HT_.out HW_.out (by kernel_rfl)) (fun _ _ _ h => h) (Or.inl ⟨by rfl, ?_⟩) hHeld ?_ ?_
             rotate_left
             ·rintro w' ⟨s0, s1, s2, s3, s4, s5, s6, s7, s8, s9⟩
              go_simp
              with_reducible rfl
             rotate_left
             ·simp only [Act.put, List.setIfInBounds_toArray, List.set_cons_zero, List.set_cons_succ, i64_w, i32_w]
              rfl
             refine one_ (i := 42) (N := some 100) #[true, true, true, true, true, true, true, true, true, true, true, true, true, true, true, true, true, true, true, true, true, true, true, true, true, true, true, true, true, true, true, true, true, true, true, true, true, true, true, true, true, true, true, false, false, false, false, false, false, false, false, false, false, false, false] rfl rfl (one_of HT_.out (by kernel_rfl)) (by decide) (fun K hK => ?_)
             refine goes_ Try.func33 (by kernel_rfl) rfl #[.agg #[.slice Ao16 t476.length co16]] (by rfl) rfl rfl (by (try simp only [List.map_toArray, List.map_cons, List.map_nil]); first | done | rfl | (simp only [List.length_drop, List.length_take]; rfl)) ?_
             with_reducible refine (impl_PolicyOk.calls _ _ t476 true _ ?side1 ?side2 A52.out).mono ?_
             (case side1 => repeat (first | exact (Kd.R_reads' HO478.out).2.2 | (with_reducible refine Kd.C_alloc ?_ _) | (with_reducible refine Kd.C_drewN ?_ _) | (with_reducible refine Kd.C_drew ?_)))
             (case side2 => exact (Kd.R_reads' HO478.out).2.1)
             rintro e w59 ⟨rfl, hb⟩
             refine ⟨_, rfl, ?_⟩
             have n0_ := Aside0.mk (Kd.R_below (by (with_reducible repeat (first | apply Kd.R_alloc | apply Kd.R_drewN | apply Kd.R_drew)); exact HO478.out) hb)
             have n1_ := Aside0.mk (Kd.R_below (by (with_reducible repeat (first | apply Kd.R_alloc | apply Kd.R_drewN | apply Kd.R_drew)); exact HO486.out) hb)
             have n2_ := Aside0.mk (blk_below (g := gb482) (o := .cells #[.slice Ao16 t476.length co16] 53 (0, 0)) (by (with_reducible repeat (first | refine blk_drewN ?_ _ | refine blk_drew ?_ | refine blk_alloc ?_ _)); exact BK482.out) hb)
             have n3_ := Aside0.mk (blk_below (g := gb483) (o := .cells #[.int .i64 t479, .int .i64 t480, .int .i64 t481] 39 (0, 0)) (by (with_reducible repeat (first | refine blk_drewN ?_ _ | refine blk_drew ?_ | refine blk_alloc ?_ _)); exact BK483.out) hb)
             have n4_ := Aside0.mk (blk_below (g := gb492) (o := .cells #[.int .i64 t489, .int .i64 t490, .int .i64 t491] 39 (0, 0)) (by (with_reducible repeat (first | refine blk_drewN ?_ _ | refine blk_drew ?_ | refine blk_alloc ?_ _)); exact BK492.out) hb)
             have n5_ := Aside0.mk (blk_below (g := gb496) (o := .cells #[.int .i64 t493, .int .i64 t494, .int .i64 t495] 39 (0, 0)) (by (with_reducible repeat (first | refine blk_drewN ?_ _ | refine blk_drew ?_ | refine blk_alloc ?_ _)); exact BK496.out) hb)
             have n6_ := Aside0.mk (below_step (by repeat (first | (with_reducible first | exact HB.out | apply below_alloc | apply pw_below_drewN | apply below_drew1 | refine below_set ?_ GE482.out | refine below_set ?_ GE483.out | refine below_set ?_ GE492.out | refine below_set ?_ GE496.out) | exact HB.out)) hb)
             clear HO478
             clear HO486
             clear BK482
             clear BK483
             clear BK492
             clear BK496
             clear HB
             have HO478 := n0_
             have HO486 := n1_
             have BK482 := n2_
             have BK483 := n3_
             have BK492 := n4_
             have BK496 := n5_
             have HB := n6_
             clear n0_ n1_ n2_ n3_ n4_ n5_ n6_
             (try clear hb)
             (try clear hb2)
             (try clear hk)
             (try clear hi)
             refine hK.out _ _ ⟨(blk_cell BK492.out 0).trans rfl, (blk_cell BK492.out 1).trans rfl, (blk_cell BK492.out 2).trans rfl, (blk_cell BK482.out 0).trans rfl, (blk_cell BK483.out 0).trans rfl, (blk_cell BK483.out 1).trans rfl, (blk_cell BK483.out 2).trans rfl, (blk_cell BK496.out 0).trans rfl, (blk_cell BK496.out 1).trans rfl, (blk_cell BK496.out 2).trans rfl⟩ (fun hHeld => ?_)
             clear hK K
             refine norm_ (a' := ?_) ?_ ?_
             rotate_left
             ·show Act.put _ (some 100) _ = _
              simp only [Act.put, List.setIfInBounds_toArray, List.set_cons_zero, List.set_cons_succ, i64_w, i32_w]
              rfl
             refine pure_ (i := 43) (N := some 101) (v := ?_) (a' := ?_) #[true, true, true, true, true, true, true, true, true, true, true, true, true, true, true, true, true, true, true, true, true, true, true, true, true, true, true, true, true, true, true, true, true, true, true, true, true, true, true, true, true, true, true, true, false, false, false, false, false, false, false, false, false, false, false] rfl rfl (any_of HT_.out (by kernel_rfl)) (fun _ _ _ h => h) (Or.inl ⟨by rfl, ?_⟩) ?_ ?_
             rotate_left
             ·intro w'
              go_simp
              with_reducible rfl
             rotate_left
             ·simp only [Act.put, List.setIfInBounds_toArray, List.set_cons_zero, List.set_cons_succ, i64_w, i32_w]
              rfl
             refine pure_ (i := 44) (N := some 102) (v := ?_) (a' := ?_) #[true, true, true, true, true, true, true, true, true, true, true, true, true, true, true, true, true, true, true, true, true, true, true, true, true, true, true, true, true, true, true, true, true, true, true, true, true, true, true, true, true, true, true, true, true, false, false, false, false, false, false, false, false, false, false] rfl rfl (any_of HT_.out (by kernel_rfl)) (fun _ _ _ h => h) (Or.inl ⟨by rfl, ?_⟩) ?_ ?_
             rotate_left
             ·intro w'
              go_simp
              with_reducible rfl
             rotate_left
             ·simp only [Act.put, List.setIfInBounds_toArray, List.set_cons_zero, List.set_cons_succ, i64_w, i32_w]
              rfl
             refine pure_ (i := 45) (N := some 103) (v := ?_) (a' := ?_) #[true, true, true, true, true, true, true, true, true, true, true, true, true, true, true, true, true, true, true, true, true, true, true, true, true, true, true, true, true, true, true, true, true, true, true, true, true, true, true, true, true, true, true, true, true, true, false, false, false, false, false, false, false, false, false] rfl rfl (any_of HT_.out (by kernel_rfl)) (fun _ _ _ h => h) (Or.inl ⟨by rfl, ?_⟩) ?_ ?_
             rotate_left
             ·intro w'
              go_simp
              with_reducible rfl
             rotate_left
             ·simp only [Act.put, List.setIfInBounds_toArray, List.set_cons_zero, List.set_cons_succ, i64_w, i32_w]
              rfl
             refine pure_ (i := 46) (N := some 104) (v := ?_) (a' := ?_) #[true, true, true, true, true, true, true, true, true, true, true, true, true, true, true, true, true, true, true, true, true, true, true, true, true, true, true, true, true, true, true, true, true, true, true, true, true, true, true, true, true, true, true, true, true, true, true, false, false, false, false, false, false, false, false] rfl rfl (any_of HT_.out (by kernel_rfl)) (fun _ _ _ h => h) (Or.inl ⟨by rfl, ?_⟩) ?_ ?_
             rotate_left
             ·intro w'
              go_simp
              with_reducible rfl
             rotate_left
             ·simp only [Act.put, List.setIfInBounds_toArray, List.set_cons_zero, List.set_cons_succ, i64_w, i32_w]
              rfl
             refine pure_ (i := 47) (N := some 105) (v := ?_) (a' := ?_) #[true, true, true, true, true, true, true, true, true, true, true, true, true, true, true, true, true, true, true, true, true, true, true, true, true, true, true, true, true, true, true, true, true, true, true, true, true, true, true, true, true, true, true, true, true, true, true, true, false, false, false, false, false, false, false] rfl rfl (any_of HT_.out (by kernel_rfl)) (fun _ _ _ h => h) (Or.inl ⟨by rfl, ?_⟩) ?_ ?_
             rotate_left
             ·intro w'
              go_simp
              with_reducible rfl
             rotate_left
             ·simp only [Act.put, List.setIfInBounds_toArray, List.set_cons_zero, List.set_cons_succ, i64_w, i32_w]
              rfl
             refine pure_ (i := 48) (N := some 106) (v := ?_) (a' := ?_) #[true, true, true, true, true, true, true, true, true, true, true, true, true, true, true, true, true, true, true, true, true, true, true, true, true, true, true, true, true, true, true, true, true, true, true, true, true, true, true, true, true, true, true, true, true, true, true, true, true, false, false, false, false, false, false] rfl rfl (any_of HT_.out (by kernel_rfl)) (fun _ _ _ h => h) (Or.inl ⟨by rfl, ?_⟩) ?_ ?_
             rotate_left
             ·intro w'
              go_simp
              with_reducible rfl
             rotate_left
             ·simp only [Act.put, List.setIfInBounds_toArray, List.set_cons_zero, List.set_cons_succ, i64_w, i32_w]
              rfl
             refine pure_ (i := 49) (N := some 107) (v := ?_) (a' := ?_) #[true, true, true, true, true, true, true, true, true, true, true, true, true, true, true, true, true, true, true, true, true, true, true, true, true, true, true, true, true, true, true, true, true, true, true, true, true, true, true, true, true, true, true, true, true, true, true, true, true, true, false, false, false, false, false] rfl rfl (any_of HT_.out (by kernel_rfl)) (fun _ _ _ h => h) (Or.inl ⟨by rfl, ?_⟩) ?_ ?_
             rotate_left
             ·intro w'
              go_simp
              with_reducible rfl
             rotate_left
             ·simp only [Act.put, List.setIfInBounds_toArray, List.set_cons_zero, List.set_cons_succ, i64_w, i32_w]
              rfl
             refine pure_ (i := 50) (N := some 108) (v := ?_) (a' := ?_) #[true, true, true, true, true, true, true, true, true, true, true, true, true, true, true, true, true, true, true, true, true, true, true, true, true, true, true, true, true, true, true, true, true, true, true, true, true, true, true, true, true, true, true, true, true, true, true, true, true, true, true, false, false, false, false] rfl rfl (any_of HT_.out (by kernel_rfl)) (fun _ _ _ h => h) (Or.inl ⟨by rfl, ?_⟩) ?_ ?_
             rotate_left
             ·intro w'
              go_simp
              with_reducible rfl
             rotate_left
             ·simp only [Act.put, List.setIfInBounds_toArray, List.set_cons_zero, List.set_cons_succ, i64_w, i32_w]
              rfl
             refine pure_ (i := 51) (N := some 109) (v := ?_) (a' := ?_) #[true, true, true, true, true, true, true, true, true, true, true, true, true, true, true, true, true, true, true, true, true, true, true, true, true, true, true, true, true, true, true, true, true, true, true, true, true, true, true, true, true, true, true, true, true, true, true, true, true, true, true, true, false, false, false] rfl rfl (any_of HT_.out (by kernel_rfl)) (fun _ _ _ h => h) (Or.inl ⟨by rfl, ?_⟩) ?_ ?_
             rotate_left
             ·intro w'
              go_simp
              with_reducible rfl
             rotate_left
             ·simp only [Act.put, List.setIfInBounds_toArray, List.set_cons_zero, List.set_cons_succ, i64_w, i32_w]
              rfl
             refine pure_ (i := 52) (N := some 110) (v := ?_) (a' := ?_) #[true, true, true, true, true, true, true, true, true, true, true, true, true, true, true, true, true, true, true, true, true, true, true, true, true, true, true, true, true, true, true, true, true, true, true, true, true, true, true, true, true, true, true, true, true, true, true, true, true, true, true, true, true, false, false] rfl rfl (any_of HT_.out (by kernel_rfl)) (fun _ _ _ h => h) (Or.inl ⟨by rfl, ?_⟩) ?_ ?_
             rotate_left
             ·intro w'
              go_simp
              with_reducible rfl
             rotate_left
             ·simp only [Act.put, List.setIfInBounds_toArray, List.set_cons_zero, List.set_cons_succ, i64_w, i32_w]
              rfl
             refine pure_ (i := 53) (N := some 111) (v := ?_) (a' := ?_) #[true, true, true, true, true, true, true, true, true, true, true, true, true, true, true, true, true, true, true, true, true, true, true, true, true, true, true, true, true, true, true, true, true, true, true, true, true, true, true, true, true, true, true, true, true, true, true, true, true, true, true, true, true, true, false] rfl rfl (any_of HT_.out (by kernel_rfl)) (fun _ _ _ h => h) (Or.inl ⟨by rfl, ?_⟩) ?_ ?_
             rotate_left
             ·intro w'
              go_simp
              with_reducible rfl
             rotate_left
             ·simp only [Act.put, List.setIfInBounds_toArray, List.set_cons_zero, List.set_cons_succ, i64_w, i32_w]
              rfl
             refine pure_ (i := 54) (N := some 112) (v := ?_) (a' := ?_) #[true, true, true, true, true, true, true, true, true, true, true, true, true, true, true, true, true, true, true, true, true, true, true, true, true, true, true, true, true, true, true, true, true, true, true, true, true, true, true, true, true, true, true, true, true, true, true, true, true, true, true, true, true, true, true] rfl rfl (any_of HT_.out (by kernel_rfl)) (fun _ _ _ h => h) (Or.inl ⟨by rfl, ?_⟩) ?_ ?_
             rotate_left
             ·intro w'
              go_simp
              with_reducible rfl
             rotate_left
             ·simp only [Act.put, List.setIfInBounds_toArray, List.set_cons_zero, List.set_cons_succ, i64_w, i32_w]
              rfl
             refine done_ (done_of HT_.out (by kernel_rfl)) ?_
             try go_wp2
             go_meet
             case rel => exact ⟨_, ((t497 != t499)), (by first | rfl | (simp; done) | (simp [*]; done)), H', ⟨by first | omega | exact Nat.le_refl _⟩, ⟨by (with_reducible repeat (first | apply Kd.R_alloc | apply Kd.R_drewN | apply Kd.R_drew)); exact Kd.R_mono HO478.out (fun _ hk => trivial)⟩, ⟨by (with_reducible repeat (first | refine blk_drewN ?_ _ | refine blk_drew ?_ | refine blk_alloc ?_ _)); exact BK482.out⟩, ⟨by (with_reducible repeat (first | refine blk_drewN ?_ _ | refine blk_drew ?_ | refine blk_alloc ?_ _)); exact BK483.out⟩, ⟨by (with_reducible repeat (first | refine blk_drewN ?_ _ | refine blk_drew ?_ | refine blk_alloc ?_ _)); exact BK492.out⟩, ⟨by (with_reducible repeat (first | refine blk_drewN ?_ _ | refine blk_drew ?_ | refine blk_alloc ?_ _)); exact BK496.out⟩, ⟨by repeat (first | (with_reducible first | exact HB.out | apply below_alloc | apply pw_below_drewN | apply below_drew1 | refine below_set ?_ GE482.out | refine below_set ?_ GE483.out | refine below_set ?_ GE492.out | refine below_set ?_ GE496.out) | exact HB.out)⟩⟩
           ·replace c53 := Bool.eq_false_iff.mpr c53
            subst c53
            have H1 : (laws_FnElapses.j0 k t497 t500 true t476 t479 t480 t481) = some r := by rw [if_neg (show ¬ (false = true) by decide)] at H; exact H
            clear H
            have H := H1
            clear H1
            exact absurd (H.trans (congrArg some hrt.out)) (by cases k <;> simp [laws_FnElapses.j0])
          ·replace c51 := Bool.eq_false_iff.mpr c51
           subst c51
           have H1 : (laws_FnElapses.j0 k t497 t500 true t476 t479 t480 t481) = some r := by rw [if_neg (show ¬ (false = true) by decide)] at H; exact H
           clear H
           have H := H1
           clear H1
           exact absurd (H.trans (congrArg some hrt.out)) (by cases k <;> simp [laws_FnElapses.j0])
         ·rw [if_neg c49] at H
          have c49b0 : (t491 == t481) = false := beq_eq_false_iff_ne.mpr c49
          have c49b1 : (t491 != t481) = true := bne_iff_ne.mpr c49
          exact absurd (H.trans (congrArg some hrt.out)) (by cases k <;> simp [laws_FnElapses.j0])
    case rest =>
     clear HC12
     try clear c2
     try clear p2
     try clear c3
     try clear c4
     try clear c5
     try clear p6
     try clear c24
     try clear c33
     try clear c35
     try clear c36
     try clear c49
     try clear c49b0
     try clear c49b1
     try clear c51
     try clear c53
     obtain ⟨kq, x112_11, rfl, HA, HJ11, HO_483000, BK482, BK483, BK492, BK496, HB⟩ := hcut
     cases kq with
     | zero => exact absurd HA.out (by simp [laws_FnElapses.j0])
     | succ kj11 =>
      have H := HA.out
      clear HA
      simp only [laws_FnElapses.j0] at H
      by_cases c60 : x112_11 = true
      ·subst c60
       have H1 : (some false) = some r := by rw [if_pos rfl] at H; exact H
       clear H
       have H := H1
       clear H1
       exact absurd (H.trans (congrArg some hrt.out)) (by simp)
      ·replace c60 := Bool.eq_false_iff.mpr c60
       subst c60
       have H1 : (if t500 = true then ((impl_Elapse.f kj11 t476 t479 t480 t481 t497).bind fun bt509 => ((impl_Elapse.f kj11 t476 t479 t480 t481 (wrap64 (t497 - 1))).bind fun bt513 => (if bt509.1 = 4 then (if t497 = t480 then (some true) else (if t497 > t480 then (some (decide (bt513.1 < 4))) else (some false))) else (some false)))) else (some (t481 != 0))) = some r := by rw [if_neg (show ¬ (false = true) by decide)] at H; exact H
       clear H
       have H := H1
       clear H1
       by_cases c61 : t500 = true
       ·subst c61
        have H1 : ((impl_Elapse.f kj11 t476 t479 t480 t481 t497).bind fun bt509 => ((impl_Elapse.f kj11 t476 t479 t480 t481 (wrap64 (t497 - 1))).bind fun bt513 => (if bt509.1 = 4 then (if t497 = t480 then (some true) else (if t497 > t480 then (some (decide (bt513.1 < 4))) else (some false))) else (some false)))) = some r := by rw [if_pos rfl] at H; exact H
        clear H
        have H := H1
        clear H1
        replace H := Option.bind_eq_some_iff.mp H
        obtain ⟨⟨t509, t510, t511⟩, A620, H⟩ := H
        replace H : ((impl_Elapse.f kj11 t476 t479 t480 t481 (wrap64 (t497 - 1))).bind fun bt513 => (if t509 = 4 then (if t497 = t480 then (some true) else (if t497 > t480 then (some (decide (bt513.1 < 4))) else (some false))) else (some false))) = some r := H
        have A62 := Aside0.mk A620
        clear A620
        replace H := Option.bind_eq_some_iff.mp H
        obtain ⟨⟨t513, t514, t515⟩, A630, H⟩ := H
        replace H : (if t509 = 4 then (if t497 = t480 then (some true) else (if t497 > t480 then (some (decide (t513 < 4))) else (some false))) else (some false)) = some r := H
        have A63 := Aside0.mk A630
        clear A630
        by_cases c64 : t509 = 4
        ·rw [if_pos c64] at H
         have c64b0 : (t509 == 4) = true := beq_iff_eq.mpr c64
         have c64b1 : (t509 != 4) = false := bne_eq_false_iff_eq.mpr c64
         clear c64
         by_cases c65 : t497 = t480
         ·rw [if_pos c65] at H
          have c65b0 : (t497 == t480) = true := beq_iff_eq.mpr c65
          have c65b1 : (t497 != t480) = false := bne_eq_false_iff_eq.mpr c65
          clear c65
          obtain rfl := Option.some.inj H
          have hnb66 := NB482_483.out
          have hnc66 := NB483_482.out
          have hnb67 := NB482_492.out
          have hnc67 := NB492_482.out
          have hnb68 := NB482_496.out
          have hnc68 := NB496_482.out
          have hcz69_0 : wc.cell? ⟨gb482, 0, none⟩ = some (.slice Ao16 t476.length co16) := (blk_cell BK482.out 0).trans rfl
          have hfz69_0 := blk_frozen BK482.out 0
          have hnb70 := NB483_492.out
          have hnc70 := NB492_483.out
          have hnb71 := NB483_496.out
          have hnc71 := NB496_483.out
          have hcz72_0 : wc.cell? ⟨gb483, 0, none⟩ = some (.int .i64 t479) := (blk_cell BK483.out 0).trans rfl
          have hcz72_1 : wc.cell? ⟨gb483, 1, none⟩ = some (.int .i64 t480) := (blk_cell BK483.out 1).trans rfl
          have hcz72_2 : wc.cell? ⟨gb483, 2, none⟩ = some (.int .i64 t481) := (blk_cell BK483.out 2).trans rfl
          have hfz72_0 := blk_frozen BK483.out 0
          have hfz72_1 := blk_frozen BK483.out 1
          have hfz72_2 := blk_frozen BK483.out 2
          go_wp2_with (first | ((with_reducible refine gate_callee (f := 36) rfl ?_); refine goesL_ (some 121) rfl rfl Try.func36 (by kernel_rfl) rfl #[.agg #[.slice Ao16 t476.length co16], .agg #[.int .i64 t479, .int .i64 t480, .int .i64 t481], .int .i64 t497] rfl (by (try simp only [List.map_toArray, List.map_cons, List.map_nil]); first | done | rfl | (simp only [List.length_drop, List.length_take]; rfl)) ?_; (with_reducible refine (impl_Elapse.calls kj11 _ _ t476 t479 t480 t481 t497 t509 t510 t511 _ ?side1 ?side2 A62.out).mono ?_); (case side1 => repeat (first | exact (Kd.R_reads' HO_483000.out).2.2 | (with_reducible refine Kd.C_alloc ?_ _) | (with_reducible refine Kd.C_drewN ?_ _) | (with_reducible refine Kd.C_drew ?_))); (case side2 => exact (Kd.R_reads' HO_483000.out).2.1); rintro e w73 ⟨rfl, hb⟩; refine ⟨_, rfl, ?_⟩; have n0_ := Aside0.mk (Kd.R_below (by (with_reducible repeat (first | apply Kd.R_alloc | apply Kd.R_drewN | apply Kd.R_drew)); exact HO_483000.out) hb); have n1_ := Aside0.mk (blk_below (g := gb482) (o := .cells #[.slice Ao16 t476.length co16] 53 (0, 0)) (by (with_reducible repeat (first | refine blk_drewN ?_ _ | refine blk_drew ?_ | refine blk_alloc ?_ _)); exact BK482.out) hb); have n2_ := Aside0.mk (blk_below (g := gb483) (o := .cells #[.int .i64 t479, .int .i64 t480, .int .i64 t481] 39 (0, 0)) (by (with_reducible repeat (first | refine blk_drewN ?_ _ | refine blk_drew ?_ | refine blk_alloc ?_ _)); exact BK483.out) hb); have n3_ := Aside0.mk (blk_below (g := gb492) (o := .cells #[.int .i64 t489, .int .i64 t490, .int .i64 t491] 39 (0, 0)) (by (with_reducible repeat (first | refine blk_drewN ?_ _ | refine blk_drew ?_ | refine blk_alloc ?_ _)); exact BK492.out) hb); have n4_ := Aside0.mk (blk_below (g := gb496) (o := .cells #[.int .i64 t493, .int .i64 t494, .int .i64 t495] 39 (0, 0)) (by (with_reducible repeat (first | refine blk_drewN ?_ _ | refine blk_drew ?_ | refine blk_alloc ?_ _)); exact BK496.out) hb); have n5_ := Aside0.mk (below_step (by repeat (first | (with_reducible first | exact HB.out | apply below_alloc | apply pw_below_drewN | apply below_drew1 | refine below_set ?_ GE482.out | refine below_set ?_ GE483.out | refine below_set ?_ GE492.out | refine below_set ?_ GE496.out) | exact HB.out)) hb); clear HO_483000; clear BK482; clear BK483; clear BK492; clear BK496; clear HB; have HO_483000 := n0_; have BK482 := n1_; have BK483 := n2_; have BK492 := n3_; have BK496 := n4_; have HB := n5_; clear n0_ n1_ n2_ n3_ n4_ n5_; (try clear hb); (try clear hb2); (try clear hk); (try clear hi)) | ((with_reducible refine gate_dst (N := 14) rfl ?_); refine box_event ?hg (N := 14) ?hd (cs := #[.int .i64 0, .int .i64 0, .int .i64 0]) (t := 39) ?hr ?_; (case hd => rfl); (case hg => rfl); (case hr => first | (go_simp; done) | (go_simp; rfl)); intro gb512 hg w74 hbox hb; have n0_ := Aside0.mk (Kd.R_below (by (with_reducible repeat (first | apply Kd.R_alloc | apply Kd.R_drewN | apply Kd.R_drew)); exact HO_483000.out) hb); have n1_ := Aside0.mk (blk_below (g := gb482) (o := .cells #[.slice Ao16 t476.length co16] 53 (0, 0)) (by (with_reducible repeat (first | refine blk_drewN ?_ _ | refine blk_drew ?_ | refine blk_alloc ?_ _)); exact BK482.out) hb); have n2_ := Aside0.mk (blk_below (g := gb483) (o := .cells #[.int .i64 t479, .int .i64 t480, .int .i64 t481] 39 (0, 0)) (by (with_reducible repeat (first | refine blk_drewN ?_ _ | refine blk_drew ?_ | refine blk_alloc ?_ _)); exact BK483.out) hb); have n3_ := Aside0.mk (blk_below (g := gb492) (o := .cells #[.int .i64 t489, .int .i64 t490, .int .i64 t491] 39 (0, 0)) (by (with_reducible repeat (first | refine blk_drewN ?_ _ | refine blk_drew ?_ | refine blk_alloc ?_ _)); exact BK492.out) hb); have n4_ := Aside0.mk (blk_below (g := gb496) (o := .cells #[.int .i64 t493, .int .i64 t494, .int .i64 t495] 39 (0, 0)) (by (with_reducible repeat (first | refine blk_drewN ?_ _ | refine blk_drew ?_ | refine blk_alloc ?_ _)); exact BK496.out) hb); have n5_ := Aside0.mk (below_step (by repeat (first | (with_reducible first | exact HB.out | apply below_alloc | apply pw_below_drewN | apply below_drew1 | refine below_set ?_ GE482.out | refine below_set ?_ GE483.out | refine below_set ?_ GE492.out | refine below_set ?_ GE496.out) | exact HB.out)) hb); have n6_ := Aside0.mk (hbox); have n7_ := Aside0.mk ((by rw [hg]; exact (below_size (by repeat (first | (with_reducible first | exact HB.out | apply below_alloc | apply pw_below_drewN | apply below_drew1 | refine below_set ?_ GE482.out | refine below_set ?_ GE483.out | refine below_set ?_ GE492.out | refine below_set ?_ GE496.out) | exact HB.out))) : w.heap.size ≤ gb512)); have n8_ := Aside0.mk ((by rw [hg]; exact (below_size (by repeat (first | (with_reducible first | exact HB.out | apply below_alloc | apply pw_below_drewN | apply below_drew1 | refine below_set ?_ GE482.out | refine below_set ?_ GE483.out | refine below_set ?_ GE492.out | refine below_set ?_ GE496.out) | exact HB.out))) : w.heap.size ≤ gb512)); have n9_ := Aside0.mk ((by rw [hg]; exact Nat.ne_of_lt (blk_lt (g := gb482) (o := .cells #[.slice Ao16 t476.length co16] 53 (0, 0)) (by (with_reducible repeat (first | refine blk_drewN ?_ _ | refine blk_drew ?_ | refine blk_alloc ?_ _)); exact BK482.out)) : gb482 ≠ gb512)); have n10_ := Aside0.mk ((by rw [hg]; exact Nat.ne_of_gt (blk_lt (g := gb482) (o := .cells #[.slice Ao16 t476.length co16] 53 (0, 0)) (by (with_reducible repeat (first | refine blk_drewN ?_ _ | refine blk_drew ?_ | refine blk_alloc ?_ _)); exact BK482.out)) : gb512 ≠ gb482)); have n11_ := Aside0.mk ((by rw [hg]; exact Nat.ne_of_lt (blk_lt (g := gb483) (o := .cells #[.int .i64 t479, .int .i64 t480, .int .i64 t481] 39 (0, 0)) (by (with_reducible repeat (first | refine blk_drewN ?_ _ | refine blk_drew ?_ | refine blk_alloc ?_ _)); exact BK483.out)) : gb483 ≠ gb512)); have n12_ := Aside0.mk ((by rw [hg]; exact Nat.ne_of_gt (blk_lt (g := gb483) (o := .cells #[.int .i64 t479, .int .i64 t480, .int .i64 t481] 39 (0, 0)) (by (with_reducible repeat (first | refine blk_drewN ?_ _ | refine blk_drew ?_ | refine blk_alloc ?_ _)); exact BK483.out)) : gb512 ≠ gb483)); have n13_ := Aside0.mk ((by rw [hg]; exact Nat.ne_of_lt (blk_lt (g := gb492) (o := .cells #[.int .i64 t489, .int .i64 t490, .int .i64 t491] 39 (0, 0)) (by (with_reducible repeat (first | refine blk_drewN ?_ _ | refine blk_drew ?_ | refine blk_alloc ?_ _)); exact BK492.out)) : gb492 ≠ gb512)); have n14_ := Aside0.mk ((by rw [hg]; exact Nat.ne_of_gt (blk_lt (g := gb492) (o := .cells #[.int .i64 t489, .int .i64 t490, .int .i64 t491] 39 (0, 0)) (by (with_reducible repeat (first | refine blk_drewN ?_ _ | refine blk_drew ?_ | refine blk_alloc ?_ _)); exact BK492.out)) : gb512 ≠ gb492)); have n15_ := Aside0.mk ((by rw [hg]; exact Nat.ne_of_lt (blk_lt (g := gb496) (o := .cells #[.int .i64 t493, .int .i64 t494, .int .i64 t495] 39 (0, 0)) (by (with_reducible repeat (first | refine blk_drewN ?_ _ | refine blk_drew ?_ | refine blk_alloc ?_ _)); exact BK496.out)) : gb496 ≠ gb512)); have n16_ := Aside0.mk ((by rw [hg]; exact Nat.ne_of_gt (blk_lt (g := gb496) (o := .cells #[.int .i64 t493, .int .i64 t494, .int .i64 t495] 39 (0, 0)) (by (with_reducible repeat (first | refine blk_drewN ?_ _ | refine blk_drew ?_ | refine blk_alloc ?_ _)); exact BK496.out)) : gb512 ≠ gb496)); clear HO_483000; clear BK482; clear BK483; clear BK492; clear BK496; clear HB; have HO_483000 := n0_; have BK482 := n1_; have BK483 := n2_; have BK492 := n3_; have BK496 := n4_; have HB := n5_; have BK512 := n6_; have GW512 := n7_; have GE512 := n8_; have NB482_512 := n9_; have NB512_482 := n10_; have NB483_512 := n11_; have NB512_483 := n12_; have NB492_512 := n13_; have NB512_492 := n14_; have NB496_512 := n15_; have NB512_496 := n16_; clear n0_ n1_ n2_ n3_ n4_ n5_ n6_ n7_ n8_ n9_ n10_ n11_ n12_ n13_ n14_ n15_ n16_; clear hb hbox hg; have hnb75 := NB512_482.out; have hnc75 := NB482_512.out; have hnb76 := NB512_483.out; have hnc76 := NB483_512.out; have hnb77 := NB512_492.out; have hnc77 := NB492_512.out; have hnb78 := NB512_496.out; have hnc78 := NB496_512.out; have hcz79_0 : w74.cell? ⟨gb512, 0, none⟩ = some (.int .i64 0) := (blk_cell BK512.out 0).trans rfl; have hcz79_1 : w74.cell? ⟨gb512, 1, none⟩ = some (.int .i64 0) := (blk_cell BK512.out 1).trans rfl; have hcz79_2 : w74.cell? ⟨gb512, 2, none⟩ = some (.int .i64 0) := (blk_cell BK512.out 2).trans rfl; have hfz79_0 := blk_frozen BK512.out 0; have hfz79_1 := blk_frozen BK512.out 1; have hfz79_2 := blk_frozen BK512.out 2; have hcz80_0 : w74.cell? ⟨gb482, 0, none⟩ = some (.slice Ao16 t476.length co16) := (blk_cell BK482.out 0).trans rfl; have hfz80_0 := blk_frozen BK482.out 0; have hcz81_0 : w74.cell? ⟨gb483, 0, none⟩ = some (.int .i64 t479) := (blk_cell BK483.out 0).trans rfl; have hcz81_1 : w74.cell? ⟨gb483, 1, none⟩ = some (.int .i64 t480) := (blk_cell BK483.out 1).trans rfl; have hcz81_2 : w74.cell? ⟨gb483, 2, none⟩ = some (.int .i64 t481) := (blk_cell BK483.out 2).trans rfl; have hfz81_0 := blk_frozen BK483.out 0; have hfz81_1 := blk_frozen BK483.out 1; have hfz81_2 := blk_frozen BK483.out 2) | ((with_reducible refine gate_callee (f := 36) rfl ?_); refine goesL_ (some 126) rfl rfl Try.func36 (by kernel_rfl) rfl #[.agg #[.slice Ao16 t476.length co16], .agg #[.int .i64 t479, .int .i64 t480, .int .i64 t481], .int .i64 (wrap64 (t497 - 1))] rfl (by (try simp only [List.map_toArray, List.map_cons, List.map_nil]); first | done | rfl | (simp only [List.length_drop, List.length_take]; rfl)) ?_; (with_reducible refine (impl_Elapse.calls kj11 _ _ t476 t479 t480 t481 (wrap64 (t497 - 1)) t513 t514 t515 _ ?side1 ?side2 A63.out).mono ?_); (case side1 => refine (Kd.R_reads' (e := 3) (base := w.heap.size) (ok := fun k_ => True) (n := t476.length) (c := co16) ?_).2.2; exact (by (with_reducible repeat (first | apply Kd.R_alloc | apply Kd.R_drewN | apply Kd.R_drew)); exact (Kd.R_mono (Kd.R_far (p := ⟨gb512, 2, none⟩) (Kd.R_far (p := ⟨gb512, 1, none⟩) (Kd.R_far (p := ⟨gb512, 0, none⟩) (Kd.R_types HO_483000.out BK512.out (by decide)) (fun _ hk => hk.2) (.int .i64 t509)) (fun _ hk => hk.2) (.int .i64 t510)) (fun _ hk => hk.2) (.int .i64 t511)) (fun _ h_ => h_.1)))); (case side2 => exact (Kd.R_reads' HO_483000.out).2.1); rintro e w82 ⟨rfl, hb⟩; refine ⟨_, rfl, ?_⟩; have n0_ := Aside0.mk (Kd.R_below (by (with_reducible repeat (first | apply Kd.R_alloc | apply Kd.R_drewN | apply Kd.R_drew)); exact (Kd.R_mono (Kd.R_far (p := ⟨gb512, 2, none⟩) (Kd.R_far (p := ⟨gb512, 1, none⟩) (Kd.R_far (p := ⟨gb512, 0, none⟩) (Kd.R_types HO_483000.out BK512.out (by decide)) (fun _ hk => hk.2) (.int .i64 t509)) (fun _ hk => hk.2) (.int .i64 t510)) (fun _ hk => hk.2) (.int .i64 t511)) (fun _ h_ => h_.1))) hb); have n1_ := Aside0.mk (blk_below (g := gb482) (o := .cells #[.slice Ao16 t476.length co16] 53 (0, 0)) (by (with_reducible repeat (first | refine blk_drewN ?_ _ | refine blk_drew ?_ | refine blk_alloc ?_ _)); refine blk_far ?_ NB482_512.out _; (with_reducible repeat (first | refine blk_drewN ?_ _ | refine blk_drew ?_ | refine blk_alloc ?_ _)); refine blk_far ?_ NB482_512.out _; (with_reducible repeat (first | refine blk_drewN ?_ _ | refine blk_drew ?_ | refine blk_alloc ?_ _)); refine blk_far ?_ NB482_512.out _; (with_reducible repeat (first | refine blk_drewN ?_ _ | refine blk_drew ?_ | refine blk_alloc ?_ _)); exact BK482.out) hb); have n2_ := Aside0.mk (blk_below (g := gb483) (o := .cells #[.int .i64 t479, .int .i64 t480, .int .i64 t481] 39 (0, 0)) (by (with_reducible repeat (first | refine blk_drewN ?_ _ | refine blk_drew ?_ | refine blk_alloc ?_ _)); refine blk_far ?_ NB483_512.out _; (with_reducible repeat (first | refine blk_drewN ?_ _ | refine blk_drew ?_ | refine blk_alloc ?_ _)); refine blk_far ?_ NB483_512.out _; (with_reducible repeat (first | refine blk_drewN ?_ _ | refine blk_drew ?_ | refine blk_alloc ?_ _)); refine blk_far ?_ NB483_512.out _; (with_reducible repeat (first | refine blk_drewN ?_ _ | refine blk_drew ?_ | refine blk_alloc ?_ _)); exact BK483.out) hb); have n3_ := Aside0.mk (blk_below (g := gb492) (o := .cells #[.int .i64 t489, .int .i64 t490, .int .i64 t491] 39 (0, 0)) (by (with_reducible repeat (first | refine blk_drewN ?_ _ | refine blk_drew ?_ | refine blk_alloc ?_ _)); refine blk_far ?_ NB492_512.out _; (with_reducible repeat (first | refine blk_drewN ?_ _ | refine blk_drew ?_ | refine blk_alloc ?_ _)); refine blk_far ?_ NB492_512.out _; (with_reducible repeat (first | refine blk_drewN ?_ _ | refine blk_drew ?_ | refine blk_alloc ?_ _)); refine blk_far ?_ NB492_512.out _; (with_reducible repeat (first | refine blk_drewN ?_ _ | refine blk_drew ?_ | refine blk_alloc ?_ _)); exact BK492.out) hb); have n4_ := Aside0.mk (blk_below (g := gb496) (o := .cells #[.int .i64 t493, .int .i64 t494, .int .i64 t495] 39 (0, 0)) (by (with_reducible repeat (first | refine blk_drewN ?_ _ | refine blk_drew ?_ | refine blk_alloc ?_ _)); refine blk_far ?_ NB496_512.out _; (with_reducible repeat (first | refine blk_drewN ?_ _ | refine blk_drew ?_ | refine blk_alloc ?_ _)); refine blk_far ?_ NB496_512.out _; (with_reducible repeat (first | refine blk_drewN ?_ _ | refine blk_drew ?_ | refine blk_alloc ?_ _)); refine blk_far ?_ NB496_512.out _; (with_reducible repeat (first | refine blk_drewN ?_ _ | refine blk_drew ?_ | refine blk_alloc ?_ _)); exact BK496.out) hb); have n5_ := Aside0.mk (blk_below (g := gb512) (o := .cells #[.int .i64 t509, .int .i64 t510, .int .i64 t511] 39 (0, 0)) (by (with_reducible repeat (first | refine blk_drewN ?_ _ | refine blk_drew ?_ | refine blk_alloc ?_ _)); refine blk_put (cs := #[.int .i64 t509, .int .i64 t510, .int .i64 0]) ?_ 2 _ rfl; (with_reducible repeat (first | refine blk_drewN ?_ _ | refine blk_drew ?_ | refine blk_alloc ?_ _)); refine blk_put (cs := #[.int .i64 t509, .int .i64 0, .int .i64 0]) ?_ 1 _ rfl; (with_reducible repeat (first | refine blk_drewN ?_ _ | refine blk_drew ?_ | refine blk_alloc ?_ _)); refine blk_put (cs := #[.int .i64 0, .int .i64 0, .int .i64 0]) ?_ 0 _ rfl; (with_reducible repeat (first | refine blk_drewN ?_ _ | refine blk_drew ?_ | refine blk_alloc ?_ _)); exact BK512.out) hb); have n6_ := Aside0.mk (below_step (by repeat (first | (with_reducible first | exact HB.out | apply below_alloc | apply pw_below_drewN | apply below_drew1 | refine below_set ?_ GE482.out | refine below_set ?_ GE483.out | refine below_set ?_ GE492.out | refine below_set ?_ GE496.out | refine below_set ?_ GE512.out) | exact HB.out)) hb); clear HO_483000; clear BK482; clear BK483; clear BK492; clear BK496; clear BK512; clear HB; have HO_483000 := n0_; have BK482 := n1_; have BK483 := n2_; have BK492 := n3_; have BK496 := n4_; have BK512 := n5_; have HB := n6_; clear n0_ n1_ n2_ n3_ n4_ n5_ n6_; (try clear hb); (try clear hb2); (try clear hk); (try clear hi)) | ((with_reducible refine gate_dst (N := 15) rfl ?_); refine box_event ?hg (N := 15) ?hd (cs := #[.int .i64 0, .int .i64 0, .int .i64 0]) (t := 39) ?hr ?_; (case hd => rfl); (case hg => rfl); (case hr => first | (go_simp; done) | (go_simp; rfl)); intro gb516 hg w83 hbox hb; have n0_ := Aside0.mk (Kd.R_below (by (with_reducible repeat (first | apply Kd.R_alloc | apply Kd.R_drewN | apply Kd.R_drew)); exact HO_483000.out) hb); have n1_ := Aside0.mk (blk_below (g := gb482) (o := .cells #[.slice Ao16 t476.length co16] 53 (0, 0)) (by (with_reducible repeat (first | refine blk_drewN ?_ _ | refine blk_drew ?_ | refine blk_alloc ?_ _)); exact BK482.out) hb); have n2_ := Aside0.mk (blk_below (g := gb483) (o := .cells #[.int .i64 t479, .int .i64 t480, .int .i64 t481] 39 (0, 0)) (by (with_reducible repeat (first | refine blk_drewN ?_ _ | refine blk_drew ?_ | refine blk_alloc ?_ _)); exact BK483.out) hb); have n3_ := Aside0.mk (blk_below (g := gb492) (o := .cells #[.int .i64 t489, .int .i64 t490, .int .i64 t491] 39 (0, 0)) (by (with_reducible repeat (first | refine blk_drewN ?_ _ | refine blk_drew ?_ | refine blk_alloc ?_ _)); exact BK492.out) hb); have n4_ := Aside0.mk (blk_below (g := gb496) (o := .cells #[.int .i64 t493, .int .i64 t494, .int .i64 t495] 39 (0, 0)) (by (with_reducible repeat (first | refine blk_drewN ?_ _ | refine blk_drew ?_ | refine blk_alloc ?_ _)); exact BK496.out) hb); have n5_ := Aside0.mk (blk_below (g := gb512) (o := .cells #[.int .i64 t509, .int .i64 t510, .int .i64 t511] 39 (0, 0)) (by (with_reducible repeat (first | refine blk_drewN ?_ _ | refine blk_drew ?_ | refine blk_alloc ?_ _)); exact BK512.out) hb); have n6_ := Aside0.mk (below_step (by repeat (first | (with_reducible first | exact HB.out | apply below_alloc | apply pw_below_drewN | apply below_drew1 | refine below_set ?_ GE482.out | refine below_set ?_ GE483.out | refine below_set ?_ GE492.out | refine below_set ?_ GE496.out | refine below_set ?_ GE512.out) | exact HB.out)) hb); have n7_ := Aside0.mk (hbox); have n8_ := Aside0.mk ((by rw [hg]; exact (below_size (by repeat (first | (with_reducible first | exact HB.out | apply below_alloc | apply pw_below_drewN | apply below_drew1 | refine below_set ?_ GE482.out | refine below_set ?_ GE483.out | refine below_set ?_ GE492.out | refine below_set ?_ GE496.out | refine below_set ?_ GE512.out) | exact HB.out))) : w.heap.size ≤ gb516)); have n9_ := Aside0.mk ((by rw [hg]; exact (below_size (by repeat (first | (with_reducible first | exact HB.out | apply below_alloc | apply pw_below_drewN | apply below_drew1 | refine below_set ?_ GE482.out | refine below_set ?_ GE483.out | refine below_set ?_ GE492.out | refine below_set ?_ GE496.out | refine below_set ?_ GE512.out) | exact HB.out))) : w.heap.size ≤ gb516)); have n10_ := Aside0.mk ((by rw [hg]; exact Nat.ne_of_lt (blk_lt (g := gb482) (o := .cells #[.slice Ao16 t476.length co16] 53 (0, 0)) (by (with_reducible repeat (first | refine blk_drewN ?_ _ | refine blk_drew ?_ | refine blk_alloc ?_ _)); exact BK482.out)) : gb482 ≠ gb516)); have n11_ := Aside0.mk ((by rw [hg]; exact Nat.ne_of_gt (blk_lt (g := gb482) (o := .cells #[.slice Ao16 t476.length co16] 53 (0, 0)) (by (with_reducible repeat (first | refine blk_drewN ?_ _ | refine blk_drew ?_ | refine blk_alloc ?_ _)); exact BK482.out)) : gb516 ≠ gb482)); have n12_ := Aside0.mk ((by rw [hg]; exact Nat.ne_of_lt (blk_lt (g := gb483) (o := .cells #[.int .i64 t479, .int .i64 t480, .int .i64 t481] 39 (0, 0)) (by (with_reducible repeat (first | refine blk_drewN ?_ _ | refine blk_drew ?_ | refine blk_alloc ?_ _)); exact BK483.out)) : gb483 ≠ gb516)); have n13_ := Aside0.mk ((by rw [hg]; exact Nat.ne_of_gt (blk_lt (g := gb483) (o := .cells #[.int .i64 t479, .int .i64 t480, .int .i64 t481] 39 (0, 0)) (by (with_reducible repeat (first | refine blk_drewN ?_ _ | refine blk_drew ?_ | refine blk_alloc ?_ _)); exact BK483.out)) : gb516 ≠ gb483)); have n14_ := Aside0.mk ((by rw [hg]; exact Nat.ne_of_lt (blk_lt (g := gb492) (o := .cells #[.int .i64 t489, .int .i64 t490, .int .i64 t491] 39 (0, 0)) (by (with_reducible repeat (first | refine blk_drewN ?_ _ | refine blk_drew ?_ | refine blk_alloc ?_ _)); exact BK492.out)) : gb492 ≠ gb516)); have n15_ := Aside0.mk ((by rw [hg]; exact Nat.ne_of_gt (blk_lt (g := gb492) (o := .cells #[.int .i64 t489, .int .i64 t490, .int .i64 t491] 39 (0, 0)) (by (with_reducible repeat (first | refine blk_drewN ?_ _ | refine blk_drew ?_ | refine blk_alloc ?_ _)); exact BK492.out)) : gb516 ≠ gb492)); have n16_ := Aside0.mk ((by rw [hg]; exact Nat.ne_of_lt (blk_lt (g := gb496) (o := .cells #[.int .i64 t493, .int .i64 t494, .int .i64 t495] 39 (0, 0)) (by (with_reducible repeat (first | refine blk_drewN ?_ _ | refine blk_drew ?_ | refine blk_alloc ?_ _)); exact BK496.out)) : gb496 ≠ gb516)); have n17_ := Aside0.mk ((by rw [hg]; exact Nat.ne_of_gt (blk_lt (g := gb496) (o := .cells #[.int .i64 t493, .int .i64 t494, .int .i64 t495] 39 (0, 0)) (by (with_reducible repeat (first | refine blk_drewN ?_ _ | refine blk_drew ?_ | refine blk_alloc ?_ _)); exact BK496.out)) : gb516 ≠ gb496)); have n18_ := Aside0.mk ((by rw [hg]; exact Nat.ne_of_lt (blk_lt (g := gb512) (o := .cells #[.int .i64 t509, .int .i64 t510, .int .i64 t511] 39 (0, 0)) (by (with_reducible repeat (first | refine blk_drewN ?_ _ | refine blk_drew ?_ | refine blk_alloc ?_ _)); exact BK512.out)) : gb512 ≠ gb516)); have n19_ := Aside0.mk ((by rw [hg]; exact Nat.ne_of_gt (blk_lt (g := gb512) (o := .cells #[.int .i64 t509, .int .i64 t510, .int .i64 t511] 39 (0, 0)) (by (with_reducible repeat (first | refine blk_drewN ?_ _ | refine blk_drew ?_ | refine blk_alloc ?_ _)); exact BK512.out)) : gb516 ≠ gb512)); clear HO_483000; clear BK482; clear BK483; clear BK492; clear BK496; clear BK512; clear HB; have HO_483000 := n0_; have BK482 := n1_; have BK483 := n2_; have BK492 := n3_; have BK496 := n4_; have BK512 := n5_; have HB := n6_; have BK516 := n7_; have GW516 := n8_; have GE516 := n9_; have NB482_516 := n10_; have NB516_482 := n11_; have NB483_516 := n12_; have NB516_483 := n13_; have NB492_516 := n14_; have NB516_492 := n15_; have NB496_516 := n16_; have NB516_496 := n17_; have NB512_516 := n18_; have NB516_512 := n19_; clear n0_ n1_ n2_ n3_ n4_ n5_ n6_ n7_ n8_ n9_ n10_ n11_ n12_ n13_ n14_ n15_ n16_ n17_ n18_ n19_; clear hb hbox hg; have hnb84 := NB516_482.out; have hnc84 := NB482_516.out; have hnb85 := NB516_483.out; have hnc85 := NB483_516.out; have hnb86 := NB516_492.out; have hnc86 := NB492_516.out; have hnb87 := NB516_496.out; have hnc87 := NB496_516.out; have hnb88 := NB516_512.out; have hnc88 := NB512_516.out; have hcz89_0 : w83.cell? ⟨gb516, 0, none⟩ = some (.int .i64 0) := (blk_cell BK516.out 0).trans rfl; have hcz89_1 : w83.cell? ⟨gb516, 1, none⟩ = some (.int .i64 0) := (blk_cell BK516.out 1).trans rfl; have hcz89_2 : w83.cell? ⟨gb516, 2, none⟩ = some (.int .i64 0) := (blk_cell BK516.out 2).trans rfl; have hfz89_0 := blk_frozen BK516.out 0; have hfz89_1 := blk_frozen BK516.out 1; have hfz89_2 := blk_frozen BK516.out 2; have hcz90_0 : w83.cell? ⟨gb512, 0, none⟩ = some (.int .i64 t509) := (blk_cell BK512.out 0).trans rfl; have hcz90_1 : w83.cell? ⟨gb512, 1, none⟩ = some (.int .i64 t510) := (blk_cell BK512.out 1).trans rfl; have hcz90_2 : w83.cell? ⟨gb512, 2, none⟩ = some (.int .i64 t511) := (blk_cell BK512.out 2).trans rfl; have hfz90_0 := blk_frozen BK512.out 0; have hfz90_1 := blk_frozen BK512.out 1; have hfz90_2 := blk_frozen BK512.out 2; have hcz91_0 : w83.cell? ⟨gb483, 0, none⟩ = some (.int .i64 t479) := (blk_cell BK483.out 0).trans rfl; have hcz91_1 : w83.cell? ⟨gb483, 1, none⟩ = some (.int .i64 t480) := (blk_cell BK483.out 1).trans rfl; have hcz91_2 : w83.cell? ⟨gb483, 2, none⟩ = some (.int .i64 t481) := (blk_cell BK483.out 2).trans rfl; have hfz91_0 := blk_frozen BK483.out 0; have hfz91_1 := blk_frozen BK483.out 1; have hfz91_2 := blk_frozen BK483.out 2))
          go_ret
          exact ⟨by first | rfl | (simp [errW_none, errW_some] <;> rfl) | (simp [*, errW_none, errW_some] <;> rfl), by repeat (first | (with_reducible first | exact HB.out | apply below_alloc | apply pw_below_drewN | apply below_drew1 | refine below_set ?_ GE482.out | refine below_set ?_ GE483.out | refine below_set ?_ GE492.out | refine below_set ?_ GE496.out | refine below_set ?_ GE512.out | refine below_set ?_ GE516.out) | exact HB.out)⟩
         ·rw [if_neg c65] at H
          have c65b0 : (t497 == t480) = false := beq_eq_false_iff_ne.mpr c65
          have c65b1 : (t497 != t480) = true := bne_iff_ne.mpr c65
          by_cases c92 : t497 > t480
          ·rw [if_pos c92] at H
           have c92b0 : decide (t480 < t497) = true := decide_eq_true c92
           clear c92
           obtain rfl := Option.some.inj H
           have hnb93 := NB482_483.out
           have hnc93 := NB483_482.out
           have hnb94 := NB482_492.out
           have hnc94 := NB492_482.out
           have hnb95 := NB482_496.out
           have hnc95 := NB496_482.out
           have hcz96_0 : wc.cell? ⟨gb482, 0, none⟩ = some (.slice Ao16 t476.length co16) := (blk_cell BK482.out 0).trans rfl
           have hfz96_0 := blk_frozen BK482.out 0
           have hnb97 := NB483_492.out
           have hnc97 := NB492_483.out
           have hnb98 := NB483_496.out
           have hnc98 := NB496_483.out
           have hcz99_0 : wc.cell? ⟨gb483, 0, none⟩ = some (.int .i64 t479) := (blk_cell BK483.out 0).trans rfl
           have hcz99_1 : wc.cell? ⟨gb483, 1, none⟩ = some (.int .i64 t480) := (blk_cell BK483.out 1).trans rfl
           have hcz99_2 : wc.cell? ⟨gb483, 2, none⟩ = some (.int .i64 t481) := (blk_cell BK483.out 2).trans rfl
           have hfz99_0 := blk_frozen BK483.out 0
           have hfz99_1 := blk_frozen BK483.out 1
           have hfz99_2 := blk_frozen BK483.out 2
           go_wp2_with (first | ((with_reducible refine gate_callee (f := 36) rfl ?_); refine goesL_ (some 121) rfl rfl Try.func36 (by kernel_rfl) rfl #[.agg #[.slice Ao16 t476.length co16], .agg #[.int .i64 t479, .int .i64 t480, .int .i64 t481], .int .i64 t497] rfl (by (try simp only [List.map_toArray, List.map_cons, List.map_nil]); first | done | rfl | (simp only [List.length_drop, List.length_take]; rfl)) ?_; (with_reducible refine (impl_Elapse.calls kj11 _ _ t476 t479 t480 t481 t497 t509 t510 t511 _ ?side1 ?side2 A62.out).mono ?_); (case side1 => repeat (first | exact (Kd.R_reads' HO_483000.out).2.2 | (with_reducible refine Kd.C_alloc ?_ _) | (with_reducible refine Kd.C_drewN ?_ _) | (with_reducible refine Kd.C_drew ?_))); (case side2 => exact (Kd.R_reads' HO_483000.out).2.1); rintro e w100 ⟨rfl, hb⟩; refine ⟨_, rfl, ?_⟩; have n0_ := Aside0.mk (Kd.R_below (by (with_reducible repeat (first | apply Kd.R_alloc | apply Kd.R_drewN | apply Kd.R_drew)); exact HO_483000.out) hb); have n1_ := Aside0.mk (blk_below (g := gb482) (o := .cells #[.slice Ao16 t476.length co16] 53 (0, 0)) (by (with_reducible repeat (first | refine blk_drewN ?_ _ | refine blk_drew ?_ | refine blk_alloc ?_ _)); exact BK482.out) hb); have n2_ := Aside0.mk (blk_below (g := gb483) (o := .cells #[.int .i64 t479, .int .i64 t480, .int .i64 t481] 39 (0, 0)) (by (with_reducible repeat (first | refine blk_drewN ?_ _ | refine blk_drew ?_ | refine blk_alloc ?_ _)); exact BK483.out) hb); have n3_ := Aside0.mk (blk_below (g := gb492) (o := .cells #[.int .i64 t489, .int .i64 t490, .int .i64 t491] 39 (0, 0)) (by (with_reducible repeat (first | refine blk_drewN ?_ _ | refine blk_drew ?_ | refine blk_alloc ?_ _)); exact BK492.out) hb); have n4_ := Aside0.mk (blk_below (g := gb496) (o := .cells #[.int .i64 t493, .int .i64 t494, .int .i64 t495] 39 (0, 0)) (by (with_reducible repeat (first | refine blk_drewN ?_ _ | refine blk_drew ?_ | refine blk_alloc ?_ _)); exact BK496.out) hb); have n5_ := Aside0.mk (below_step (by repeat (first | (with_reducible first | exact HB.out | apply below_alloc | apply pw_below_drewN | apply below_drew1 | refine below_set ?_ GE482.out | refine below_set ?_ GE483.out | refine below_set ?_ GE492.out | refine below_set ?_ GE496.out) | exact HB.out)) hb); clear HO_483000; clear BK482; clear BK483; clear BK492; clear BK496; clear HB; have HO_483000 := n0_; have BK482 := n1_; have BK483 := n2_; have BK492 := n3_; have BK496 := n4_; have HB := n5_; clear n0_ n1_ n2_ n3_ n4_ n5_; (try clear hb); (try clear hb2); (try clear hk); (try clear hi)) | ((with_reducible refine gate_dst (N := 14) rfl ?_); refine box_event ?hg (N := 14) ?hd (cs := #[.int .i64 0, .int .i64 0, .int .i64 0]) (t := 39) ?hr ?_; (case hd => rfl); (case hg => rfl); (case hr => first | (go_simp; done) | (go_simp; rfl)); intro gb512 hg w101 hbox hb; have n0_ := Aside0.mk (Kd.R_below (by (with_reducible repeat (first | apply Kd.R_alloc | apply Kd.R_drewN | apply Kd.R_drew)); exact HO_483000.out) hb); have n1_ := Aside0.mk (blk_below (g := gb482) (o := .cells #[.slice Ao16 t476.length co16] 53 (0, 0)) (by (with_reducible repeat (first | refine blk_drewN ?_ _ | refine blk_drew ?_ | refine blk_alloc ?_ _)); exact BK482.out) hb); have n2_ := Aside0.mk (blk_below (g := gb483) (o := .cells #[.int .i64 t479, .int .i64 t480, .int .i64 t481] 39 (0, 0)) (by (with_reducible repeat (first | refine blk_drewN ?_ _ | refine blk_drew ?_ | refine blk_alloc ?_ _)); exact BK483.out) hb); have n3_ := Aside0.mk (blk_below (g := gb492) (o := .cells #[.int .i64 t489, .int .i64 t490, .int .i64 t491] 39 (0, 0)) (by (with_reducible repeat (first | refine blk_drewN ?_ _ | refine blk_drew ?_ | refine blk_alloc ?_ _)); exact BK492.out) hb); have n4_ := Aside0.mk (blk_below (g := gb496) (o := .cells #[.int .i64 t493, .int .i64 t494, .int .i64 t495] 39 (0, 0)) (by (with_reducible repeat (first | refine blk_drewN ?_ _ | refine blk_drew ?_ | refine blk_alloc ?_ _)); exact BK496.out) hb); have n5_ := Aside0.mk (below_step (by repeat (first | (with_reducible first | exact HB.out | apply below_alloc | apply pw_below_drewN | apply below_drew1 | refine below_set ?_ GE482.out | refine below_set ?_ GE483.out | refine below_set ?_ GE492.out | refine below_set ?_ GE496.out) | exact HB.out)) hb); have n6_ := Aside0.mk (hbox); have n7_ := Aside0.mk ((by rw [hg]; exact (below_size (by repeat (first | (with_reducible first | exact HB.out | apply below_alloc | apply pw_below_drewN | apply below_drew1 | refine below_set ?_ GE482.out | refine below_set ?_ GE483.out | refine below_set ?_ GE492.out | refine below_set ?_ GE496.out) | exact HB.out))) : w.heap.size ≤ gb512)); have n8_ := Aside0.mk ((by rw [hg]; exact (below_size (by repeat (first | (with_reducible first | exact HB.out | apply below_alloc | apply pw_below_drewN | apply below_drew1 | refine below_set ?_ GE482.out | refine below_set ?_ GE483.out | refine below_set ?_ GE492.out | refine below_set ?_ GE496.out) | exact HB.out))) : w.heap.size ≤ gb512)); have n9_ := Aside0.mk ((by rw [hg]; exact Nat.ne_of_lt (blk_lt (g := gb482) (o := .cells #[.slice Ao16 t476.length co16] 53 (0, 0)) (by (with_reducible repeat (first | refine blk_drewN ?_ _ | refine blk_drew ?_ | refine blk_alloc ?_ _)); exact BK482.out)) : gb482 ≠ gb512)); have n10_ := Aside0.mk ((by rw [hg]; exact Nat.ne_of_gt (blk_lt (g := gb482) (o := .cells #[.slice Ao16 t476.length co16] 53 (0, 0)) (by (with_reducible repeat (first | refine blk_drewN ?_ _ | refine blk_drew ?_ | refine blk_alloc ?_ _)); exact BK482.out)) : gb512 ≠ gb482)); have n11_ := Aside0.mk ((by rw [hg]; exact Nat.ne_of_lt (blk_lt (g := gb483) (o := .cells #[.int .i64 t479, .int .i64 t480, .int .i64 t481] 39 (0, 0)) (by (with_reducible repeat (first | refine blk_drewN ?_ _ | refine blk_drew ?_ | refine blk_alloc ?_ _)); exact BK483.out)) : gb483 ≠ gb512)); have n12_ := Aside0.mk ((by rw [hg]; exact Nat.ne_of_gt (blk_lt (g := gb483) (o := .cells #[.int .i64 t479, .int .i64 t480, .int .i64 t481] 39 (0, 0)) (by (with_reducible repeat (first | refine blk_drewN ?_ _ | refine blk_drew ?_ | refine blk_alloc ?_ _)); exact BK483.out)) : gb512 ≠ gb483)); have n13_ := Aside0.mk ((by rw [hg]; exact Nat.ne_of_lt (blk_lt (g := gb492) (o := .cells #[.int .i64 t489, .int .i64 t490, .int .i64 t491] 39 (0, 0)) (by (with_reducible repeat (first | refine blk_drewN ?_ _ | refine blk_drew ?_ | refine blk_alloc ?_ _)); exact BK492.out)) : gb492 ≠ gb512)); have n14_ := Aside0.mk ((by rw [hg]; exact Nat.ne_of_gt (blk_lt (g := gb492) (o := .cells #[.int .i64 t489, .int .i64 t490, .int .i64 t491] 39 (0, 0)) (by (with_reducible repeat (first | refine blk_drewN ?_ _ | refine blk_drew ?_ | refine blk_alloc ?_ _)); exact BK492.out)) : gb512 ≠ gb492)); have n15_ := Aside0.mk ((by rw [hg]; exact Nat.ne_of_lt (blk_lt (g := gb496) (o := .cells #[.int .i64 t493, .int .i64 t494, .int .i64 t495] 39 (0, 0)) (by (with_reducible repeat (first | refine blk_drewN ?_ _ | refine blk_drew ?_ | refine blk_alloc ?_ _)); exact BK496.out)) : gb496 ≠ gb512)); have n16_ := Aside0.mk ((by rw [hg]; exact Nat.ne_of_gt (blk_lt (g := gb496) (o := .cells #[.int .i64 t493, .int .i64 t494, .int .i64 t495] 39 (0, 0)) (by (with_reducible repeat (first | refine blk_drewN ?_ _ | refine blk_drew ?_ | refine blk_alloc ?_ _)); exact BK496.out)) : gb512 ≠ gb496)); clear HO_483000; clear BK482; clear BK483; clear BK492; clear BK496; clear HB; have HO_483000 := n0_; have BK482 := n1_; have BK483 := n2_; have BK492 := n3_; have BK496 := n4_; have HB := n5_; have BK512 := n6_; have GW512 := n7_; have GE512 := n8_; have NB482_512 := n9_; have NB512_482 := n10_; have NB483_512 := n11_; have NB512_483 := n12_; have NB492_512 := n13_; have NB512_492 := n14_; have NB496_512 := n15_; have NB512_496 := n16_; clear n0_ n1_ n2_ n3_ n4_ n5_ n6_ n7_ n8_ n9_ n10_ n11_ n12_ n13_ n14_ n15_ n16_; clear hb hbox hg; have hnb102 := NB512_482.out; have hnc102 := NB482_512.out; have hnb103 := NB512_483.out; have hnc103 := NB483_512.out; have hnb104 := NB512_492.out; have hnc104 := NB492_512.out; have hnb105 := NB512_496.out; have hnc105 := NB496_512.out; have hcz106_0 : w101.cell? ⟨gb512, 0, none⟩ = some (.int .i64 0) := (blk_cell BK512.out 0).trans rfl; have hcz106_1 : w101.cell? ⟨gb512, 1, none⟩ = some (.int .i64 0) := (blk_cell BK512.out 1).trans rfl; have hcz106_2 : w101.cell? ⟨gb512, 2, none⟩ = some (.int .i64 0) := (blk_cell BK512.out 2).trans rfl; have hfz106_0 := blk_frozen BK512.out 0; have hfz106_1 := blk_frozen BK512.out 1; have hfz106_2 := blk_frozen BK512.out 2; have hcz107_0 : w101.cell? ⟨gb482, 0, none⟩ = some (.slice Ao16 t476.length co16) := (blk_cell BK482.out 0).trans rfl; have hfz107_0 := blk_frozen BK482.out 0; have hcz108_0 : w101.cell? ⟨gb483, 0, none⟩ = some (.int .i64 t479) := (blk_cell BK483.out 0).trans rfl; have hcz108_1 : w101.cell? ⟨gb483, 1, none⟩ = some (.int .i64 t480) := (blk_cell BK483.out 1).trans rfl; have hcz108_2 : w101.cell? ⟨gb483, 2, none⟩ = some (.int .i64 t481) := (blk_cell BK483.out 2).trans rfl; have hfz108_0 := blk_frozen BK483.out 0; have hfz108_1 := blk_frozen BK483.out 1; have hfz108_2 := blk_frozen BK483.out 2) | ((with_reducible refine gate_callee (f := 36) rfl ?_); refine goesL_ (some 126) rfl rfl Try.func36 (by kernel_rfl) rfl #[.agg #[.slice Ao16 t476.length co16], .agg #[.int .i64 t479, .int .i64 t480, .int .i64 t481], .int .i64 (wrap64 (t497 - 1))] rfl (by (try simp only [List.map_toArray, List.map_cons, List.map_nil]); first | done | rfl | (simp only [List.length_drop, List.length_take]; rfl)) ?_; (with_reducible refine (impl_Elapse.calls kj11 _ _ t476 t479 t480 t481 (wrap64 (t497 - 1)) t513 t514 t515 _ ?side1 ?side2 A63.out).mono ?_); (case side1 => refine (Kd.R_reads' (e := 3) (base := w.heap.size) (ok := fun k_ => True) (n := t476.length) (c := co16) ?_).2.2; exact (by (with_reducible repeat (first | apply Kd.R_alloc | apply Kd.R_drewN | apply Kd.R_drew)); exact (Kd.R_mono (Kd.R_far (p := ⟨gb512, 2, none⟩) (Kd.R_far (p := ⟨gb512, 1, none⟩) (Kd.R_far (p := ⟨gb512, 0, none⟩) (Kd.R_types HO_483000.out BK512.out (by decide)) (fun _ hk => hk.2) (.int .i64 t509)) (fun _ hk => hk.2) (.int .i64 t510)) (fun _ hk => hk.2) (.int .i64 t511)) (fun _ h_ => h_.1)))); (case side2 => exact (Kd.R_reads' HO_483000.out).2.1); rintro e w109 ⟨rfl, hb⟩; refine ⟨_, rfl, ?_⟩; have n0_ := Aside0.mk (Kd.R_below (by (with_reducible repeat (first | apply Kd.R_alloc | apply Kd.R_drewN | apply Kd.R_drew)); exact (Kd.R_mono (Kd.R_far (p := ⟨gb512, 2, none⟩) (Kd.R_far (p := ⟨gb512, 1, none⟩) (Kd.R_far (p := ⟨gb512, 0, none⟩) (Kd.R_types HO_483000.out BK512.out (by decide)) (fun _ hk => hk.2) (.int .i64 t509)) (fun _ hk => hk.2) (.int .i64 t510)) (fun _ hk => hk.2) (.int .i64 t511)) (fun _ h_ => h_.1))) hb); have n1_ := Aside0.mk (blk_below (g := gb482) (o := .cells #[.slice Ao16 t476.length co16] 53 (0, 0)) (by (with_reducible repeat (first | refine blk_drewN ?_ _ | refine blk_drew ?_ | refine blk_alloc ?_ _)); refine blk_far ?_ NB482_512.out _; (with_reducible repeat (first | refine blk_drewN ?_ _ | refine blk_drew ?_ | refine blk_alloc ?_ _)); refine blk_far ?_ NB482_512.out _; (with_reducible repeat (first | refine blk_drewN ?_ _ | refine blk_drew ?_ | refine blk_alloc ?_ _)); refine blk_far ?_ NB482_512.out _; (with_reducible repeat (first | refine blk_drewN ?_ _ | refine blk_drew ?_ | refine blk_alloc ?_ _)); exact BK482.out) hb); have n2_ := Aside0.mk (blk_below (g := gb483) (o := .cells #[.int .i64 t479, .int .i64 t480, .int .i64 t481] 39 (0, 0)) (by (with_reducible repeat (first | refine blk_drewN ?_ _ | refine blk_drew ?_ | refine blk_alloc ?_ _)); refine blk_far ?_ NB483_512.out _; (with_reducible repeat (first | refine blk_drewN ?_ _ | refine blk_drew ?_ | refine blk_alloc ?_ _)); refine blk_far ?_ NB483_512.out _; (with_reducible repeat (first | refine blk_drewN ?_ _ | refine blk_drew ?_ | refine blk_alloc ?_ _)); refine blk_far ?_ NB483_512.out _; (with_reducible repeat (first | refine blk_drewN ?_ _ | refine blk_drew ?_ | refine blk_alloc ?_ _)); exact BK483.out) hb); have n3_ := Aside0.mk (blk_below (g := gb492) (o := .cells #[.int .i64 t489, .int .i64 t490, .int .i64 t491] 39 (0, 0)) (by (with_reducible repeat (first | refine blk_drewN ?_ _ | refine blk_drew ?_ | refine blk_alloc ?_ _)); refine blk_far ?_ NB492_512.out _; (with_reducible repeat (first | refine blk_drewN ?_ _ | refine blk_drew ?_ | refine blk_alloc ?_ _)); refine blk_far ?_ NB492_512.out _; (with_reducible repeat (first | refine blk_drewN ?_ _ | refine blk_drew ?_ | refine blk_alloc ?_ _)); refine blk_far ?_ NB492_512.out _; (with_reducible repeat (first | refine blk_drewN ?_ _ | refine blk_drew ?_ | refine blk_alloc ?_ _)); exact BK492.out) hb); have n4_ := Aside0.mk (blk_below (g := gb496) (o := .cells #[.int .i64 t493, .int .i64 t494, .int .i64 t495] 39 (0, 0)) (by (with_reducible repeat (first | refine blk_drewN ?_ _ | refine blk_drew ?_ | refine blk_alloc ?_ _)); refine blk_far ?_ NB496_512.out _; (with_reducible repeat (first | refine blk_drewN ?_ _ | refine blk_drew ?_ | refine blk_alloc ?_ _)); refine blk_far ?_ NB496_512.out _; (with_reducible repeat (first | refine blk_drewN ?_ _ | refine blk_drew ?_ | refine blk_alloc ?_ _)); refine blk_far ?_ NB496_512.out _; (with_reducible repeat (first | refine blk_drewN ?_ _ | refine blk_drew ?_ | refine blk_alloc ?_ _)); exact BK496.out) hb); have n5_ := Aside0.mk (blk_below (g := gb512) (o := .cells #[.int .i64 t509, .int .i64 t510, .int .i64 t511] 39 (0, 0)) (by (with_reducible repeat (first | refine blk_drewN ?_ _ | refine blk_drew ?_ | refine blk_alloc ?_ _)); refine blk_put (cs := #[.int .i64 t509, .int .i64 t510, .int .i64 0]) ?_ 2 _ rfl; (with_reducible repeat (first | refine blk_drewN ?_ _ | refine blk_drew ?_ | refine blk_alloc ?_ _)); refine blk_put (cs := #[.int .i64 t509, .int .i64 0, .int .i64 0]) ?_ 1 _ rfl; (with_reducible repeat (first | refine blk_drewN ?_ _ | refine blk_drew ?_ | refine blk_alloc ?_ _)); refine blk_put (cs := #[.int .i64 0, .int .i64 0, .int .i64 0]) ?_ 0 _ rfl; (with_reducible repeat (first | refine blk_drewN ?_ _ | refine blk_drew ?_ | refine blk_alloc ?_ _)); exact BK512.out) hb); have n6_ := Aside0.mk (below_step (by repeat (first | (with_reducible first | exact HB.out | apply below_alloc | apply pw_below_drewN | apply below_drew1 | refine below_set ?_ GE482.out | refine below_set ?_ GE483.out | refine below_set ?_ GE492.out | refine below_set ?_ GE496.out | refine below_set ?_ GE512.out) | exact HB.out)) hb); clear HO_483000; clear BK482; clear BK483; clear BK492; clear BK496; clear BK512; clear HB; have HO_483000 := n0_; have BK482 := n1_; have BK483 := n2_; have BK492 := n3_; have BK496 := n4_; have BK512 := n5_; have HB := n6_; clear n0_ n1_ n2_ n3_ n4_ n5_ n6_; (try clear hb); (try clear hb2); (try clear hk); (try clear hi)) | ((with_reducible refine gate_dst (N := 15) rfl ?_); refine box_event ?hg (N := 15) ?hd (cs := #[.int .i64 0, .int .i64 0, .int .i64 0]) (t := 39) ?hr ?_; (case hd => rfl); (case hg => rfl); (case hr => first | (go_simp; done) | (go_simp; rfl)); intro gb516 hg w110 hbox hb; have n0_ := Aside0.mk (Kd.R_below (by (with_reducible repeat (first | apply Kd.R_alloc | apply Kd.R_drewN | apply Kd.R_drew)); exact HO_483000.out) hb); have n1_ := Aside0.mk (blk_below (g := gb482) (o := .cells #[.slice Ao16 t476.length co16] 53 (0, 0)) (by (with_reducible repeat (first | refine blk_drewN ?_ _ | refine blk_drew ?_ | refine blk_alloc ?_ _)); exact BK482.out) hb); have n2_ := Aside0.mk (blk_below (g := gb483) (o := .cells #[.int .i64 t479, .int .i64 t480, .int .i64 t481] 39 (0, 0)) (by (with_reducible repeat (first | refine blk_drewN ?_ _ | refine blk_drew ?_ | refine blk_alloc ?_ _)); exact BK483.out) hb); have n3_ := Aside0.mk (blk_below (g := gb492) (o := .cells #[.int .i64 t489, .int .i64 t490, .int .i64 t491] 39 (0, 0)) (by (with_reducible repeat (first | refine blk_drewN ?_ _ | refine blk_drew ?_ | refine blk_alloc ?_ _)); exact BK492.out) hb); have n4_ := Aside0.mk (blk_below (g := gb496) (o := .cells #[.int .i64 t493, .int .i64 t494, .int .i64 t495] 39 (0, 0)) (by (with_reducible repeat (first | refine blk_drewN ?_ _ | refine blk_drew ?_ | refine blk_alloc ?_ _)); exact BK496.out) hb); have n5_ := Aside0.mk (blk_below (g := gb512) (o := .cells #[.int .i64 t509, .int .i64 t510, .int .i64 t511] 39 (0, 0)) (by (with_reducible repeat (first | refine blk_drewN ?_ _ | refine blk_drew ?_ | refine blk_alloc ?_ _)); exact BK512.out) hb); have n6_ := Aside0.mk (below_step (by repeat (first | (with_reducible first | exact HB.out | apply below_alloc | apply pw_below_drewN | apply below_drew1 | refine below_set ?_ GE482.out | refine below_set ?_ GE483.out | refine below_set ?_ GE492.out | refine below_set ?_ GE496.out | refine below_set ?_ GE512.out) | exact HB.out)) hb); have n7_ := Aside0.mk (hbox); have n8_ := Aside0.mk ((by rw [hg]; exact (below_size (by repeat (first | (with_reducible first | exact HB.out | apply below_alloc | apply pw_below_drewN | apply below_drew1 | refine below_set ?_ GE482.out | refine below_set ?_ GE483.out | refine below_set ?_ GE492.out | refine below_set ?_ GE496.out | refine below_set ?_ GE512.out) | exact HB.out))) : w.heap.size ≤ gb516)); have n9_ := Aside0.mk ((by rw [hg]; exact (below_size (by repeat (first | (with_reducible first | exact HB.out | apply below_alloc | apply pw_below_drewN | apply below_drew1 | refine below_set ?_ GE482.out | refine below_set ?_ GE483.out | refine below_set ?_ GE492.out | refine below_set ?_ GE496.out | refine below_set ?_ GE512.out) | exact HB.out))) : w.heap.size ≤ gb516)); have n10_ := Aside0.mk ((by rw [hg]; exact Nat.ne_of_lt (blk_lt (g := gb482) (o := .cells #[.slice Ao16 t476.length co16] 53 (0, 0)) (by (with_reducible repeat (first | refine blk_drewN ?_ _ | refine blk_drew ?_ | refine blk_alloc ?_ _)); exact BK482.out)) : gb482 ≠ gb516)); have n11_ := Aside0.mk ((by rw [hg]; exact Nat.ne_of_gt (blk_lt (g := gb482) (o := .cells #[.slice Ao16 t476.length co16] 53 (0, 0)) (by (with_reducible repeat (first | refine blk_drewN ?_ _ | refine blk_drew ?_ | refine blk_alloc ?_ _)); exact BK482.out)) : gb516 ≠ gb482)); have n12_ := Aside0.mk ((by rw [hg]; exact Nat.ne_of_lt (blk_lt (g := gb483) (o := .cells #[.int .i64 t479, .int .i64 t480, .int .i64 t481] 39 (0, 0)) (by (with_reducible repeat (first | refine blk_drewN ?_ _ | refine blk_drew ?_ | refine blk_alloc ?_ _)); exact BK483.out)) : gb483 ≠ gb516)); have n13_ := Aside0.mk ((by rw [hg]; exact Nat.ne_of_gt (blk_lt (g := gb483) (o := .cells #[.int .i64 t479, .int .i64 t480, .int .i64 t481] 39 (0, 0)) (by (with_reducible repeat (first | refine blk_drewN ?_ _ | refine blk_drew ?_ | refine blk_alloc ?_ _)); exact BK483.out)) : gb516 ≠ gb483)); have n14_ := Aside0.mk ((by rw [hg]; exact Nat.ne_of_lt (blk_lt (g := gb492) (o := .cells #[.int .i64 t489, .int .i64 t490, .int .i64 t491] 39 (0, 0)) (by (with_reducible repeat (first | refine blk_drewN ?_ _ | refine blk_drew ?_ | refine blk_alloc ?_ _)); exact BK492.out)) : gb492 ≠ gb516)); have n15_ := Aside0.mk ((by rw [hg]; exact Nat.ne_of_gt (blk_lt (g := gb492) (o := .cells #[.int .i64 t489, .int .i64 t490, .int .i64 t491] 39 (0, 0)) (by (with_reducible repeat (first | refine blk_drewN ?_ _ | refine blk_drew ?_ | refine blk_alloc ?_ _)); exact BK492.out)) : gb516 ≠ gb492)); have n16_ := Aside0.mk ((by rw [hg]; exact Nat.ne_of_lt (blk_lt (g := gb496) (o := .cells #[.int .i64 t493, .int .i64 t494, .int .i64 t495] 39 (0, 0)) (by (with_reducible repeat (first | refine blk_drewN ?_ _ | refine blk_drew ?_ | refine blk_alloc ?_ _)); exact BK496.out)) : gb496 ≠ gb516)); have n17_ := Aside0.mk ((by rw [hg]; exact Nat.ne_of_gt (blk_lt (g := gb496) (o := .cells #[.int .i64 t493, .int .i64 t494, .int .i64 t495] 39 (0, 0)) (by (with_reducible repeat (first | refine blk_drewN ?_ _ | refine blk_drew ?_ | refine blk_alloc ?_ _)); exact BK496.out)) : gb516 ≠ gb496)); have n18_ := Aside0.mk ((by rw [hg]; exact Nat.ne_of_lt (blk_lt (g := gb512) (o := .cells #[.int .i64 t509, .int .i64 t510, .int .i64 t511] 39 (0, 0)) (by (with_reducible repeat (first | refine blk_drewN ?_ _ | refine blk_drew ?_ | refine blk_alloc ?_ _)); exact BK512.out)) : gb512 ≠ gb516)); have n19_ := Aside0.mk ((by rw [hg]; exact Nat.ne_of_gt (blk_lt (g := gb512) (o := .cells #[.int .i64 t509, .int .i64 t510, .int .i64 t511] 39 (0, 0)) (by (with_reducible repeat (first | refine blk_drewN ?_ _ | refine blk_drew ?_ | refine blk_alloc ?_ _)); exact BK512.out)) : gb516 ≠ gb512)); clear HO_483000; clear BK482; clear BK483; clear BK492; clear BK496; clear BK512; clear HB; have HO_483000 := n0_; have BK482 := n1_; have BK483 := n2_; have BK492 := n3_; have BK496 := n4_; have BK512 := n5_; have HB := n6_; have BK516 := n7_; have GW516 := n8_; have GE516 := n9_; have NB482_516 := n10_; have NB516_482 := n11_; have NB483_516 := n12_; have NB516_483 := n13_; have NB492_516 := n14_; have NB516_492 := n15_; have NB496_516 := n16_; have NB516_496 := n17_; have NB512_516 := n18_; have NB516_512 := n19_; clear n0_ n1_ n2_ n3_ n4_ n5_ n6_ n7_ n8_ n9_ n10_ n11_ n12_ n13_ n14_ n15_ n16_ n17_ n18_ n19_; clear hb hbox hg; have hnb111 := NB516_482.out; have hnc111 := NB482_516.out; have hnb112 := NB516_483.out; have hnc112 := NB483_516.out; have hnb113 := NB516_492.out; have hnc113 := NB492_516.out; have hnb114 := NB516_496.out; have hnc114 := NB496_516.out; have hnb115 := NB516_512.out; have hnc115 := NB512_516.out; have hcz116_0 : w110.cell? ⟨gb516, 0, none⟩ = some (.int .i64 0) := (blk_cell BK516.out 0).trans rfl; have hcz116_1 : w110.cell? ⟨gb516, 1, none⟩ = some (.int .i64 0) := (blk_cell BK516.out 1).trans rfl; have hcz116_2 : w110.cell? ⟨gb516, 2, none⟩ = some (.int .i64 0) := (blk_cell BK516.out 2).trans rfl; have hfz116_0 := blk_frozen BK516.out 0; have hfz116_1 := blk_frozen BK516.out 1; have hfz116_2 := blk_frozen BK516.out 2; have hcz117_0 : w110.cell? ⟨gb512, 0, none⟩ = some (.int .i64 t509) := (blk_cell BK512.out 0).trans rfl; have hcz117_1 : w110.cell? ⟨gb512, 1, none⟩ = some (.int .i64 t510) := (blk_cell BK512.out 1).trans rfl; have hcz117_2 : w110.cell? ⟨gb512, 2, none⟩ = some (.int .i64 t511) := (blk_cell BK512.out 2).trans rfl; have hfz117_0 := blk_frozen BK512.out 0; have hfz117_1 := blk_frozen BK512.out 1; have hfz117_2 := blk_frozen BK512.out 2; have hcz118_0 : w110.cell? ⟨gb483, 0, none⟩ = some (.int .i64 t479) := (blk_cell BK483.out 0).trans rfl; have hcz118_1 : w110.cell? ⟨gb483, 1, none⟩ = some (.int .i64 t480) := (blk_cell BK483.out 1).trans rfl; have hcz118_2 : w110.cell? ⟨gb483, 2, none⟩ = some (.int .i64 t481) := (blk_cell BK483.out 2).trans rfl; have hfz118_0 := blk_frozen BK483.out 0; have hfz118_1 := blk_frozen BK483.out 1; have hfz118_2 := blk_frozen BK483.out 2))
           go_ret
           exact ⟨by first | rfl | (simp [errW_none, errW_some] <;> rfl) | (simp [*, errW_none, errW_some] <;> rfl), by repeat (first | (with_reducible first | exact HB.out | apply below_alloc | apply pw_below_drewN | apply below_drew1 | refine below_set ?_ GE482.out | refine below_set ?_ GE483.out | refine below_set ?_ GE492.out | refine below_set ?_ GE496.out | refine below_set ?_ GE512.out | refine below_set ?_ GE516.out) | exact HB.out)⟩
          ·rw [if_neg c92] at H
           have c92b0 : decide (t480 < t497) = false := decide_eq_false c92
           clear c92
           exact absurd (H.trans (congrArg some hrt.out)) (by simp)
        ·rw [if_neg c64] at H
         have c64b0 : (t509 == 4) = false := beq_eq_false_iff_ne.mpr c64
         have c64b1 : (t509 != 4) = true := bne_iff_ne.mpr c64
         exact absurd (H.trans (congrArg some hrt.out)) (by simp)
       ·replace c61 := Bool.eq_false_iff.mpr c61
        subst c61
        have H1 : (some (t481 != 0)) = some r := by rw [if_neg (show ¬ (false = true) by decide)] at H; exact H
        clear H
        have H := H1
        clear H1
        obtain rfl := Option.some.inj H
        have hnb119 := NB483_482.out
        have hnc119 := NB482_483.out
        have hnb120 := NB483_492.out
        have hnc120 := NB492_483.out
        have hnb121 := NB483_496.out
        have hnc121 := NB496_483.out
        have hcz122_0 : wc.cell? ⟨gb483, 0, none⟩ = some (.int .i64 t479) := (blk_cell BK483.out 0).trans rfl
        have hcz122_1 : wc.cell? ⟨gb483, 1, none⟩ = some (.int .i64 t480) := (blk_cell BK483.out 1).trans rfl
        have hcz122_2 : wc.cell? ⟨gb483, 2, none⟩ = some (.int .i64 t481) := (blk_cell BK483.out 2).trans rfl
        have hfz122_0 := blk_frozen BK483.out 0
        have hfz122_1 := blk_frozen BK483.out 1
        have hfz122_2 := blk_frozen BK483.out 2
        go_wp2
        go_ret
        exact ⟨by first | rfl | (simp [errW_none, errW_some] <;> rfl) | (simp [*, errW_none, errW_some] <;> rfl), by repeat (first | (with_reducible first | exact HB.out | apply below_alloc | apply pw_below_drewN | apply below_drew1 | refine below_set ?_ GE482.out | refine below_set ?_ GE483.out | refine below_set ?_ GE492.out | refine below_set ?_ GE496.out) | exact HB.out)⟩
   ·rw [if_neg c7] at H
    exact absurd H (by simp)
  ·rw [if_neg c6] at H
   exact absurd H (by simp)

end Go.Proofs.Ytmonbofhfaaflaa.Px
