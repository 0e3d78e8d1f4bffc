import Derived.Test.YtheckjlldkkceaaZkPx0
namespace Go.Proofs.Ytheckjlldkkceaa.Px
open Go.RowKit Go.Proofs.YtheckjlldkkceaaW.PrintWords Go.Proofs.YtheckjlldkkceaaW.PrintLast Go.Proofs.YtheckjlldkkceaaW.PrintMore
attribute [local go_sem] max2_int min2_int max_two min_two max_three min_three max_four min_four   -- for this text's walks alone
set_option linter.unusedVariables false
set_option linter.unusedSimpArgs false

def spec_l06Copy.l0 : Nat → List (List (S30)) → Int → Int → List (List (S30)) → Option (Int × (List (List (S30))))
 | 0, _, _, _, _ => none
 | k + 1, x3, x4, x410000, x410001 => if x4 < (x410001.length : Int) then ((some (([] : List (S30)) : List (S30))).bind fun y414 => (if 0 ≤ x4 then (if y414.length + (rd_L2 x410001 x4).length < 8796093022208 then (if x3.length < 5864062014805 then (spec_l06Copy.l0 k (x3 ++ [(y414 ++ (rd_L2 x410001 x4))]) (wrap64 (x4 + 1)) x410000 x410001) else (none)) else (none)) else (none))) else (some (x410000, x3))
def spec_l06Copy.f (k : Nat) (a0_0 : Int) (l0_1 : List (List (S30))) : Option (Int × (List (List (S30)))) := spec_l06Copy.l0 k (([] : List (List (S30)))) 0 a0_0 l0_1
set_option maxHeartbeats 8000000 in
set_option maxRecDepth 100000 in
theorem spec_l06Copy.calls (k : Nat) (a0_0 : Int) (A0_1 : Option Addr) (c0_1 : Nat) (l0_1 : List (List (S30))) (r1 : Int) (r2 : List (List (S30))) (w : World) (hr0_1 : Kd.C (Kd.slice 30 k30) w A0_1 l0_1.length l0_1) (hc0_1 : l0_1.length ≤ c0_1) (h : spec_l06Copy.f k a0_0 l0_1 = some (r1, r2)) :
  Calls Try.prog 69 #[.agg #[.int .i64 a0_0, .slice A0_1 l0_1.length c0_1]] w fun e w' => ∃ v1_ : Value, e = .returned (.agg #[.int .i64 r1, v1_]) ∧ Kd.S (Kd.slice 30 k30) 28 w' w.heap.size (fun _ => True) v1_ r2 ∧ Below w.heap.size w w' := by
 have hu24 := Try.underlying24
 have HR0_1 := Aside0.mk hr0_1
 have HC0_1 := Aside0.mk hc0_1
 clear hr0_1 hc0_1
 have HB := Aside0.mk (Below.refl w.heap.size w)
 have H : (spec_l06Copy.l0 k (([] : List (List (S30)))) 0 a0_0 l0_1) = some (r1, r2) := h
 clear h
 obtain ⟨y411, hy411⟩ : ∃ y_ : List (List (S30)), y_ = (([] : List (List (S30)))) := ⟨_, rfl⟩
 replace H : (spec_l06Copy.l0 k y411 0 a0_0 l0_1) = some (r1, r2) := by first | (rw [hy411]; with_reducible exact H) | (have H2_ := (Option.bind_some _ _).symm.trans H; rw [hy411]; with_reducible exact H2_) | (have H2_ := (Option.bind_some _ _).symm.trans H; with_reducible exact H2_) | with_reducible exact H | (rw [hy411]; exact H) | exact H
 have Ny411 := Aside0.mk hy411
 clear hy411
 have H' := Aside0.mk H
 clear H
 go_enter Try.func69, Try.ntmps69
 go_wp2_with (first | ((with_reducible refine gate_dst (N := 1) rfl ?_); refine box_event ?hg (N := 1) ?hd (cs := #[.int .i64 a0_0, .slice A0_1 l0_1.length c0_1]) (t := 24) ?hr ?_; (case hd => rfl); (case hg => rfl); (case hr => first | (go_simp; done) | (go_simp; rfl)); intro gb409 hg w2 hbox hb; have n0_ := Aside0.mk (below_step (by repeat (first | (with_reducible first | exact HB.out | apply below_alloc | apply pw_below_drewN | apply below_drew1) | exact HB.out)) hb); have n1_ := Aside0.mk (hbox); have n2_ := Aside0.mk ((by rw [hg]; exact (below_size (by repeat (first | (with_reducible first | exact HB.out | apply below_alloc | apply pw_below_drewN | apply below_drew1) | exact HB.out))) : w.heap.size ≤ gb409)); have n3_ := Aside0.mk ((by rw [hg]; exact (below_size (by repeat (first | (with_reducible first | exact HB.out | apply below_alloc | apply pw_below_drewN | apply below_drew1) | exact HB.out))) : w.heap.size ≤ gb409)); clear HB; have HB := n0_; have BK409 := n1_; have GW409 := n2_; have GE409 := n3_; clear n0_ n1_ n2_ n3_; clear hb hbox hg) | ((with_reducible refine gate_dst (N := 2) rfl ?_); refine box_event ?hg (N := 2) ?hd (cs := #[.int .i64 0, .slice none 0 0]) (t := 24) ?hr ?_; (case hd => rfl); (case hg => rfl); (case hr => first | (go_simp; done) | (go_simp; rfl)); intro gb410 hg w3 hbox hb; have n0_ := Aside0.mk (blk_below (g := gb409) (o := .cells #[.int .i64 a0_0, .slice A0_1 l0_1.length c0_1] 24 (0, 0)) (by (with_reducible repeat (first | refine blk_drewN ?_ _ | refine blk_drew ?_ | refine blk_alloc ?_ _)); exact BK409.out) hb); have n1_ := Aside0.mk (below_step (by repeat (first | (with_reducible first | exact HB.out | apply below_alloc | apply pw_below_drewN | apply below_drew1 | refine below_set ?_ GE409.out) | exact HB.out)) hb); have n2_ := Aside0.mk (hbox); have n3_ := Aside0.mk ((by rw [hg]; exact (below_size (by repeat (first | (with_reducible first | exact HB.out | apply below_alloc | apply pw_below_drewN | apply below_drew1 | refine below_set ?_ GE409.out) | exact HB.out))) : w.heap.size ≤ gb410)); have n4_ := Aside0.mk ((by rw [hg]; exact (below_size (by repeat (first | (with_reducible first | exact HB.out | apply below_alloc | apply pw_below_drewN | apply below_drew1 | refine below_set ?_ GE409.out) | exact HB.out))) : w.heap.size ≤ gb410)); have n5_ := Aside0.mk ((by rw [hg]; exact Nat.ne_of_lt (blk_lt (g := gb409) (o := .cells #[.int .i64 a0_0, .slice A0_1 l0_1.length c0_1] 24 (0, 0)) (by (with_reducible repeat (first | refine blk_drewN ?_ _ | refine blk_drew ?_ | refine blk_alloc ?_ _)); exact BK409.out)) : gb409 ≠ gb410)); have n6_ := Aside0.mk ((by rw [hg]; exact Nat.ne_of_gt (blk_lt (g := gb409) (o := .cells #[.int .i64 a0_0, .slice A0_1 l0_1.length c0_1] 24 (0, 0)) (by (with_reducible repeat (first | refine blk_drewN ?_ _ | refine blk_drew ?_ | refine blk_alloc ?_ _)); exact BK409.out)) : gb410 ≠ gb409)); clear BK409; clear HB; have BK409 := n0_; have HB := n1_; have BK410 := n2_; have GW410 := n3_; have GE410 := n4_; have NB409_410 := n5_; have NB410_409 := n6_; clear n0_ n1_ n2_ n3_ n4_ n5_ n6_; clear hb hbox hg) | ((with_reducible refine gate_dst (N := 5) rfl ?_); refine Kd.S_lit (Kd.slice 30 k30) _ 28 ?hg (N := 5) ?hd (xs := ([] : List (List (S30)))) (inner := []) (ok := fun _ => True) (okp := fun _ => True) ?hr ?hp (fun _ hk => hk) trivial (Below.refl _ _) (Nat.le_refl _) (by simp) ?_; (case hd => rfl); (case hg => rfl); (case hr => first | (go_simp; done) | (go_simp; rfl)); (case hp => exact (Reps.none _ _)); intro v412 w4 ho5 hb hg_ hnew_; clear hg_ hnew_; (first | rw [← Ny411.out] at ho5 | (simp only [Int.reduceToNat] at ho5; rw [← Ny411.out] at ho5)); have n0_ := Aside0.mk (Kd.S_lower ho5 (below_size (by repeat (first | (with_reducible first | exact HB.out | apply below_alloc | apply pw_below_drewN | apply below_drew1 | refine below_set ?_ GE409.out | refine below_set ?_ GE410.out) | exact HB.out)))); have n1_ := Aside0.mk (blk_below (g := gb409) (o := .cells #[.int .i64 a0_0, .slice A0_1 l0_1.length c0_1] 24 (0, 0)) (by (with_reducible repeat (first | refine blk_drewN ?_ _ | refine blk_drew ?_ | refine blk_alloc ?_ _)); exact BK409.out) hb); have n2_ := Aside0.mk (blk_below (g := gb410) (o := .cells #[.int .i64 0, .slice none 0 0] 24 (0, 0)) (by (with_reducible repeat (first | refine blk_drewN ?_ _ | refine blk_drew ?_ | refine blk_alloc ?_ _)); exact BK410.out) hb); have n3_ := Aside0.mk (below_step (by repeat (first | (with_reducible first | exact HB.out | apply below_alloc | apply pw_below_drewN | apply below_drew1 | refine below_set ?_ GE409.out | refine below_set ?_ GE410.out) | exact HB.out)) hb); clear BK409; clear BK410; clear HB; have HO413 := n0_; have BK409 := n1_; have BK410 := n2_; have HB := n3_; clear n0_ n1_ n2_ n3_; clear hb ho5))
 go_loopg [3, 4] k (fun kq v3 v4 w' => ∃ (x3_1 : List (List (S30))) (x4_1 : Int), v4 = .int .i64 x4_1 ∧ Aside0 (spec_l06Copy.l0 kq x3_1 x4_1 a0_0 l0_1 = some (r1, r2)) ∧ Aside0 (kq ≤ k) ∧ Aside0 (Kd.S (Kd.slice 30 k30) 28 w' w.heap.size (fun _ => True) v3 x3_1) ∧ Aside0 (w'.heap[gb409]? = some (.cells #[.int .i64 a0_0, (.slice A0_1 l0_1.length c0_1)] 24 (0, 0))) ∧ Aside0 (w'.heap[gb410]? = some (.cells #[.int .i64 0, (.slice none 0 0)] 24 (0, 0))) ∧ Aside0 (Below w.heap.size w w'))
 case atStart => exact ⟨(y411), (0), (by first | rfl | (simp; done) | (simp [*]; done)), H', ⟨Nat.le_refl _⟩, ⟨by (with_reducible repeat (first | apply Kd.S_alloc | apply Kd.S_drewN | apply Kd.S_drew)); exact HO413.out⟩, ⟨by (with_reducible repeat (first | refine blk_drewN ?_ _ | refine blk_drew ?_ | refine blk_alloc ?_ _)); exact BK409.out⟩, ⟨by (with_reducible repeat (first | refine blk_drewN ?_ _ | refine blk_drew ?_ | refine blk_alloc ?_ _)); exact BK410.out⟩, ⟨by repeat (first | (with_reducible first | exact HB.out | apply below_alloc | apply pw_below_drewN | apply below_drew1 | refine below_set ?_ GE409.out | refine below_set ?_ GE410.out) | exact HB.out)⟩⟩
 case round =>
  clear H'
  try clear p2
  obtain ⟨x3_1, x4_1, rfl, HA, HK1, HO_3, BK409, BK410, HB⟩ := hrel
  cases gk with
  | zero => exact absurd HA.out (by simp [spec_l06Copy.l0])
  | succ k1 =>
   have H := HA.out
   clear HA
   simp only [spec_l06Copy.l0] at H
   by_cases c6 : x4_1 < (l0_1.length : Int)
   ·rw [if_pos c6] at H
    have c6b0 : decide (x4_1 < (l0_1.length : Int)) = true := decide_eq_true c6
    clear c6
    obtain ⟨y414, hy414⟩ : ∃ y_ : List (S30), y_ = (([] : List (S30))) := ⟨_, rfl⟩
    replace H : (if 0 ≤ x4_1 then (if y414.length + (rd_L2 l0_1 x4_1).length < 8796093022208 then (if x3_1.length < 5864062014805 then (spec_l06Copy.l0 k1 (x3_1 ++ [(y414 ++ (rd_L2 l0_1 x4_1))]) (wrap64 (x4_1 + 1)) a0_0 l0_1) else (none)) else (none)) else (none)) = some (r1, r2) := by first | (rw [hy414]; with_reducible exact H) | (have H2_ := (Option.bind_some _ _).symm.trans H; rw [hy414]; with_reducible exact H2_) | (have H2_ := (Option.bind_some _ _).symm.trans H; with_reducible exact H2_) | with_reducible exact H | (rw [hy414]; exact H) | exact H
    have Ny414 := Aside0.mk hy414
    clear hy414
    by_cases c7 : 0 ≤ x4_1
    ·rw [if_pos c7] at H
     have c7b0 : decide (0 ≤ x4_1) = true := decide_eq_true c7
     clear c7
     by_cases c8 : y414.length + (rd_L2 l0_1 x4_1).length < 8796093022208
     ·rw [if_pos c8] at H
      have LMc8 := Aside0.mk c8
      clear c8
      obtain ⟨y418, hy418⟩ : ∃ y_ : List (S30), y_ = (y414 ++ (rd_L2 l0_1 x4_1)) := ⟨_, rfl⟩
      replace H : (if x3_1.length < 5864062014805 then (spec_l06Copy.l0 k1 (x3_1 ++ [y418]) (wrap64 (x4_1 + 1)) a0_0 l0_1) else (none)) = some (r1, r2) := by first | (rw [hy418]; with_reducible exact H) | (have H2_ := (Option.bind_some _ _).symm.trans H; rw [hy418]; with_reducible exact H2_) | (have H2_ := (Option.bind_some _ _).symm.trans H; with_reducible exact H2_) | with_reducible exact H | (rw [hy418]; exact H) | exact H
      have Ny418 := Aside0.mk hy418
      clear hy418
      by_cases c9 : x3_1.length < 5864062014805
      ·rw [if_pos c9] at H
       have LMc9 := Aside0.mk c9
       clear c9
       obtain ⟨y421, hy421⟩ : ∃ y_ : List (List (S30)), y_ = (x3_1 ++ [y418]) := ⟨_, rfl⟩
       replace H : (spec_l06Copy.l0 k1 y421 (wrap64 (x4_1 + 1)) a0_0 l0_1) = some (r1, r2) := by first | (rw [hy421]; with_reducible exact H) | (have H2_ := (Option.bind_some _ _).symm.trans H; rw [hy421]; with_reducible exact H2_) | (have H2_ := (Option.bind_some _ _).symm.trans H; with_reducible exact H2_) | with_reducible exact H | (rw [hy421]; exact H) | exact H
       have Ny421 := Aside0.mk hy421
       clear hy421
       have H' := Aside0.mk H
       clear H
       have hnb10 := NB409_410.out
       have hnc10 := NB410_409.out
       have hcz11_0 : wr.cell? ⟨gb409, 0, none⟩ = some (.int .i64 a0_0) := (blk_cell BK409.out 0).trans rfl
       have hcz11_1 : wr.cell? ⟨gb409, 1, none⟩ = some (.slice A0_1 l0_1.length c0_1) := (blk_cell BK409.out 1).trans rfl
       have hfz11_0 := blk_frozen BK409.out 0
       have hfz11_1 := blk_frozen BK409.out 1
       go_wp2_with (first | ((with_reducible refine gate_dst (N := 14) rfl ?_); refine Kd.R_lit k30 _ 30 ?hg (N := 14) ?hd (xs := ([] : List (S30))) (inner := []) (ok := fun _ => True) (okp := fun _ => True) ?hr ?hp (fun _ hk => hk) trivial (Below.refl _ _) (Nat.le_refl _) (by simp) ?_; (case hd => rfl); (case hg => rfl); (case hr => first | (go_simp; done) | (go_simp; rfl)); (case hp => exact (Reps.none _ _)); intro v415 w12 ho13 hb hg_ hnew_; clear hg_ hnew_; (first | rw [← Ny414.out] at ho13 | (simp only [Int.reduceToNat] at ho13; rw [← Ny414.out] at ho13)); have n0_ := Aside0.mk (Kd.S_elder' (by (with_reducible repeat (first | apply Kd.S_alloc | apply Kd.S_drewN | apply Kd.S_drew)); exact HO_3.out) (Kd.R_base ho13) hb); have n1_ := Aside0.mk (Kd.R_lower ho13 (below_size (by repeat (first | (with_reducible first | exact HB.out | apply below_alloc | apply pw_below_drewN | apply below_drew1 | refine below_set ?_ GE409.out | refine below_set ?_ GE410.out) | exact HB.out)))); have n2_ := Aside0.mk (blk_below (g := gb409) (o := .cells #[.int .i64 a0_0, .slice A0_1 l0_1.length c0_1] 24 (0, 0)) (by (with_reducible repeat (first | refine blk_drewN ?_ _ | refine blk_drew ?_ | refine blk_alloc ?_ _)); exact BK409.out) hb); have n3_ := Aside0.mk (blk_below (g := gb410) (o := .cells #[.int .i64 0, .slice none 0 0] 24 (0, 0)) (by (with_reducible repeat (first | refine blk_drewN ?_ _ | refine blk_drew ?_ | refine blk_alloc ?_ _)); exact BK410.out) hb); have n4_ := Aside0.mk (below_step (by repeat (first | (with_reducible first | exact HB.out | apply below_alloc | apply pw_below_drewN | apply below_drew1 | refine below_set ?_ GE409.out | refine below_set ?_ GE410.out) | exact HB.out)) hb); clear HO_3; clear BK409; clear BK410; clear HB; have HO_3 := n0_; have HO416 := n1_; have BK409 := n2_; have BK410 := n3_; have HB := n4_; clear n0_ n1_ n2_ n3_ n4_; clear hb ho13; have hcz14_0 : w12.cell? ⟨gb409, 0, none⟩ = some (.int .i64 a0_0) := (blk_cell BK409.out 0).trans rfl; have hcz14_1 : w12.cell? ⟨gb409, 1, none⟩ = some (.slice A0_1 l0_1.length c0_1) := (blk_cell BK409.out 1).trans rfl; have hfz14_0 := blk_frozen BK409.out 0; have hfz14_1 := blk_frozen BK409.out 1; have p417 : 0 ≤ (x4_1 : Int) := of_decide_eq_true (by first | (with_reducible assumption) | assumption); have q417 : x4_1 < (l0_1.length : Int) := of_decide_eq_true (by first | (with_reducible assumption) | assumption); obtain ⟨ad417, A417_0, c417_0, e417, hx417_0, hl417_0, hi417_0⟩ := at_L2 HR0_1.out x4_1 p417 q417; cases e417; replace hx417_0 := (HB.out.cell (World.block_lt_of_cell? w _ hx417_0)).trans hx417_0; have HR417_0 := Aside0.mk hi417_0; have HC417_0 := Aside0.mk hl417_0; clear hi417_0 hl417_0; replace p417 := eq_true p417; replace q417 := eq_true q417) | ((with_reducible refine gate_builtin (b := .append) (xs := #[.tmp 14, .tmp 19]) rfl ?_); at_builtin; refine Kd.R_append_rows k30 (w0 := w) w.heap.size rfl (.tmp 14) (.tmp 19) 28 30 (.agg #[(.int .i64 0), (.int .i64 0)]) 16 rfl Try.underlying28 info30 rfl (by decide) (by omega) v415 y414 (rd_L2 l0_1 x4_1) _ _ _ (fun _ => True) (fun _ => False) rfl rfl ?aO ?aR (fun _ _ h => h) (fun _ h => h.elim) ?aF ?aB ?aS ?aL ?_; (case aR => repeat (first | exact (Kd.C_below HR417_0.out HB.out) | (with_reducible refine Kd.C_alloc ?_ _) | (with_reducible refine Kd.C_drewN ?_ _) | (with_reducible refine Kd.C_drew ?_))); (case aB => exact (by repeat (first | (with_reducible first | exact HB.out | apply below_alloc | apply pw_below_drewN | apply below_drew1 | refine below_set ?_ GE409.out | refine below_set ?_ GE410.out) | exact HB.out))); (case aF => exact (fun _ _ => trivial)); (case aO => exact (by (with_reducible repeat (first | apply Kd.R_alloc | apply Kd.R_drewN | apply Kd.R_drew)); exact HO416.out)); (case aS => exact (below_size (by repeat (first | (with_reducible first | exact HB.out | apply below_alloc | apply pw_below_drewN | apply below_drew1 | refine below_set ?_ GE409.out | refine below_set ?_ GE410.out) | exact HB.out)))); (case aL => have := LMc8.out; omega); intro v419 w15 ho hb hg hat; rw [← Ny418.out] at ho; have n0_ := Aside0.mk (Kd.S_after (ok := (fun _ => True)) (by (with_reducible repeat (first | apply Kd.S_alloc | apply Kd.S_drewN | apply Kd.S_drew)); exact HO_3.out) hg hat); have n1_ := Aside0.mk (blk_grown (g := gb409) (o := .cells #[.int .i64 a0_0, .slice (some ad417) l0_1.length c0_1] 24 (0, 0)) (by (with_reducible repeat (first | refine blk_drewN ?_ _ | refine blk_drew ?_ | refine blk_alloc ?_ _)); exact BK409.out) hg (Kd.R_ne HO416.out BK409.out (by decide))); have n2_ := Aside0.mk (blk_grown (g := gb410) (o := .cells #[.int .i64 0, .slice none 0 0] 24 (0, 0)) (by (with_reducible repeat (first | refine blk_drewN ?_ _ | refine blk_drew ?_ | refine blk_alloc ?_ _)); exact BK410.out) hg (Kd.R_ne HO416.out BK410.out (by decide))); have n3_ := Aside0.mk (hb); have n4_ := Aside0.mk (ho); clear HO_3; clear BK409; clear BK410; clear HB; clear HO416; have HO_3 := n0_; have BK409 := n1_; have BK410 := n2_; have HB := n3_; have HO420 := n4_; clear n0_ n1_ n2_ n3_ n4_; clear ho hb hg hat; obtain ⟨Ao17, co17, eo17⟩ := Kd.R_slice HO420.out; subst eo17) | ((with_reducible refine gate_builtin (b := .append) (xs := #[.tmp 13, .tmp 21]) rfl ?_); at_builtin; refine Kd.S_append (Kd.slice 30 k30) (w0 := w) w.heap.size rfl (.tmp 13) (.tmp 21) 22 28 (.slice none 0 0) 24 rfl Try.underlying22 info28 rfl (by decide) (by omega) u3 x3_1 y418 [.slice Ao17 y418.length co17] (fun _ => True) (fun k_ => some k_ = (.slice Ao17 y418.length co17 : Value).ownBlock) rfl rfl ?aP (fun k_ hk_ => ((Kd.R_mono (ok' := fun k_ => ((fun _ => True)) k_ ∧ some k_ ≠ (u3 : Value).ownBlock) (Kd.R_apart' (HO420.out) (Kd.S_typed HO_3.out) (by decide)) (fun k_ hk => ⟨trivial, hk.2⟩))).1 k_ hk_.symm) ?aF ?aO ?aB ?aS ?aL ?_; (case aP => exact Kd.M_row (Kd.R_mono (Kd.R_tight rfl (Kd.R_mono (ok' := fun k_ => ((fun _ => True)) k_ ∧ some k_ ≠ (u3 : Value).ownBlock) (Kd.R_apart' (HO420.out) (Kd.S_typed HO_3.out) (by decide)) (fun k_ hk => ⟨trivial, hk.2⟩))) (fun _ h_ => h_))); (case aB => exact (by repeat (first | (with_reducible first | exact HB.out | apply below_alloc | apply pw_below_drewN | apply below_drew1 | refine below_set ?_ GE409.out | refine below_set ?_ GE410.out) | exact HB.out))); (case aF => exact (fun _ _ => trivial)); (case aO => exact (by (with_reducible repeat (first | apply Kd.S_alloc | apply Kd.S_drewN | apply Kd.S_drew)); exact Kd.S_mono HO_3.out (fun k_ hk => ⟨trivial, fun e_ => hk.2 e_⟩))); (case aS => exact (below_size (by repeat (first | (with_reducible first | exact HB.out | apply below_alloc | apply pw_below_drewN | apply below_drew1 | refine below_set ?_ GE409.out | refine below_set ?_ GE410.out) | exact HB.out)))); (case aL => have := LMc9.out; omega); intro v422 w16 ho hb hg hat; rw [← Ny421.out] at ho; have n0_ := Aside0.mk (blk_grown (g := gb409) (o := .cells #[.int .i64 a0_0, .slice (some ad417) l0_1.length c0_1] 24 (0, 0)) (by (with_reducible repeat (first | refine blk_drewN ?_ _ | refine blk_drew ?_ | refine blk_alloc ?_ _)); exact BK409.out) hg (Kd.S_ne HO_3.out BK409.out (by decide))); have n1_ := Aside0.mk (blk_grown (g := gb410) (o := .cells #[.int .i64 0, .slice none 0 0] 24 (0, 0)) (by (with_reducible repeat (first | refine blk_drewN ?_ _ | refine blk_drew ?_ | refine blk_alloc ?_ _)); exact BK410.out) hg (Kd.S_ne HO_3.out BK410.out (by decide))); have n2_ := Aside0.mk (hb); have n3_ := Aside0.mk (ho); clear BK409; clear BK410; clear HB; clear HO_3; clear HO420; have BK409 := n0_; have BK410 := n1_; have HB := n2_; have HO423 := n3_; clear n0_ n1_ n2_ n3_; clear ho hb hg hat))
       go_roundg k1
       case measure => have := HK1.out; omega
       case rel => exact ⟨(y421), (wrap64 (x4_1 + 1)), (by first | rfl | (simp; done) | (simp [*]; done)), H', ⟨by have := HK1.out; omega⟩, ⟨by (with_reducible repeat (first | apply Kd.S_alloc | apply Kd.S_drewN | apply Kd.S_drew)); exact HO423.out⟩, ⟨by (with_reducible repeat (first | refine blk_drewN ?_ _ | refine blk_drew ?_ | refine blk_alloc ?_ _)); exact BK409.out⟩, ⟨by (with_reducible repeat (first | refine blk_drewN ?_ _ | refine blk_drew ?_ | refine blk_alloc ?_ _)); exact BK410.out⟩, ⟨by repeat (first | (with_reducible first | exact HB.out | apply below_alloc | apply pw_below_drewN | apply below_drew1 | refine below_set ?_ GE409.out | refine below_set ?_ GE410.out) | exact HB.out)⟩⟩
      ·rw [if_neg c9] at H
       exact absurd H (by simp)
     ·rw [if_neg c8] at H
      exact absurd H (by simp)
    ·rw [if_neg c7] at H
     exact absurd H (by simp)
   ·rw [if_neg c6] at H
    have c6b0 : decide (x4_1 < (l0_1.length : Int)) = false := decide_eq_false c6
    clear c6
    simp only [Option.some.injEq, Prod.mk.injEq] at H
    obtain ⟨rfl, rfl⟩ := H
    have hnb18 := NB409_410.out
    have hnc18 := NB410_409.out
    have hcz19_0 : wr.cell? ⟨gb409, 0, none⟩ = some (.int .i64 a0_0) := (blk_cell BK409.out 0).trans rfl
    have hcz19_1 : wr.cell? ⟨gb409, 1, none⟩ = some (.slice A0_1 l0_1.length c0_1) := (blk_cell BK409.out 1).trans rfl
    have hfz19_0 := blk_frozen BK409.out 0
    have hfz19_1 := blk_frozen BK409.out 1
    obtain ⟨Ao20, co20, eo20⟩ := Kd.S_slice HO_3.out
    subst eo20
    have hcz21_0 : wr.cell? ⟨gb410, 0, none⟩ = some (.int .i64 0) := (blk_cell BK410.out 0).trans rfl
    have hcz21_1 : wr.cell? ⟨gb410, 1, none⟩ = some (.slice none 0 0) := (blk_cell BK410.out 1).trans rfl
    have hfz21_0 := blk_frozen BK410.out 0
    have hfz21_1 := blk_frozen BK410.out 1
    go_wp2
    refine bodyPost_ret (results_cell_row rfl _ _ gb410 24 #[.int .i64 a0_0, .slice Ao20 x3_1.length co20] (0, 0) _ rfl (by (with_reducible repeat (first | refine blk_drewN ?_ _ | refine blk_drew ?_ | refine blk_alloc ?_ _)); refine blk_put (cs := #[.int .i64 a0_0, .slice none 0 0]) ?_ 1 _ rfl; (with_reducible repeat (first | refine blk_drewN ?_ _ | refine blk_drew ?_ | refine blk_alloc ?_ _)); refine blk_put (cs := #[.int .i64 0, .slice none 0 0]) ?_ 0 _ rfl; (with_reducible repeat (first | refine blk_drewN ?_ _ | refine blk_drew ?_ | refine blk_alloc ?_ _)); refine blk_far ?_ NB410_409.out _; (with_reducible repeat (first | refine blk_drewN ?_ _ | refine blk_drew ?_ | refine blk_alloc ?_ _)); exact BK410.out) Try.underlying24 rfl (by kernel_rfl)) rfl ?_
    exact ⟨_, by first | rfl | (simp [errW_none, errW_some] <;> rfl) | (simp [*, errW_none, errW_some] <;> rfl), by (with_reducible repeat (first | apply Kd.S_alloc | apply Kd.S_drewN | apply Kd.S_drew)); exact Kd.S_mono (Kd.S_far (p := ⟨gb410, 1, none⟩) (Kd.S_far (p := ⟨gb410, 0, none⟩) (Kd.S_far (p := ⟨gb409, 1, none⟩) (Kd.S_types (Kd.S_types HO_3.out BK409.out (by decide)) BK410.out (by decide)) (fun _ hk => hk.1.2) (.slice Ao20 x3_1.length co20)) (fun _ hk => hk.2) (.int .i64 a0_0)) (fun _ hk => hk.2) (.slice Ao20 x3_1.length co20)) (fun _ hk => trivial), by repeat (first | (with_reducible first | exact HB.out | apply below_alloc | apply pw_below_drewN | apply below_drew1 | refine below_set ?_ GE409.out | refine below_set ?_ GE410.out) | exact HB.out)⟩

mutual
def spec_l06Find.l0 : Nat → Int → Int → Int → List (List (S30)) → Option (Int)
 | 0, _, _, _, _ => none
 | k + 1, x1, x5, x425000, x425001 => if x5 < (x425001.length : Int) then (spec_l06Find.l1 k x1 x5 0 x425000 x425001) else (some (-1))
def spec_l06Find.l1 : Nat → Int → Int → Int → Int → List (List (S30)) → Option (Int)
 | 0, _, _, _, _, _ => none
 | k + 1, x1, x5, x6, x425000, x425001 => if 0 ≤ x5 then (if x5 < (x425001.length : Int) then (if x6 < ((rd_L2 x425001 x5).length : Int) then (if 0 ≤ x6 then (if ((rd_T30 (rd_L2 x425001 x5) x6).f0) = x1 then (some x5) else (spec_l06Find.l1 k x1 x5 (wrap64 (x6 + 1)) x425000 x425001)) else (none)) else (spec_l06Find.l0 k x1 (wrap64 (x5 + 1)) x425000 x425001)) else (none)) else (none)
end
def spec_l06Find.f (k : Nat) (a0_0 : Int) (l0_1 : List (List (S30))) (a1 : Int) : Option (Int) := spec_l06Find.l0 k a1 0 a0_0 l0_1
set_option maxHeartbeats 8000000 in
set_option maxRecDepth 100000 in
theorem spec_l06Find.calls (k : Nat) (a0_0 : Int) (A0_1 : Option Addr) (c0_1 : Nat) (l0_1 : List (List (S30))) (a1 : Int) (r : Int) (w : World) (hr0_1 : Kd.C (Kd.slice 30 k30) w A0_1 l0_1.length l0_1) (hc0_1 : l0_1.length ≤ c0_1) (h : spec_l06Find.f k a0_0 l0_1 a1 = some r) :
  Calls Try.prog 70 #[.agg #[.int .i64 a0_0, .slice A0_1 l0_1.length c0_1], .int .i64 a1] w fun e w' => e = .returned (.int .i64 r) ∧ Below w.heap.size w w' := by
 have hu24 := Try.underlying24
 have HR0_1 := Aside0.mk hr0_1
 have HC0_1 := Aside0.mk hc0_1
 clear hr0_1 hc0_1
 have HB := Aside0.mk (Below.refl w.heap.size w)
 have H : (spec_l06Find.l0 k a1 0 a0_0 l0_1) = some r := h
 clear h
 have H' := Aside0.mk H
 clear H
 go_enter Try.func70, Try.ntmps70
 go_wp2_with (first | ((with_reducible refine gate_dst (N := 2) rfl ?_); refine box_event ?hg (N := 2) ?hd (cs := #[.int .i64 a0_0, .slice A0_1 l0_1.length c0_1]) (t := 24) ?hr ?_; (case hd => rfl); (case hg => rfl); (case hr => first | (go_simp; done) | (go_simp; rfl)); intro gb424 hg w3 hbox hb; have n0_ := Aside0.mk (below_step (by repeat (first | (with_reducible first | exact HB.out | apply below_alloc | apply pw_below_drewN | apply below_drew1) | exact HB.out)) hb); have n1_ := Aside0.mk (hbox); have n2_ := Aside0.mk ((by rw [hg]; exact (below_size (by repeat (first | (with_reducible first | exact HB.out | apply below_alloc | apply pw_below_drewN | apply below_drew1) | exact HB.out))) : w.heap.size ≤ gb424)); have n3_ := Aside0.mk ((by rw [hg]; exact (below_size (by repeat (first | (with_reducible first | exact HB.out | apply below_alloc | apply pw_below_drewN | apply below_drew1) | exact HB.out))) : w.heap.size ≤ gb424)); clear HB; have HB := n0_; have BK424 := n1_; have GW424 := n2_; have GE424 := n3_; clear n0_ n1_ n2_ n3_; clear hb hbox hg))
 go_loopg [5] k (fun kq v5 w' => ∃ (x5_1 : Int), v5 = .int .i64 x5_1 ∧ Aside0 (spec_l06Find.l0 kq a1 x5_1 a0_0 l0_1 = some r) ∧ Aside0 (kq ≤ k) ∧ Aside0 (w'.heap[gb424]? = some (.cells #[.int .i64 a0_0, (.slice A0_1 l0_1.length c0_1)] 24 (0, 0))) ∧ Aside0 (Below w.heap.size w w'))
 case atStart => exact ⟨(0), (by first | rfl | (simp; done) | (simp [*]; done)), H', ⟨Nat.le_refl _⟩, ⟨by (with_reducible repeat (first | refine blk_drewN ?_ _ | refine blk_drew ?_ | refine blk_alloc ?_ _)); exact BK424.out⟩, ⟨by repeat (first | (with_reducible first | exact HB.out | apply below_alloc | apply pw_below_drewN | apply below_drew1 | refine below_set ?_ GE424.out) | exact HB.out)⟩⟩
 case round =>
  clear H'
  try clear p2
  obtain ⟨x5_1, rfl, HA, HK1, BK424, HB⟩ := hrel
  cases gk with
  | zero => exact absurd HA.out (by simp [spec_l06Find.l0])
  | succ k1 =>
   have H := HA.out
   clear HA
   simp only [spec_l06Find.l0] at H
   by_cases c4 : x5_1 < (l0_1.length : Int)
   ·rw [if_pos c4] at H
    have c4b0 : decide (x5_1 < (l0_1.length : Int)) = true := decide_eq_true c4
    clear c4
    have H' := Aside0.mk H
    clear H
    have hcz5_0 : wr.cell? ⟨gb424, 0, none⟩ = some (.int .i64 a0_0) := (blk_cell BK424.out 0).trans rfl
    have hcz5_1 : wr.cell? ⟨gb424, 1, none⟩ = some (.slice A0_1 l0_1.length c0_1) := (blk_cell BK424.out 1).trans rfl
    have hfz5_0 := blk_frozen BK424.out 0
    have hfz5_1 := blk_frozen BK424.out 1
    go_wp2
    go_loopg [6] k1 (fun kq v6 w' => ∃ (x6_2 : Int), v6 = .int .i64 x6_2 ∧ Aside0 (spec_l06Find.l1 kq a1 x5_1 x6_2 a0_0 l0_1 = some r) ∧ Aside0 (kq ≤ k1) ∧ Aside0 (w'.heap[gb424]? = some (.cells #[.int .i64 a0_0, (.slice A0_1 l0_1.length c0_1)] 24 (0, 0))) ∧ Aside0 (Below w.heap.size w w'))
    case atStart => exact ⟨(0), (by first | rfl | (simp; done) | (simp [*]; done)), H', ⟨Nat.le_refl _⟩, ⟨by (with_reducible repeat (first | refine blk_drewN ?_ _ | refine blk_drew ?_ | refine blk_alloc ?_ _)); exact BK424.out⟩, ⟨by repeat (first | (with_reducible first | exact HB.out | apply below_alloc | apply pw_below_drewN | apply below_drew1 | refine below_set ?_ GE424.out) | exact HB.out)⟩⟩
    case round =>
     clear H'
     try clear p2
     try clear c4
     try clear c4b0
     try clear hcz5_0
     try clear hcz5_1
     try clear hfz5_0
     try clear hfz5_1
     try clear p2
     obtain ⟨x6_2, rfl, HA, HK2, BK424, HB⟩ := hrel
     cases gk with
     | zero => exact absurd HA.out (by simp [spec_l06Find.l1])
     | succ k2 =>
      have H := HA.out
      clear HA
      simp only [spec_l06Find.l1] at H
      by_cases c6 : 0 ≤ x5_1
      ·rw [if_pos c6] at H
       have c6b0 : decide (0 ≤ x5_1) = true := decide_eq_true c6
       clear c6
       by_cases c7 : x5_1 < (l0_1.length : Int)
       ·rw [if_pos c7] at H
        have c7b0 : decide (x5_1 < (l0_1.length : Int)) = true := decide_eq_true c7
        clear c7
        by_cases c8 : x6_2 < ((rd_L2 l0_1 x5_1).length : Int)
        ·rw [if_pos c8] at H
         have c8b0 : decide (x6_2 < ((rd_L2 l0_1 x5_1).length : Int)) = true := decide_eq_true c8
         clear c8
         by_cases c9 : 0 ≤ x6_2
         ·rw [if_pos c9] at H
          have c9b0 : decide (0 ≤ x6_2) = true := decide_eq_true c9
          clear c9
          by_cases c10 : ((rd_T30 (rd_L2 l0_1 x5_1) x6_2).f0) = a1
          ·rw [if_pos c10] at H
           have c10b0 : (((rd_T30 (rd_L2 l0_1 x5_1) x6_2).f0) == a1) = true := beq_iff_eq.mpr c10
           have c10b1 : (((rd_T30 (rd_L2 l0_1 x5_1) x6_2).f0) != a1) = false := bne_eq_false_iff_eq.mpr c10
           clear c10
           obtain rfl := Option.some.inj H
           have hcz11_0 : wr.cell? ⟨gb424, 0, none⟩ = some (.int .i64 a0_0) := (blk_cell BK424.out 0).trans rfl
           have hcz11_1 : wr.cell? ⟨gb424, 1, none⟩ = some (.slice A0_1 l0_1.length c0_1) := (blk_cell BK424.out 1).trans rfl
           have hfz11_0 := blk_frozen BK424.out 0
           have hfz11_1 := blk_frozen BK424.out 1
           have p425 : 0 ≤ (x5_1 : Int) := of_decide_eq_true (by first | (with_reducible assumption) | assumption)
           have q425 : x5_1 < (l0_1.length : Int) := of_decide_eq_true (by first | (with_reducible assumption) | assumption)
           obtain ⟨ad425, A425_0, c425_0, e425, hx425_0, hl425_0, hi425_0⟩ := at_L2 HR0_1.out x5_1 p425 q425
           cases e425
           replace hx425_0 := (HB.out.cell (World.block_lt_of_cell? w _ hx425_0)).trans hx425_0
           have HR425_0 := Aside0.mk hi425_0
           have HC425_0 := Aside0.mk hl425_0
           clear hi425_0 hl425_0
           replace p425 := eq_true p425
           replace q425 := eq_true q425
           have p426 : 0 ≤ (x5_1 : Int) := of_decide_eq_true (by first | (with_reducible assumption) | assumption)
           have q426 : x5_1 < (l0_1.length : Int) := of_decide_eq_true (by first | (with_reducible assumption) | assumption)
           obtain ⟨ad426, A426_0, c426_0, e426, hx426_0, hl426_0, hi426_0⟩ := at_L2 HR0_1.out x5_1 p426 q426
           obtain rfl : ad425 = ad426 := (by injection e426)
           replace hx426_0 := (HB.out.cell (World.block_lt_of_cell? w _ hx426_0)).trans hx426_0
           have HR426_0 := Aside0.mk hi426_0
           have HC426_0 := Aside0.mk hl426_0
           clear hi426_0 hl426_0
           replace p426 := eq_true p426
           replace q426 := eq_true q426
           have ea_ := Option.some.inj (hx425_0.symm.trans hx426_0)
           injection ea_ with ea_ en_ ec_
           subst ea_
           subst ec_
           clear en_
           have p427 : 0 ≤ (x6_2 : Int) := of_decide_eq_true (by first | (with_reducible assumption) | assumption)
           have q427 : x6_2 < ((rd_L2 l0_1 x5_1).length : Int) := of_decide_eq_true (by first | (with_reducible assumption) | assumption)
           obtain ⟨ad427, e427, hx427_0, hx427_1⟩ := at_T30 HR426_0.out x6_2 p427 q427
           cases e427
           replace hx427_0 := (HB.out.cell (World.block_lt_of_cell? w _ hx427_0)).trans hx427_0
           replace hx427_1 := (HB.out.cell (World.block_lt_of_cell? w _ hx427_1)).trans hx427_1
           replace p427 := eq_true p427
           replace q427 := eq_true q427
           go_wp2
           go_ret
           exact ⟨by first | rfl | (simp [errW_none, errW_some] <;> rfl) | (simp [*, errW_none, errW_some] <;> rfl), by repeat (first | (with_reducible first | exact HB.out | apply below_alloc | apply pw_below_drewN | apply below_drew1 | refine below_set ?_ GE424.out) | exact HB.out)⟩
          ·rw [if_neg c10] at H
           have c10b0 : (((rd_T30 (rd_L2 l0_1 x5_1) x6_2).f0) == a1) = false := beq_eq_false_iff_ne.mpr c10
           have c10b1 : (((rd_T30 (rd_L2 l0_1 x5_1) x6_2).f0) != a1) = true := bne_iff_ne.mpr c10
           have H' := Aside0.mk H
           clear H
           have hcz12_0 : wr.cell? ⟨gb424, 0, none⟩ = some (.int .i64 a0_0) := (blk_cell BK424.out 0).trans rfl
           have hcz12_1 : wr.cell? ⟨gb424, 1, none⟩ = some (.slice A0_1 l0_1.length c0_1) := (blk_cell BK424.out 1).trans rfl
           have hfz12_0 := blk_frozen BK424.out 0
           have hfz12_1 := blk_frozen BK424.out 1
           have p425 : 0 ≤ (x5_1 : Int) := of_decide_eq_true (by first | (with_reducible assumption) | assumption)
           have q425 : x5_1 < (l0_1.length : Int) := of_decide_eq_true (by first | (with_reducible assumption) | assumption)
           obtain ⟨ad425, A425_0, c425_0, e425, hx425_0, hl425_0, hi425_0⟩ := at_L2 HR0_1.out x5_1 p425 q425
           cases e425
           replace hx425_0 := (HB.out.cell (World.block_lt_of_cell? w _ hx425_0)).trans hx425_0
           have HR425_0 := Aside0.mk hi425_0
           have HC425_0 := Aside0.mk hl425_0
           clear hi425_0 hl425_0
           replace p425 := eq_true p425
           replace q425 := eq_true q425
           have p426 : 0 ≤ (x5_1 : Int) := of_decide_eq_true (by first | (with_reducible assumption) | assumption)
           have q426 : x5_1 < (l0_1.length : Int) := of_decide_eq_true (by first | (with_reducible assumption) | assumption)
           obtain ⟨ad426, A426_0, c426_0, e426, hx426_0, hl426_0, hi426_0⟩ := at_L2 HR0_1.out x5_1 p426 q426
           obtain rfl : ad425 = ad426 := (by injection e426)
           replace hx426_0 := (HB.out.cell (World.block_lt_of_cell? w _ hx426_0)).trans hx426_0
           have HR426_0 := Aside0.mk hi426_0
           have HC426_0 := Aside0.mk hl426_0
           clear hi426_0 hl426_0
           replace p426 := eq_true p426
           replace q426 := eq_true q426
           have ea_ := Option.some.inj (hx425_0.symm.trans hx426_0)
           injection ea_ with ea_ en_ ec_
           subst ea_
           subst ec_
           clear en_
           have p427 : 0 ≤ (x6_2 : Int) := of_decide_eq_true (by first | (with_reducible assumption) | assumption)
           have q427 : x6_2 < ((rd_L2 l0_1 x5_1).length : Int) := of_decide_eq_true (by first | (with_reducible assumption) | assumption)
           obtain ⟨ad427, e427, hx427_0, hx427_1⟩ := at_T30 HR426_0.out x6_2 p427 q427
           cases e427
           replace hx427_0 := (HB.out.cell (World.block_lt_of_cell? w _ hx427_0)).trans hx427_0
           replace hx427_1 := (HB.out.cell (World.block_lt_of_cell? w _ hx427_1)).trans hx427_1
           replace p427 := eq_true p427
           replace q427 := eq_true q427
           go_wp2
           go_roundg k2
           case measure => have := HK1.out; have := HK2.out; omega
           case rel => exact ⟨(wrap64 (x6_2 + 1)), (by first | rfl | (simp; done) | (simp [*]; done)), H', ⟨by have := HK1.out; have := HK2.out; omega⟩, ⟨by (with_reducible repeat (first | refine blk_drewN ?_ _ | refine blk_drew ?_ | refine blk_alloc ?_ _)); exact BK424.out⟩, ⟨by repeat (first | (with_reducible first | exact HB.out | apply below_alloc | apply pw_below_drewN | apply below_drew1 | refine below_set ?_ GE424.out) | exact HB.out)⟩⟩
         ·rw [if_neg c9] at H
          exact absurd H (by simp)
        ·rw [if_neg c8] at H
         have c8b0 : decide (x6_2 < ((rd_L2 l0_1 x5_1).length : Int)) = false := decide_eq_false c8
         clear c8
         have H' := Aside0.mk H
         clear H
         have hcz13_0 : wr.cell? ⟨gb424, 0, none⟩ = some (.int .i64 a0_0) := (blk_cell BK424.out 0).trans rfl
         have hcz13_1 : wr.cell? ⟨gb424, 1, none⟩ = some (.slice A0_1 l0_1.length c0_1) := (blk_cell BK424.out 1).trans rfl
         have hfz13_0 := blk_frozen BK424.out 0
         have hfz13_1 := blk_frozen BK424.out 1
         have p425 : 0 ≤ (x5_1 : Int) := of_decide_eq_true (by first | (with_reducible assumption) | assumption)
         have q425 : x5_1 < (l0_1.length : Int) := of_decide_eq_true (by first | (with_reducible assumption) | assumption)
         obtain ⟨ad425, A425_0, c425_0, e425, hx425_0, hl425_0, hi425_0⟩ := at_L2 HR0_1.out x5_1 p425 q425
         cases e425
         replace hx425_0 := (HB.out.cell (World.block_lt_of_cell? w _ hx425_0)).trans hx425_0
         have HR425_0 := Aside0.mk hi425_0
         have HC425_0 := Aside0.mk hl425_0
         clear hi425_0 hl425_0
         replace p425 := eq_true p425
         replace q425 := eq_true q425
         go_wp2
         go_roundg k2
         case measure => have := HK1.out; have := HK2.out; omega
         case rel => exact ⟨(wrap64 (x5_1 + 1)), (by first | rfl | (simp; done) | (simp [*]; done)), H', ⟨by have := HK1.out; have := HK2.out; omega⟩, ⟨by (with_reducible repeat (first | refine blk_drewN ?_ _ | refine blk_drew ?_ | refine blk_alloc ?_ _)); exact BK424.out⟩, ⟨by repeat (first | (with_reducible first | exact HB.out | apply below_alloc | apply pw_below_drewN | apply below_drew1 | refine below_set ?_ GE424.out) | exact HB.out)⟩⟩
       ·rw [if_neg c7] at H
        exact absurd H (by simp)
      ·rw [if_neg c6] at H
       exact absurd H (by simp)
   ·rw [if_neg c4] at H
    have c4b0 : decide (x5_1 < (l0_1.length : Int)) = false := decide_eq_false c4
    clear c4
    obtain rfl := Option.some.inj H
    have hcz14_0 : wr.cell? ⟨gb424, 0, none⟩ = some (.int .i64 a0_0) := (blk_cell BK424.out 0).trans rfl
    have hcz14_1 : wr.cell? ⟨gb424, 1, none⟩ = some (.slice A0_1 l0_1.length c0_1) := (blk_cell BK424.out 1).trans rfl
    have hfz14_0 := blk_frozen BK424.out 0
    have hfz14_1 := blk_frozen BK424.out 1
    go_wp2
    go_ret
    exact ⟨by first | rfl | (simp [errW_none, errW_some] <;> rfl) | (simp [*, errW_none, errW_some] <;> rfl), by repeat (first | (with_reducible first | exact HB.out | apply below_alloc | apply pw_below_drewN | apply below_drew1 | refine below_set ?_ GE424.out) | exact HB.out)⟩

def spec_l06Hop.f (k : Nat) (a0_0 : Int) (l0_1 : List (List (S30))) (a1 : Int) (a2 : Int) : Option (Int × (List (List (S30)))) := (spec_l06Copy.f k a0_0 l0_1).bind fun bt430 => (if 0 ≤ a1 then (if a1 < (bt430.2.length : Int) then (if 0 ≤ a2 then (if a2 < (bt430.2.length : Int) then (if 0 ≤ (wrap64 (((rd_L2 bt430.2 a1).length : Int) - 1)) then (if (wrap64 (((rd_L2 bt430.2 a1).length : Int) - 1)) < ((rd_L2 bt430.2 a1).length : Int) then (if a2 = a1 then (none) else (if (rd_L2 bt430.2 a2).length < 8796093022208 then ((some (bt430.2.set (a2 : Int).toNat ((rd_L2 bt430.2 a2) ++ [(⟨(rd_T30 (rd_L2 bt430.2 a1) (wrap64 (((rd_L2 bt430.2 a1).length : Int) - 1))).f0, (rd_T30 (rd_L2 bt430.2 a1) (wrap64 (((rd_L2 bt430.2 a1).length : Int) - 1))).f1⟩ : S30)]) : List (List (S30)))).bind fun y442 => (if (wrap64 (((rd_L2 bt430.2 a1).length : Int) - 1)) ≤ ((rd_L2 y442 a1).length : Int) then (some (bt430.1, (y442.set (a1 : Int).toNat ((rd_L2 y442 a1).take ((wrap64 (((rd_L2 bt430.2 a1).length : Int) - 1)) : Int).toNat)))) else (none))) else (none))) else (none)) else (none)) else (none)) else (none)) else (none)) else (none))
def spec_l06Hop.T3 : Bool × List (List Nat × List Nat) := (true, [([], []), ([0], [0]), ([], []), ([], []), ([3], [3]), ([], []), ([4, 5], [4, 5]), ([6], [6]), ([], []), ([8], [8]), ([], []), ([9, 10], [9, 10]), ([11], [11]), ([], []), ([12, 13], [12, 13]), ([14], [14]), ([15], [15]), ([7, 16], [7, 16]), ([1, 2, 0, 1, 2, 3, 4, 5, 6, 7, 8, 9, 10, 11, 12, 13, 14, 15, 16, 17], [1, 2]), ([18, 17, 17, 0, 1, 2, 3, 4, 5, 6, 7, 8, 9, 10, 11, 12, 13, 14, 15, 16, 17], [17, 18])])
def spec_l06Hop.B3 : List Nat := [0, 1, 0, 0, 8, 0, 56, 120, 0, 256, 0, 1792, 3840, 0, 16128, 32512, 65280, 131064, 262143, 524287]
theorem spec_l06Hop.tab3 : rtab .any (opsOf Try.f76 3) = spec_l06Hop.T3 := by kernel_rfl
theorem spec_l06Hop.bits3 : waitsOk spec_l06Hop.T3.2 spec_l06Hop.B3 = true := by kernel_rfl
def spec_l06Hop.T4 : Bool × List (List Nat × List Nat) := (true, [([], []), ([0], [0]), ([], []), ([], []), ([3], [3]), ([], []), ([4, 5], [4, 5]), ([6], [6]), ([], []), ([7, 8], [7, 8]), ([1, 2, 0, 1, 2, 3, 4, 5, 6, 7, 8, 9], [1, 2]), ([10, 9, 0, 1, 2, 3, 4, 5, 6, 7, 8, 9], [9, 10])])
def spec_l06Hop.B4 : List Nat := [0, 1, 0, 0, 8, 0, 56, 120, 0, 504, 1023, 2047]
theorem spec_l06Hop.tab4 : rtab .any (opsOf Try.f76 4) = spec_l06Hop.T4 := by kernel_rfl
theorem spec_l06Hop.bits4 : waitsOk spec_l06Hop.T4.2 spec_l06Hop.B4 = true := by kernel_rfl
set_option maxHeartbeats 8000000 in
set_option maxRecDepth 100000 in
theorem spec_l06Hop.calls (k : Nat) (a0_0 : Int) (A0_1 : Option Addr) (c0_1 : Nat) (l0_1 : List (List (S30))) (a1 : Int) (a2 : Int) (r1 : Int) (r2 : List (List (S30))) (w : World) (hr0_1 : Kd.C (Kd.slice 30 k30) w A0_1 l0_1.length l0_1) (hc0_1 : l0_1.length ≤ c0_1) (h : spec_l06Hop.f k a0_0 l0_1 a1 a2 = some (r1, r2)) :
  Calls Try.prog 76 #[.agg #[.int .i64 a0_0, .slice A0_1 l0_1.length c0_1], .int .i64 a1, .int .i64 a2] w fun e w' => ∃ v1_ : Value, e = .returned (.agg #[.int .i64 r1, v1_]) ∧ Kd.S (Kd.slice 30 k30) 28 w' w.heap.size (fun _ => True) v1_ r2 ∧ Below w.heap.size w w' := by
 have hu24 := Try.underlying24
 have hu30 := Try.underlying30
 have HR0_1 := Aside0.mk hr0_1
 have HC0_1 := Aside0.mk hc0_1
 clear hr0_1 hc0_1
 have HB := Aside0.mk (Below.refl w.heap.size w)
 have H : ((spec_l06Copy.f k a0_0 l0_1).bind fun bt430 => (if 0 ≤ a1 then (if a1 < (bt430.2.length : Int) then (if 0 ≤ a2 then (if a2 < (bt430.2.length : Int) then (if 0 ≤ (wrap64 (((rd_L2 bt430.2 a1).length : Int) - 1)) then (if (wrap64 (((rd_L2 bt430.2 a1).length : Int) - 1)) < ((rd_L2 bt430.2 a1).length : Int) then (if a2 = a1 then (none) else (if (rd_L2 bt430.2 a2).length < 8796093022208 then ((some (bt430.2.set (a2 : Int).toNat ((rd_L2 bt430.2 a2) ++ [(⟨(rd_T30 (rd_L2 bt430.2 a1) (wrap64 (((rd_L2 bt430.2 a1).length : Int) - 1))).f0, (rd_T30 (rd_L2 bt430.2 a1) (wrap64 (((rd_L2 bt430.2 a1).length : Int) - 1))).f1⟩ : S30)]) : List (List (S30)))).bind fun y442 => (if (wrap64 (((rd_L2 bt430.2 a1).length : Int) - 1)) ≤ ((rd_L2 y442 a1).length : Int) then (some (bt430.1, (y442.set (a1 : Int).toNat ((rd_L2 y442 a1).take ((wrap64 (((rd_L2 bt430.2 a1).length : Int) - 1)) : Int).toNat)))) else (none))) else (none))) else (none)) else (none)) else (none)) else (none)) else (none)) else (none))) = some (r1, r2) := h
 clear h
 replace H := Option.bind_eq_some_iff.mp H
 obtain ⟨⟨t430, t431⟩, A40, H⟩ := H
 replace H : (if 0 ≤ a1 then (if a1 < (t431.length : Int) then (if 0 ≤ a2 then (if a2 < (t431.length : Int) then (if 0 ≤ (wrap64 (((rd_L2 t431 a1).length : Int) - 1)) then (if (wrap64 (((rd_L2 t431 a1).length : Int) - 1)) < ((rd_L2 t431 a1).length : Int) then (if a2 = a1 then (none) else (if (rd_L2 t431 a2).length < 8796093022208 then ((some (t431.set (a2 : Int).toNat ((rd_L2 t431 a2) ++ [(⟨(rd_T30 (rd_L2 t431 a1) (wrap64 (((rd_L2 t431 a1).length : Int) - 1))).f0, (rd_T30 (rd_L2 t431 a1) (wrap64 (((rd_L2 t431 a1).length : Int) - 1))).f1⟩ : S30)]) : List (List (S30)))).bind fun y442 => (if (wrap64 (((rd_L2 t431 a1).length : Int) - 1)) ≤ ((rd_L2 y442 a1).length : Int) then (some (t430, (y442.set (a1 : Int).toNat ((rd_L2 y442 a1).take ((wrap64 (((rd_L2 t431 a1).length : Int) - 1)) : Int).toNat)))) else (none))) else (none))) else (none)) else (none)) else (none)) else (none)) else (none)) else (none)) = some (r1, r2) := H
 have A4 := Aside0.mk A40
 clear A40
 by_cases c5 : 0 ≤ a1
 ·rw [if_pos c5] at H
  have c5b0 : decide (0 ≤ a1) = true := decide_eq_true c5
  clear c5
  by_cases c6 : a1 < (t431.length : Int)
  ·rw [if_pos c6] at H
   have c6b0 : decide (a1 < (t431.length : Int)) = true := decide_eq_true c6
   clear c6
   by_cases c7 : 0 ≤ a2
   ·rw [if_pos c7] at H
    have c7b0 : decide (0 ≤ a2) = true := decide_eq_true c7
    clear c7
    by_cases c8 : a2 < (t431.length : Int)
    ·rw [if_pos c8] at H
     have c8b0 : decide (a2 < (t431.length : Int)) = true := decide_eq_true c8
     clear c8
     obtain ⟨ji9, hji9⟩ : ∃ j_ : Int, (wrap64 (((rd_L2 t431 a1).length : Int) - 1)) = j_ := ⟨_, rfl⟩
     replace H : (if 0 ≤ (ji9) then (if (ji9) < ((rd_L2 t431 a1).length : Int) then (if a2 = a1 then (none) else (if (rd_L2 t431 a2).length < 8796093022208 then ((some (t431.set (a2 : Int).toNat ((rd_L2 t431 a2) ++ [(⟨(rd_T30 (rd_L2 t431 a1) (ji9)).f0, (rd_T30 (rd_L2 t431 a1) (ji9)).f1⟩ : S30)]) : List (List (S30)))).bind fun y442 => (if (ji9) ≤ ((rd_L2 y442 a1).length : Int) then (some (t430, (y442.set (a1 : Int).toNat ((rd_L2 y442 a1).take ((ji9) : Int).toNat)))) else (none))) else (none))) else (none)) else (none)) = some (r1, r2) := by first | (rw [hji9] at H; exact H) | (simp only [hji9] at H ⊢; exact H)
     (try rw [hji9] at A4)
     have hji9w : (IntKind.i64.wrap (((rd_L2 t431 a1).length : Int) - 1)) = ji9 := (i64_w _).trans hji9
     by_cases c10 : 0 ≤ (ji9)
     ·rw [if_pos c10] at H
      have c10b0 : decide (0 ≤ (ji9)) = true := decide_eq_true c10
      clear c10
      by_cases c11 : (ji9) < ((rd_L2 t431 a1).length : Int)
      ·rw [if_pos c11] at H
       have c11b0 : decide ((ji9) < ((rd_L2 t431 a1).length : Int)) = true := decide_eq_true c11
       clear c11
       by_cases c12 : a2 = a1
       ·rw [if_pos c12] at H
        exact absurd H (by simp)
       ·rw [if_neg c12] at H
        have c12b0 : (a2 == a1) = false := beq_eq_false_iff_ne.mpr c12
        have c12b1 : (a2 != a1) = true := bne_iff_ne.mpr c12
        by_cases c13 : (rd_L2 t431 a2).length < 8796093022208
        ·rw [if_pos c13] at H
         have LMc13 := Aside0.mk c13
         clear c13
         obtain ⟨y439, hy439⟩ : ∃ y_ : List (S30), y_ = ((rd_L2 t431 a2) ++ [(⟨(rd_T30 (rd_L2 t431 a1) (ji9)).f0, (rd_T30 (rd_L2 t431 a1) (ji9)).f1⟩ : S30)]) := ⟨_, rfl⟩
         replace H : ((some (t431.set (a2 : Int).toNat y439 : List (List (S30)))).bind fun y442 => (if (ji9) ≤ ((rd_L2 y442 a1).length : Int) then (some (t430, (y442.set (a1 : Int).toNat ((rd_L2 y442 a1).take ((ji9) : Int).toNat)))) else (none))) = some (r1, r2) := by first | (rw [hy439]; with_reducible exact H) | (have H2_ := (Option.bind_some _ _).symm.trans H; rw [hy439]; with_reducible exact H2_) | (have H2_ := (Option.bind_some _ _).symm.trans H; with_reducible exact H2_) | with_reducible exact H | (rw [hy439]; exact H) | exact H
         have Ny439 := Aside0.mk hy439
         clear hy439
         obtain ⟨y442, hy442⟩ : ∃ y_ : List (List (S30)), y_ = (t431.set (a2 : Int).toNat y439) := ⟨_, rfl⟩
         replace H : (if (ji9) ≤ ((rd_L2 y442 a1).length : Int) then (some (t430, (y442.set (a1 : Int).toNat ((rd_L2 y442 a1).take ((ji9) : Int).toNat)))) else (none)) = some (r1, r2) := by first | (rw [hy442]; with_reducible exact H) | (have H2_ := (Option.bind_some _ _).symm.trans H; rw [hy442]; with_reducible exact H2_) | (have H2_ := (Option.bind_some _ _).symm.trans H; with_reducible exact H2_) | with_reducible exact H | (rw [hy442]; exact H) | exact H
         have Ny442 := Aside0.mk hy442
         clear hy442
         have c15b0 := eq_true (of_decide_eq_true (by first | (with_reducible assumption) | assumption) : 0 ≤ (ji9))
         by_cases c16 : (ji9) ≤ ((rd_L2 y442 a1).length : Int)
         ·rw [if_pos c16] at H
          have c16b0 := eq_true c16
          have c16b1 : decide ((ji9) ≤ ((rd_L2 y442 a1).length : Int)) = true := decide_eq_true c16
          clear c16
          obtain ⟨y444, hy444⟩ : ∃ y_ : List (S30), y_ = ((rd_L2 y442 a1).take ((ji9) : Int).toNat) := ⟨_, rfl⟩
          replace H : (some (t430, (y442.set (a1 : Int).toNat y444))) = some (r1, r2) := by first | (rw [hy444]; with_reducible exact H) | (have H2_ := (Option.bind_some _ _).symm.trans H; rw [hy444]; with_reducible exact H2_) | (have H2_ := (Option.bind_some _ _).symm.trans H; with_reducible exact H2_) | with_reducible exact H | (rw [hy444]; exact H) | exact H
          have Ny444 := Aside0.mk hy444
          clear hy444
          obtain ⟨y448, hy448⟩ : ∃ y_ : List (List (S30)), y_ = (y442.set (a1 : Int).toNat y444) := ⟨_, rfl⟩
          replace H : (some (t430, y448)) = some (r1, r2) := by first | (rw [hy448]; with_reducible exact H) | (have H2_ := (Option.bind_some _ _).symm.trans H; rw [hy448]; with_reducible exact H2_) | (have H2_ := (Option.bind_some _ _).symm.trans H; with_reducible exact H2_) | with_reducible exact H | (rw [hy448]; exact H) | exact H
          have Ny448 := Aside0.mk hy448
          clear hy448
          simp only [Option.some.injEq, Prod.mk.injEq] at H
          obtain ⟨rfl, rfl⟩ := H
          go_enter Try.func76, Try.ntmps76
          try go_wp2_with (first | ((with_reducible refine gate_dst (N := 3) rfl ?_); refine box_event ?hg (N := 3) ?hd (cs := #[.int .i64 a0_0, .slice A0_1 l0_1.length c0_1]) (t := 24) ?hr ?_; (case hd => rfl); (case hg => rfl); (case hr => first | (go_simp; done) | (go_simp; rfl)); intro gb428 hg w18 hbox hb; have n0_ := Aside0.mk (below_step (by repeat (first | (with_reducible first | exact HB.out | apply below_alloc | apply pw_below_drewN | apply below_drew1) | exact HB.out)) hb); have n1_ := Aside0.mk (hbox); have n2_ := Aside0.mk ((by rw [hg]; exact (below_size (by repeat (first | (with_reducible first | exact HB.out | apply below_alloc | apply pw_below_drewN | apply below_drew1) | exact HB.out))) : w.heap.size ≤ gb428)); have n3_ := Aside0.mk ((by rw [hg]; exact (below_size (by repeat (first | (with_reducible first | exact HB.out | apply below_alloc | apply pw_below_drewN | apply below_drew1) | exact HB.out))) : w.heap.size ≤ gb428)); clear HB; have HB := n0_; have BK428 := n1_; have GW428 := n2_; have GE428 := n3_; clear n0_ n1_ n2_ n3_; clear hb hbox hg) | ((with_reducible refine gate_dst (N := 6) rfl ?_); refine box_event ?hg (N := 6) ?hd (cs := #[.int .i64 0, .slice none 0 0]) (t := 24) ?hr ?_; (case hd => rfl); (case hg => rfl); (case hr => first | (go_simp; done) | (go_simp; rfl)); intro gb429 hg w19 hbox hb; have n0_ := Aside0.mk (blk_below (g := gb428) (o := .cells #[.int .i64 a0_0, .slice A0_1 l0_1.length c0_1] 24 (0, 0)) (by (with_reducible repeat (first | refine blk_drewN ?_ _ | refine blk_drew ?_ | refine blk_alloc ?_ _)); exact BK428.out) hb); have n1_ := Aside0.mk (below_step (by repeat (first | (with_reducible first | exact HB.out | apply below_alloc | apply pw_below_drewN | apply below_drew1 | refine below_set ?_ GE428.out) | exact HB.out)) hb); have n2_ := Aside0.mk (hbox); have n3_ := Aside0.mk ((by rw [hg]; exact (below_size (by repeat (first | (with_reducible first | exact HB.out | apply below_alloc | apply pw_below_drewN | apply below_drew1 | refine below_set ?_ GE428.out) | exact HB.out))) : w.heap.size ≤ gb429)); have n4_ := Aside0.mk ((by rw [hg]; exact (below_size (by repeat (first | (with_reducible first | exact HB.out | apply below_alloc | apply pw_below_drewN | apply below_drew1 | refine below_set ?_ GE428.out) | exact HB.out))) : w.heap.size ≤ gb429)); have n5_ := Aside0.mk ((by rw [hg]; exact Nat.ne_of_lt (blk_lt (g := gb428) (o := .cells #[.int .i64 a0_0, .slice A0_1 l0_1.length c0_1] 24 (0, 0)) (by (with_reducible repeat (first | refine blk_drewN ?_ _ | refine blk_drew ?_ | refine blk_alloc ?_ _)); exact BK428.out)) : gb428 ≠ gb429)); have n6_ := Aside0.mk ((by rw [hg]; exact Nat.ne_of_gt (blk_lt (g := gb428) (o := .cells #[.int .i64 a0_0, .slice A0_1 l0_1.length c0_1] 24 (0, 0)) (by (with_reducible repeat (first | refine blk_drewN ?_ _ | refine blk_drew ?_ | refine blk_alloc ?_ _)); exact BK428.out)) : gb429 ≠ gb428)); clear BK428; clear HB; have BK428 := n0_; have HB := n1_; have BK429 := n2_; have GW429 := n3_; have GE429 := n4_; have NB428_429 := n5_; have NB429_428 := n6_; clear n0_ n1_ n2_ n3_ n4_ n5_ n6_; clear hb hbox hg; have hnb20 := NB428_429.out; have hnc20 := NB429_428.out; have hcz21_0 : w19.cell? ⟨gb428, 0, none⟩ = some (.int .i64 a0_0) := (blk_cell BK428.out 0).trans rfl; have hcz21_1 : w19.cell? ⟨gb428, 1, none⟩ = some (.slice A0_1 l0_1.length c0_1) := (blk_cell BK428.out 1).trans rfl; have hfz21_0 := blk_frozen BK428.out 0; have hfz21_1 := blk_frozen BK428.out 1) | ((with_reducible refine gate_callee (f := 69) rfl ?_); refine goesL_ (some 10) rfl rfl Try.func69 (by kernel_rfl) rfl #[.agg #[.int .i64 a0_0, .slice A0_1 l0_1.length c0_1]] rfl (by (try simp only [List.map_toArray, List.map_cons, List.map_nil]); first | done | rfl | (simp only [List.length_drop, List.length_take]; rfl)) ?_; (with_reducible refine (spec_l06Copy.calls k a0_0 _ _ l0_1 t430 t431 _ ?side1 ?side2 A4.out).mono ?_); (case side1 => repeat (first | exact (Kd.C_below HR0_1.out HB.out) | (with_reducible refine Kd.C_alloc ?_ _) | (with_reducible refine Kd.C_drewN ?_ _) | (with_reducible refine Kd.C_drew ?_))); (case side2 => exact HC0_1.out); rintro e w22 ⟨v432, rfl, ho0, hb⟩; refine ⟨_, rfl, ?_⟩; have n0_ := Aside0.mk (Kd.S_lower ho0 (below_size (by repeat (first | (with_reducible first | exact HB.out | apply below_alloc | apply pw_below_drewN | apply below_drew1 | refine below_set ?_ GE428.out | refine below_set ?_ GE429.out) | exact HB.out)))); have n1_ := Aside0.mk (blk_below (g := gb428) (o := .cells #[.int .i64 a0_0, .slice A0_1 l0_1.length c0_1] 24 (0, 0)) (by (with_reducible repeat (first | refine blk_drewN ?_ _ | refine blk_drew ?_ | refine blk_alloc ?_ _)); exact BK428.out) hb); have n2_ := Aside0.mk (blk_below (g := gb429) (o := .cells #[.int .i64 0, .slice none 0 0] 24 (0, 0)) (by (with_reducible repeat (first | refine blk_drewN ?_ _ | refine blk_drew ?_ | refine blk_alloc ?_ _)); exact BK429.out) hb); have n3_ := Aside0.mk (below_step (by repeat (first | (with_reducible first | exact HB.out | apply below_alloc | apply pw_below_drewN | apply below_drew1 | refine below_set ?_ GE428.out | refine below_set ?_ GE429.out) | exact HB.out)) hb); clear BK428; clear BK429; clear HB; have HO433 := n0_; have BK428 := n1_; have BK429 := n2_; have HB := n3_; clear n0_ n1_ n2_ n3_; (try clear hb); (try clear hb2); (try clear hk); (try clear hi); (try clear ho0)) | ((with_reducible refine gate_dst (N := 7) rfl ?_); refine box_event ?hg (N := 7) ?hd (cs := #[.int .i64 0, .slice none 0 0]) (t := 24) ?hr ?_; (case hd => rfl); (case hg => rfl); (case hr => first | (go_simp; done) | (go_simp; rfl)); intro gb434 hg w23 hbox hb; have n0_ := Aside0.mk (Kd.S_below (by (with_reducible repeat (first | apply Kd.S_alloc | apply Kd.S_drewN | apply Kd.S_drew)); exact HO433.out) hb); have n1_ := Aside0.mk (blk_below (g := gb428) (o := .cells #[.int .i64 a0_0, .slice A0_1 l0_1.length c0_1] 24 (0, 0)) (by (with_reducible repeat (first | refine blk_drewN ?_ _ | refine blk_drew ?_ | refine blk_alloc ?_ _)); exact BK428.out) hb); have n2_ := Aside0.mk (blk_below (g := gb429) (o := .cells #[.int .i64 0, .slice none 0 0] 24 (0, 0)) (by (with_reducible repeat (first | refine blk_drewN ?_ _ | refine blk_drew ?_ | refine blk_alloc ?_ _)); exact BK429.out) hb); have n3_ := Aside0.mk (below_step (by repeat (first | (with_reducible first | exact HB.out | apply below_alloc | apply pw_below_drewN | apply below_drew1 | refine below_set ?_ GE428.out | refine below_set ?_ GE429.out) | exact HB.out)) hb); have n4_ := Aside0.mk (hbox); have n5_ := Aside0.mk ((by rw [hg]; exact (below_size (by repeat (first | (with_reducible first | exact HB.out | apply below_alloc | apply pw_below_drewN | apply below_drew1 | refine below_set ?_ GE428.out | refine below_set ?_ GE429.out) | exact HB.out))) : w.heap.size ≤ gb434)); have n6_ := Aside0.mk ((by rw [hg]; exact (below_size (by repeat (first | (with_reducible first | exact HB.out | apply below_alloc | apply pw_below_drewN | apply below_drew1 | refine below_set ?_ GE428.out | refine below_set ?_ GE429.out) | exact HB.out))) : w.heap.size ≤ gb434)); have n7_ := Aside0.mk ((by rw [hg]; exact Nat.ne_of_lt (blk_lt (g := gb428) (o := .cells #[.int .i64 a0_0, .slice A0_1 l0_1.length c0_1] 24 (0, 0)) (by (with_reducible repeat (first | refine blk_drewN ?_ _ | refine blk_drew ?_ | refine blk_alloc ?_ _)); exact BK428.out)) : gb428 ≠ gb434)); have n8_ := Aside0.mk ((by rw [hg]; exact Nat.ne_of_gt (blk_lt (g := gb428) (o := .cells #[.int .i64 a0_0, .slice A0_1 l0_1.length c0_1] 24 (0, 0)) (by (with_reducible repeat (first | refine blk_drewN ?_ _ | refine blk_drew ?_ | refine blk_alloc ?_ _)); exact BK428.out)) : gb434 ≠ gb428)); have n9_ := Aside0.mk ((by rw [hg]; exact Nat.ne_of_lt (blk_lt (g := gb429) (o := .cells #[.int .i64 0, .slice none 0 0] 24 (0, 0)) (by (with_reducible repeat (first | refine blk_drewN ?_ _ | refine blk_drew ?_ | refine blk_alloc ?_ _)); exact BK429.out)) : gb429 ≠ gb434)); have n10_ := Aside0.mk ((by rw [hg]; exact Nat.ne_of_gt (blk_lt (g := gb429) (o := .cells #[.int .i64 0, .slice none 0 0] 24 (0, 0)) (by (with_reducible repeat (first | refine blk_drewN ?_ _ | refine blk_drew ?_ | refine blk_alloc ?_ _)); exact BK429.out)) : gb434 ≠ gb429)); clear HO433; clear BK428; clear BK429; clear HB; have HO433 := n0_; have BK428 := n1_; have BK429 := n2_; have HB := n3_; have BK434 := n4_; have GW434 := n5_; have GE434 := n6_; have NB428_434 := n7_; have NB434_428 := n8_; have NB429_434 := n9_; have NB434_429 := n10_; clear n0_ n1_ n2_ n3_ n4_ n5_ n6_ n7_ n8_ n9_ n10_; clear hb hbox hg; have hnb24 := NB434_428.out; have hnc24 := NB428_434.out; have hnb25 := NB434_429.out; have hnc25 := NB429_434.out; have hcz26_0 : w23.cell? ⟨gb434, 0, none⟩ = some (.int .i64 0) := (blk_cell BK434.out 0).trans rfl; have hcz26_1 : w23.cell? ⟨gb434, 1, none⟩ = some (.slice none 0 0) := (blk_cell BK434.out 1).trans rfl; have hfz26_0 := blk_frozen BK434.out 0; have hfz26_1 := blk_frozen BK434.out 1; obtain ⟨Ao27, co27, eo27⟩ := Kd.S_slice HO433.out; subst eo27) | ((with_reducible refine gate_store (t := 24) (p := 7) rfl ?_); refine store_event (t := 24) (p := 7) (v := ?vo_w28) (w1 := ((w23.setCell ⟨gb434, 0, none⟩ (.int .i64 t430)).setCell ⟨gb434, 1, none⟩ (.slice Ao27 t431.length co27))) ?hg ?ho ?hn ?hr ?_; (case ho => rfl); (case hg => rfl); (case hn => rfl); (case hr => first | (go_simp; done) | (go_simp; rfl)); intro w28 hw; have n0_ : Aside0 (Kd.S (Kd.slice 30 k30) 28 w28 w.heap.size (fun _ => True) (.slice Ao27 t431.length co27) t431) := ⟨(by rw [hw]; exact (by (with_reducible repeat (first | apply Kd.S_alloc | apply Kd.S_drewN | apply Kd.S_drew)); exact Kd.S_mono (Kd.S_far (p := ⟨gb434, 1, none⟩) (Kd.S_far (p := ⟨gb434, 0, none⟩) (Kd.S_types HO433.out BK434.out (by decide)) (fun _ hk => hk.2) (.int .i64 t430)) (fun _ hk => hk.2) (.slice Ao27 t431.length co27)) (fun _ hk => trivial)))⟩; have n1_ : Aside0 (w28.heap[gb428]? = some (.cells #[.int .i64 a0_0, .slice A0_1 l0_1.length c0_1] 24 (0, 0))) := ⟨(by rw [hw]; exact (by (with_reducible repeat (first | refine blk_drewN ?_ _ | refine blk_drew ?_ | refine blk_alloc ?_ _)); refine blk_far ?_ NB428_434.out _; (with_reducible repeat (first | refine blk_drewN ?_ _ | refine blk_drew ?_ | refine blk_alloc ?_ _)); refine blk_far ?_ NB428_434.out _; (with_reducible repeat (first | refine blk_drewN ?_ _ | refine blk_drew ?_ | refine blk_alloc ?_ _)); exact BK428.out))⟩; have n2_ : Aside0 (w28.heap[gb429]? = some (.cells #[.int .i64 0, .slice none 0 0] 24 (0, 0))) := ⟨(by rw [hw]; exact (by (with_reducible repeat (first | refine blk_drewN ?_ _ | refine blk_drew ?_ | refine blk_alloc ?_ _)); refine blk_far ?_ NB429_434.out _; (with_reducible repeat (first | refine blk_drewN ?_ _ | refine blk_drew ?_ | refine blk_alloc ?_ _)); refine blk_far ?_ NB429_434.out _; (with_reducible repeat (first | refine blk_drewN ?_ _ | refine blk_drew ?_ | refine blk_alloc ?_ _)); exact BK429.out))⟩; have n3_ : Aside0 (w28.heap[gb434]? = some (.cells #[.int .i64 t430, .slice Ao27 t431.length co27] 24 (0, 0))) := ⟨(by rw [hw]; exact (by (with_reducible repeat (first | refine blk_drewN ?_ _ | refine blk_drew ?_ | refine blk_alloc ?_ _)); refine blk_put (cs := #[.int .i64 t430, .slice none 0 0]) ?_ 1 _ rfl; (with_reducible repeat (first | refine blk_drewN ?_ _ | refine blk_drew ?_ | refine blk_alloc ?_ _)); refine blk_put (cs := #[.int .i64 0, .slice none 0 0]) ?_ 0 _ rfl; (with_reducible repeat (first | refine blk_drewN ?_ _ | refine blk_drew ?_ | refine blk_alloc ?_ _)); exact BK434.out))⟩; have n4_ : Aside0 (Below w.heap.size w w28) := ⟨(by rw [hw]; exact (by repeat (first | (with_reducible first | exact HB.out | apply below_alloc | apply pw_below_drewN | apply below_drew1 | refine below_set ?_ GE428.out | refine below_set ?_ GE429.out | refine below_set ?_ GE434.out) | exact HB.out)))⟩; clear hw; clear HO433; clear BK428; clear BK429; clear BK434; clear HB; have HO433 := n0_; have BK428 := n1_; have BK429 := n2_; have BK434 := n3_; have HB := n4_; clear n0_ n1_ n2_ n3_ n4_; have hcz29_0 : w28.cell? ⟨gb434, 0, none⟩ = some (.int .i64 t430) := (blk_cell BK434.out 0).trans rfl; have hcz29_1 : w28.cell? ⟨gb434, 1, none⟩ = some (.slice Ao27 t431.length co27) := (blk_cell BK434.out 1).trans rfl; have hfz29_0 := blk_frozen BK434.out 0; have hfz29_1 := blk_frozen BK434.out 1; have p435 : 0 ≤ (a1 : Int) := of_decide_eq_true (by first | (with_reducible assumption) | assumption); have q435 : a1 < (t431.length : Int) := of_decide_eq_true (by first | (with_reducible assumption) | assumption); obtain ⟨ad435, A435_0, c435_0, e435, hx435_0, hl435_0, hi435_0⟩ := at_L2 (Kd.S_reads' HO433.out).2.2 a1 p435 q435; cases e435; obtain ⟨ce435, hce435, hMe435, hcc435⟩ := Kd.S_get HO433.out [] a1 p435 (by first | exact q435 | exact of_decide_eq_true (by first | (with_reducible assumption) | assumption) | (have e_ := (Kd.S_reads' HO433.out).1; omega)); obtain ⟨ve435_0, rfl, ge435_0⟩ := hMe435; have hv435_0 := hcc435 0 _ rfl; rw [Nat.add_zero, show ((Kd.slice 30 k30)).sz = 1 from rfl, Nat.mul_one] at hv435_0; replace hv435_0 := Option.some.inj (hv435_0.symm.trans hx435_0); rw [hv435_0] at ge435_0; have HL435_0 := Aside0.mk (show Kd.R k30 30 _ _ _ _ (rd_L2 t431 a1) from ge435_0); clear hv435_0 ge435_0; have HX435_0 := Aside0.mk hx435_0; clear hcc435 hce435; have HR435_0 := Aside0.mk hi435_0; have HC435_0 := Aside0.mk hl435_0; clear hi435_0 hl435_0; replace p435 := eq_true p435; replace q435 := eq_true q435))
          have n0_ := Aside0.mk (Kd.S_drew HO433.out)
          have n1_ := Aside0.mk (Kd.R_drew HL435_0.out)
          have n2_ := Aside0.mk (blk_drew BK428.out)
          have n3_ := Aside0.mk (blk_drew BK429.out)
          have n4_ := Aside0.mk (blk_drew BK434.out)
          have n5_ := Aside0.mk (Kd.C_drew HR435_0.out)
          have n6_ := Aside0.mk (below_drew1 HB.out)
          clear HO433
          clear HL435_0
          clear BK428
          clear BK429
          clear BK434
          clear HR435_0
          clear HB
          have HO433 := n0_
          have HL435_0 := n1_
          have BK428 := n2_
          have BK429 := n3_
          have BK434 := n4_
          have HR435_0 := n5_
          have HB := n6_
          clear n0_ n1_ n2_ n3_ n4_ n5_ n6_
          have p436 : 0 ≤ (a2 : Int) := of_decide_eq_true (by first | (with_reducible assumption) | assumption)
          have q436 : a2 < (t431.length : Int) := of_decide_eq_true (by first | (with_reducible assumption) | assumption)
          obtain ⟨ad436, A436_0, c436_0, e436, hx436_0, hl436_0, hi436_0⟩ := at_L2 (Kd.S_reads' HO433.out).2.2 a2 p436 q436
          obtain rfl : ad435 = ad436 := (by injection e436)
          obtain ⟨ce436, hce436, hMe436, hcc436⟩ := Kd.S_get HO433.out [] a2 p436 (by first | exact q436 | exact of_decide_eq_true (by first | (with_reducible assumption) | assumption) | (have e_ := (Kd.S_reads' HO433.out).1; omega))
          obtain ⟨ve436_0, rfl, ge436_0⟩ := hMe436
          have hv436_0 := hcc436 0 _ rfl
          rw [Nat.add_zero, show ((Kd.slice 30 k30)).sz = 1 from rfl, Nat.mul_one] at hv436_0
          replace hv436_0 := Option.some.inj (hv436_0.symm.trans hx436_0)
          rw [hv436_0] at ge436_0
          have HL436_0 := Aside0.mk (show Kd.R k30 30 _ _ _ _ (rd_L2 t431 a2) from ge436_0)
          clear hv436_0 ge436_0
          have HX436_0 := Aside0.mk hx436_0
          clear hcc436 hce436
          have HR436_0 := Aside0.mk hi436_0
          have HC436_0 := Aside0.mk hl436_0
          clear hi436_0 hl436_0
          replace p436 := eq_true p436
          replace q436 := eq_true q436
          have p437 : 0 ≤ (a1 : Int) := of_decide_eq_true (by first | (with_reducible assumption) | assumption)
          have q437 : a1 < (t431.length : Int) := of_decide_eq_true (by first | (with_reducible assumption) | assumption)
          obtain ⟨ad437, A437_0, c437_0, e437, hx437_0, hl437_0, hi437_0⟩ := at_L2 (Kd.S_reads' HO433.out).2.2 a1 p437 q437
          obtain rfl : ad435 = ad437 := (by injection e437)
          obtain ⟨ce437, hce437, hMe437, hcc437⟩ := Kd.S_get HO433.out [] a1 p437 (by first | exact q437 | exact of_decide_eq_true (by first | (with_reducible assumption) | assumption) | (have e_ := (Kd.S_reads' HO433.out).1; omega))
          obtain ⟨ve437_0, rfl, ge437_0⟩ := hMe437
          have hv437_0 := hcc437 0 _ rfl
          rw [Nat.add_zero, show ((Kd.slice 30 k30)).sz = 1 from rfl, Nat.mul_one] at hv437_0
          replace hv437_0 := Option.some.inj (hv437_0.symm.trans hx437_0)
          rw [hv437_0] at ge437_0
          have HL437_0 := Aside0.mk (show Kd.R k30 30 _ _ _ _ (rd_L2 t431 a1) from ge437_0)
          clear hv437_0 ge437_0
          have HX437_0 := Aside0.mk hx437_0
          clear hcc437 hce437
          have HR437_0 := Aside0.mk hi437_0
          have HC437_0 := Aside0.mk hl437_0
          clear hi437_0 hl437_0
          replace p437 := eq_true p437
          replace q437 := eq_true q437
          have p438 : 0 ≤ ((ji9) : Int) := of_decide_eq_true (by first | (with_reducible assumption) | assumption)
          have q438 : (ji9) < ((rd_L2 t431 a1).length : Int) := of_decide_eq_true (by first | (with_reducible assumption) | assumption)
          obtain ⟨ad438, e438, hx438_0, hx438_1⟩ := at_T30 (by repeat (first | (with_reducible exact HR437_0.out) | (with_reducible refine Kd.C_alloc ?_ _) | (with_reducible refine Kd.C_drewN ?_ _) | (with_reducible refine Kd.C_drew ?_) | exact HR437_0.out)) (ji9) p438 q438
          cases e438
          replace p438 := eq_true p438
          replace q438 := eq_true q438
          obtain ⟨go31, co31, eo31, gb31, gl31, cl31, HG31⟩ := Kd.S_form HO433.out (by have h_ : (a2 : Int) < ((t431.length : Int) : Int) := of_decide_eq_true (by first | (with_reducible assumption) | assumption); have h2_ : 0 ≤ (a2 : Int) := (of_decide_eq_true (by first | (with_reducible assumption) | assumption)); omega)
          (first | cases eo31 | (injection eo31 with ea_ en_ ec_; (first | subst ea_ | (injection ea_ with ea_; subst ea_)); subst ec_; clear en_))
          have GB31 := Aside0.mk gb31
          have GG31 := Aside0.mk HG31
          clear gb31 gl31 HG31
          (first | simp only [add_plain] at hx435_0 | skip)
          (first | simp only [add_plain] at hx436_0 | skip)
          (first | simp only [add_plain] at hx437_0 | skip)
          obtain ⟨oki31, ce31, hcl31, hM31, hcc31, _, _, hH31⟩ := Kd.S_elem HO433.out [] (a2 : Int) (of_decide_eq_true (by first | (with_reducible assumption) | assumption)) (by have h_ : (a2 : Int) < ((t431.length : Int) : Int) := of_decide_eq_true (by first | (with_reducible assumption) | assumption); first | exact h_ | (have e_ := (Kd.S_reads' HO433.out).1; omega) | simpa using h_)
          obtain ⟨ve31_0, rfl, ge31_0⟩ := hM31
          have hv31 := hcc31 0 _ rfl
          have hX31 := HX436_0.out
          (try simp only [add_plain] at hX31)
          (try simp only [Nat.add_zero] at hv31)
          (try rw [show ((Kd.slice 30 k30)).sz = 1 from rfl, Nat.mul_one] at hv31)
          replace hv31 := Option.some.inj (hv31.symm.trans hX31)
          subst hv31
          clear hX31 hcc31 hcl31
          have UU31 := Aside0.mk (show Kd.R k30 30 _ w.heap.size oki31 (.slice A436_0 (rd_L2 t431 a2).length c436_0) (rd_L2 t431 a2) from ge31_0)
          have HH31 := Aside0.mk hH31
          have HN31 := Aside0.mk (Kd.S_reads' HO433.out).1
          clear hH31 ge31_0
          have hTi31 := HX436_0.out
          have hTj31 := HX437_0.out
          (try simp only [add_plain] at hTi31 hTj31)
          have hT31_437 := Aside0.mk (Opens.S_two HO433.out (of_decide_eq_true (by first | (with_reducible assumption) | assumption)) (by have h_ : (a2 : Int) < ((t431.length : Int) : Int) := of_decide_eq_true (by first | (with_reducible assumption) | assumption); first | exact h_ | (have e_ := (Kd.S_reads' HO433.out).1; omega) | simpa using h_) (of_decide_eq_true (by first | (with_reducible assumption) | assumption)) (by have h_ : (a1 : Int) < ((t431.length : Int) : Int) := of_decide_eq_true (by first | (with_reducible assumption) | assumption); first | exact h_ | (have e_ := (Kd.S_reads' HO433.out).1; omega) | simpa using h_) (by first | assumption | exact fun h_ => absurd h_.symm (by assumption)) hTi31 hTj31)
          clear hTi31 hTj31
          refine start_ (n := 20) (S := fun w' => w'.cell? ⟨gb434, 0, none⟩ = some (.int .i64 t430) ∧ w'.cell? ⟨gb434, 1, none⟩ = some (.slice (some ⟨go31, 0, none⟩) t431.length co27) ∧ w'.cell? ⟨go31, (a2).toNat, none⟩ = some (.slice A436_0 (rd_L2 t431 a2).length c436_0) ∧ w'.cell? ⟨go31, (a1).toNat, none⟩ = some (.slice (some ad438) (rd_L2 t431 a1).length c437_0) ∧ w'.cell? (ad438.add (((ji9)).toNat * 2)) = some (.int .i64 ((rd_T30 (rd_L2 t431 a1) (ji9)).f0)) ∧ w'.cell? ⟨(ad438.add (((ji9)).toNat * 2)).block, (ad438.add (((ji9)).toNat * 2)).off + 1, none⟩ = some (.int .i64 ((rd_T30 (rd_L2 t431 a1) (ji9)).f1))) (ds := [19]) #[false, false, false, false, false, false, false, false, false, false, false, false, false, false, false, false, false, false, false, false] (by kernel_rfl) rfl rfl ⟨(blk_cell BK434.out 0).trans rfl, (blk_cell BK434.out 1).trans rfl, hx436_0, hx437_0, hx438_0, hx438_1⟩ (fun hHeld => ?_); refine with_tabW spec_l06Hop.tab3 spec_l06Hop.bits3 (fun HT_ HW_ => ?_)
          generalize w28.drew = w30 at HO433 HL435_0 BK428 BK429 BK434 HR435_0 HB GG31 HH31 HL436_0 HL437_0 HR436_0 HR437_0 HX436_0 HX437_0 UU31 hx435_0 hx436_0 hx437_0 hx438_0 hx438_1 hHeld ⊢
          refine pure_ (i := 0) (N := some 18) (v := ?_) (a' := ?_) #[true, false, false, false, false, false, false, false, false, false, false, false, false, false, false, false, false, false, false, false] rfl rfl (any_of HT_.out (by kernel_rfl)) (fun _ _ _ h => h) (Or.inl ⟨by rfl, ?_⟩) ?_ ?_
          rotate_left
          ·intro w'
           go_simp
           with_reducible rfl
          rotate_left
          ·simp only [Act.put, List.setIfInBounds_toArray, List.set_cons_zero, List.set_cons_succ, i64_w, i32_w]
           rfl
          refine pure_ (i := 2) (N := some 20) (v := ?_) (a' := ?_) #[true, false, true, false, false, false, false, false, false, false, false, false, false, false, false, false, false, false, false, false] rfl rfl (any_of HT_.out (by kernel_rfl)) (fun _ _ _ h => h) (Or.inl ⟨by rfl, ?_⟩) ?_ ?_
          rotate_left
          ·intro w'
           go_simp
           with_reducible rfl
          rotate_left
          ·simp only [Act.put, List.setIfInBounds_toArray, List.set_cons_zero, List.set_cons_succ, i64_w, i32_w]
           rfl
          refine pure_ (i := 3) (N := some 21) (v := ?_) (a' := ?_) #[true, false, true, true, false, false, false, false, false, false, false, false, false, false, false, false, false, false, false, false] rfl rfl (any_of HT_.out (by kernel_rfl)) (fun _ _ _ h => h) (Or.inl ⟨by rfl, ?_⟩) ?_ ?_
          rotate_left
          ·intro w'
           go_simp
           with_reducible rfl
          rotate_left
          ·simp only [Act.put, List.setIfInBounds_toArray, List.set_cons_zero, List.set_cons_succ, i64_w, i32_w]
           rfl
          refine pure_ (i := 5) (N := some 23) (v := ?_) (a' := ?_) #[true, false, true, true, false, true, false, false, false, false, false, false, false, false, false, false, false, false, false, false] rfl rfl (any_of HT_.out (by kernel_rfl)) (fun _ _ _ h => h) (Or.inl ⟨by rfl, ?_⟩) ?_ ?_
          rotate_left
          ·intro w'
           go_simp
           with_reducible rfl
          rotate_left
          ·simp only [Act.put, List.setIfInBounds_toArray, List.set_cons_zero, List.set_cons_succ, i64_w, i32_w]
           rfl
          refine pure_ (i := 8) (N := some 26) (v := ?_) (a' := ?_) #[true, false, true, true, false, true, false, false, true, false, false, false, false, false, false, false, false, false, false, false] rfl rfl (any_of HT_.out (by kernel_rfl)) (fun _ _ _ h => h) (Or.inl ⟨by rfl, ?_⟩) ?_ ?_
          rotate_left
          ·intro w'
           go_simp
           with_reducible rfl
          rotate_left
          ·simp only [Act.put, List.setIfInBounds_toArray, List.set_cons_zero, List.set_cons_succ, i64_w, i32_w]
           rfl
          refine pure_ (i := 10) (N := some 28) (v := ?_) (a' := ?_) #[true, false, true, true, false, true, false, false, true, false, true, false, false, false, false, false, false, false, false, false] rfl rfl (any_of HT_.out (by kernel_rfl)) (fun _ _ _ h => h) (Or.inl ⟨by rfl, ?_⟩) ?_ ?_
          rotate_left
          ·intro w'
           go_simp
           with_reducible rfl
          rotate_left
          ·simp only [Act.put, List.setIfInBounds_toArray, List.set_cons_zero, List.set_cons_succ, i64_w, i32_w]
           rfl
          refine pure_ (i := 13) (N := some 31) (v := ?_) (a' := ?_) #[true, false, true, true, false, true, false, false, true, false, true, false, false, true, false, false, false, false, false, false] rfl rfl (any_of HT_.out (by kernel_rfl)) (fun _ _ _ h => h) (Or.inl ⟨by rfl, ?_⟩) ?_ ?_
          rotate_left
          ·intro w'
           go_simp
           with_reducible rfl
          rotate_left
          ·simp only [Act.put, List.setIfInBounds_toArray, List.set_cons_zero, List.set_cons_succ, i64_w, i32_w]
           rfl
          refine take_ (i := 1) (N := some 19) (v := ?_) (a' := ?_) #[true, true, true, true, false, true, false, false, true, false, true, false, false, true, false, false, false, false, false, false] rfl rfl (take_ofW HT_.out HW_.out (by kernel_rfl)) (fun _ _ _ h => h) (Or.inl ⟨by rfl, ?_⟩) hHeld ?_ ?_
          rotate_left
          ·rintro w' ⟨s0, s1, s2, s3, s4, s5⟩
           go_simp
           with_reducible rfl
          rotate_left
          ·simp only [Act.put, List.setIfInBounds_toArray, List.set_cons_zero, List.set_cons_succ, i64_w, i32_w]
           rfl
          refine take_ (i := 4) (N := some 22) (v := ?_) (a' := ?_) #[true, true, true, true, true, true, false, false, true, false, true, false, false, true, false, false, false, false, false, false] rfl rfl (take_ofW HT_.out HW_.out (by kernel_rfl)) (fun _ _ _ h => h) (Or.inl ⟨by rfl, ?_⟩) hHeld ?_ ?_
          rotate_left
          ·rintro w' ⟨s0, s1, s2, s3, s4, s5⟩
           go_simp
           with_reducible rfl
          rotate_left
          ·simp only [Act.put, List.setIfInBounds_toArray, List.set_cons_zero, List.set_cons_succ, i64_w, i32_w]
           rfl
          refine pure_ (i := 6) (N := some 24) (v := ?_) (a' := ?_) #[true, true, true, true, true, true, true, false, true, false, true, false, false, true, false, false, false, false, false, false] rfl rfl (any_of HT_.out (by kernel_rfl)) (fun _ _ _ h => h) (Or.inl ⟨by rfl, ?_⟩) ?_ ?_
          rotate_left
          ·intro w'
           go_simp
           with_reducible rfl
          rotate_left
          ·simp only [Act.put, List.setIfInBounds_toArray, List.set_cons_zero, List.set_cons_succ, i64_w, i32_w]
           rfl
          refine take_ (i := 7) (N := some 25) (v := ?_) (a' := ?_) #[true, true, true, true, true, true, true, true, true, false, true, false, false, true, false, false, false, false, false, false] rfl rfl (take_ofW HT_.out HW_.out (by kernel_rfl)) (fun _ _ _ h => h) (Or.inl ⟨by rfl, ?_⟩) hHeld ?_ ?_
          rotate_left
          ·rintro w' ⟨s0, s1, s2, s3, s4, s5⟩
           go_simp
           with_reducible rfl
          rotate_left
          ·simp only [Act.put, List.setIfInBounds_toArray, List.set_cons_zero, List.set_cons_succ, i64_w, i32_w]
           rfl
          refine take_ (i := 9) (N := some 27) (v := ?_) (a' := ?_) #[true, true, true, true, true, true, true, true, true, true, true, false, false, true, false, false, false, false, false, false] rfl rfl (take_ofW HT_.out HW_.out (by kernel_rfl)) (fun _ _ _ h => h) (Or.inl ⟨by rfl, ?_⟩) hHeld ?_ ?_
          rotate_left
          ·rintro w' ⟨s0, s1, s2, s3, s4, s5⟩
           go_simp
           with_reducible rfl
          rotate_left
          ·simp only [Act.put, List.setIfInBounds_toArray, List.set_cons_zero, List.set_cons_succ, i64_w, i32_w]
           rfl
          refine pure_ (i := 11) (N := some 29) (v := ?_) (a' := ?_) #[true, true, true, true, true, true, true, true, true, true, true, true, false, true, false, false, false, false, false, false] rfl rfl (any_of HT_.out (by kernel_rfl)) (fun _ _ _ h => h) (Or.inl ⟨by rfl, ?_⟩) ?_ ?_
          rotate_left
          ·intro w'
           go_simp
           with_reducible rfl
          rotate_left
          ·simp only [Act.put, List.setIfInBounds_toArray, List.set_cons_zero, List.set_cons_succ, i64_w, i32_w]
           rfl
          refine take_ (i := 12) (N := some 30) (v := ?_) (a' := ?_) #[true, true, true, true, true, true, true, true, true, true, true, true, true, true, false, false, false, false, false, false] rfl rfl (take_ofW HT_.out HW_.out (by kernel_rfl)) (fun _ _ _ h => h) (Or.inl ⟨by rfl, ?_⟩) hHeld ?_ ?_
          rotate_left
          ·rintro w' ⟨s0, s1, s2, s3, s4, s5⟩
           go_simp
           with_reducible rfl
          rotate_left
          ·simp only [Act.put, List.setIfInBounds_toArray, List.set_cons_zero, List.set_cons_succ, i64_w, i32_w]
           rfl
          refine pure_ (i := 14) (N := some 32) (v := ?_) (a' := ?_) #[true, true, true, true, true, true, true, true, true, true, true, true, true, true, true, false, false, false, false, false] rfl rfl (any_of HT_.out (by kernel_rfl)) (fun _ _ _ h => h) (Or.inl ⟨by rfl, ?_⟩) ?_ ?_
          rotate_left
          ·intro w'
           go_simp
           with_reducible rfl
          rotate_left
          ·simp only [Act.put, List.setIfInBounds_toArray, List.set_cons_zero, List.set_cons_succ, i64_w, i32_w]
           rfl
          refine take_ (i := 15) (N := some 33) (v := ?_) (a' := ?_) #[true, true, true, true, true, true, true, true, true, true, true, true, true, true, true, true, false, false, false, false] rfl rfl (take_ofW HT_.out HW_.out (by kernel_rfl)) (fun _ _ _ h => h) (Or.inl ⟨by rfl, ?_⟩) hHeld ?_ ?_
          rotate_left
          ·rintro w' ⟨s0, s1, s2, s3, s4, s5⟩
           go_simp
           with_reducible rfl
          rotate_left
          ·simp only [Act.put, List.setIfInBounds_toArray, List.set_cons_zero, List.set_cons_succ, i64_w, i32_w]
           rfl
          refine one_ (i := 16) (N := some 34) #[true, true, true, true, true, true, true, true, true, true, true, true, true, true, true, true, true, false, false, false] rfl rfl (one_of HT_.out (by kernel_rfl)) (by decide) (fun K hK => ?_)
          refine value_ (w1 := ?_) (v := ?_) (by rfl) rfl ?_ ?_
          rotate_left 2
          ·go_simp
           constructor
           ·rfl
           ·rfl
          refine hK.out _ _ ⟨(blk_cell (blk_alloc BK434.out _) 0).trans rfl, (blk_cell (blk_alloc BK434.out _) 1).trans rfl, (World.cell?_alloc_lt _ _ _ (World.block_lt_of_cell? _ _ (hHeld.2.2.1))).trans (hHeld.2.2.1), (World.cell?_alloc_lt _ _ _ (World.block_lt_of_cell? _ _ (hHeld.2.2.2.1))).trans (hHeld.2.2.2.1), (World.cell?_alloc_lt _ _ _ (World.block_lt_of_cell? _ _ (hHeld.2.2.2.2.1))).trans (hHeld.2.2.2.2.1), (World.cell?_alloc_lt _ _ _ (World.block_lt_of_cell? _ _ (hHeld.2.2.2.2.2))).trans (hHeld.2.2.2.2.2)⟩ (fun hHeld => ?_)
          clear hK K
          refine norm_ (a' := ?_) ?_ ?_
          rotate_left
          ·show Act.put _ (some 34) _ = _
           simp only [Act.put, List.setIfInBounds_toArray, List.set_cons_zero, List.set_cons_succ, i64_w, i32_w]
           rfl
          refine one_ (i := 17) (N := some 35) #[true, true, true, true, true, true, true, true, true, true, true, true, true, true, true, true, true, true, false, false] rfl rfl (one_of HT_.out (by kernel_rfl)) (by decide) (fun K hK => ?_)
          refine Kd.R_append_step k30 (w0 := w) w.heap.size (by rfl) (.tmp 25) (.tmp 34) 28 30 (.agg #[(.int .i64 0), (.int .i64 0)]) 16 rfl Try.underlying28 info30 rfl (by decide) (by omega) (.slice A436_0 (rd_L2 t431 a2).length c436_0) (rd_L2 t431 a2) (⟨(rd_T30 (rd_L2 t431 a1) (ji9)).f0, (rd_T30 (rd_L2 t431 a1) (ji9)).f1⟩ : S30) [.int .i64 ((rd_T30 (rd_L2 t431 a1) (ji9)).f0), .int .i64 ((rd_T30 (rd_L2 t431 a1) (ji9)).f1)] (fun k_ => oki31 k_ ∨ ((fun _ => True)) k_ ∧ w30.heap.size ≤ k_) (fun _ => False) rfl rfl ?aP (fun _ hk => hk.elim) ?aF ?aO ?aB ?aS ?aL ?_
          (case aP => exact k30_mkM _ _ _ (⟨(rd_T30 (rd_L2 t431 a1) (ji9)).f0, (rd_T30 (rd_L2 t431 a1) (ji9)).f1⟩ : S30))
          (case aB => exact (by repeat (first | (with_reducible first | exact HB.out | apply below_alloc | apply pw_below_drewN | apply below_drew1 | refine below_set ?_ GE428.out | refine below_set ?_ GE429.out | refine below_set ?_ GE434.out) | exact HB.out)))
          (case aF => exact (fun k_ hk => .inr ⟨trivial, hk⟩))
          (case aO => exact (by (with_reducible repeat (first | apply Kd.R_alloc | apply Kd.R_drewN | apply Kd.R_drew)); exact Kd.R_mono UU31.out (fun _ hk => .inl hk)))
          (case aS => exact (below_size (by repeat (first | (with_reducible first | exact HB.out | apply below_alloc | apply pw_below_drewN | apply below_drew1 | refine below_set ?_ GE428.out | refine below_set ?_ GE429.out | refine below_set ?_ GE434.out) | exact HB.out))))
          (case aL => have := LMc13.out; omega)
          intro v440 w32 ho hb hg hat
          (first | have HS2_ := cell_grown hg (hHeld.2.2.1) (by first | (rw [add_block]; exact (fun e_ => ((HL436_0.out.1 _ e_.symm).2) rfl)) | (show some (Addr.add _ _).block ≠ _; rw [add_block]; exact (fun e_ => ((HL436_0.out.1 _ e_.symm).2) rfl)) | exact (fun e_ => ((HL436_0.out.1 _ e_.symm).2) rfl)) | have HS2_ := cell_grown hg (cell_unalloc (hHeld.2.2.1) (by first | (rw [add_block]; exact Kd.S_lt HO433.out _ rfl) | (show (Addr.add _ _).block < _; rw [add_block]; exact Kd.S_lt HO433.out _ rfl) | exact Kd.S_lt HO433.out _ rfl)) (by first | (rw [add_block]; exact (fun e_ => ((HL436_0.out.1 _ e_.symm).2) rfl)) | (show some (Addr.add _ _).block ≠ _; rw [add_block]; exact (fun e_ => ((HL436_0.out.1 _ e_.symm).2) rfl)) | exact (fun e_ => ((HL436_0.out.1 _ e_.symm).2) rfl)))
          (first | have HS3_ := cell_grown hg (hHeld.2.2.2.1) (by first | (rw [add_block]; exact (fun e_ => ((HL436_0.out.1 _ e_.symm).2) rfl)) | (show some (Addr.add _ _).block ≠ _; rw [add_block]; exact (fun e_ => ((HL436_0.out.1 _ e_.symm).2) rfl)) | exact (fun e_ => ((HL436_0.out.1 _ e_.symm).2) rfl)) | have HS3_ := cell_grown hg (cell_unalloc (hHeld.2.2.2.1) (by first | (rw [add_block]; exact Kd.S_lt HO433.out _ rfl) | (show (Addr.add _ _).block < _; rw [add_block]; exact Kd.S_lt HO433.out _ rfl) | exact Kd.S_lt HO433.out _ rfl)) (by first | (rw [add_block]; exact (fun e_ => ((HL436_0.out.1 _ e_.symm).2) rfl)) | (show some (Addr.add _ _).block ≠ _; rw [add_block]; exact (fun e_ => ((HL436_0.out.1 _ e_.symm).2) rfl)) | exact (fun e_ => ((HL436_0.out.1 _ e_.symm).2) rfl)))
          (first | have HS4_ := cell_grown hg (hHeld.2.2.2.2.1) (by first | (rw [add_block]; exact hT31_437.out) | (show some (Addr.add _ _).block ≠ _; rw [add_block]; exact hT31_437.out) | exact hT31_437.out) | have HS4_ := cell_grown hg (cell_unalloc (hHeld.2.2.2.2.1) (by first | (rw [add_block]; exact Kd.R_lt HL437_0.out _ rfl) | (show (Addr.add _ _).block < _; rw [add_block]; exact Kd.R_lt HL437_0.out _ rfl) | exact Kd.R_lt HL437_0.out _ rfl)) (by first | (rw [add_block]; exact hT31_437.out) | (show some (Addr.add _ _).block ≠ _; rw [add_block]; exact hT31_437.out) | exact hT31_437.out))
          (first | have HS5_ := cell_grown hg (hHeld.2.2.2.2.2) (by first | (rw [add_block]; exact hT31_437.out) | (show some (Addr.add _ _).block ≠ _; rw [add_block]; exact hT31_437.out) | exact hT31_437.out) | have HS5_ := cell_grown hg (cell_unalloc (hHeld.2.2.2.2.2) (by first | (rw [add_block]; exact Kd.R_lt HL437_0.out _ rfl) | (show (Addr.add _ _).block < _; rw [add_block]; exact Kd.R_lt HL437_0.out _ rfl) | exact Kd.R_lt HL437_0.out _ rfl)) (by first | (rw [add_block]; exact hT31_437.out) | (show some (Addr.add _ _).block ≠ _; rw [add_block]; exact hT31_437.out) | exact hT31_437.out))
          rw [← Ny439.out] at ho
          have n0_ := Aside0.mk (blk_grown (g := gb428) (o := .cells #[.int .i64 a0_0, .slice A0_1 l0_1.length c0_1] 24 (0, 0)) (by (with_reducible repeat (first | refine blk_drewN ?_ _ | refine blk_drew ?_ | refine blk_alloc ?_ _)); exact BK428.out) hg (Kd.R_ne HL436_0.out BK428.out (by decide)))
          have n1_ := Aside0.mk (blk_grown (g := gb429) (o := .cells #[.int .i64 0, .slice none 0 0] 24 (0, 0)) (by (with_reducible repeat (first | refine blk_drewN ?_ _ | refine blk_drew ?_ | refine blk_alloc ?_ _)); exact BK429.out) hg (Kd.R_ne HL436_0.out BK429.out (by decide)))
          have n2_ := Aside0.mk (blk_grown (g := gb434) (o := .cells #[.int .i64 t430, .slice (some ⟨go31, 0, none⟩) t431.length co27] 24 (0, 0)) (by (with_reducible repeat (first | refine blk_drewN ?_ _ | refine blk_drew ?_ | refine blk_alloc ?_ _)); exact BK434.out) hg (Kd.R_ne HL436_0.out BK434.out (by decide)))
          have n3_ := Aside0.mk (hb)
          have n4_ := Aside0.mk (Kd.H_grown (Kd.H_widen (by repeat (first | exact HH31.out | refine Kd.H_alloc ?_ _ | refine Kd.H_drewN ?_ _ | refine Kd.H_drew ?_))) hg (fun k_ e_ => .inl (UU31.out.1 k_ e_)))
          have n5_ := Aside0.mk (ho)
          clear BK428
          clear BK429
          clear BK434
          clear HB
          clear HH31
          clear HO433
          clear UU31
          clear HL435_0
          clear HL436_0
          clear HL437_0
          have BK428 := n0_
          have BK429 := n1_
          have BK434 := n2_
          have HB := n3_
          have HH31 := n4_
          have HO441 := n5_
          clear n0_ n1_ n2_ n3_ n4_ n5_
          clear ho hb hg hat
          have p14 : 0 ≤ (a2 : Int) := of_decide_eq_true (by first | (with_reducible assumption) | assumption)
          have q14 : (a2 : Int) < ((t431.length : Int) : Int) := of_decide_eq_true (by first | (with_reducible assumption) | assumption)
          replace p14 := eq_true p14
          replace q14 := eq_true q14
          obtain ⟨Ao35, co35, eo35⟩ := Kd.R_slice HO441.out
          (first | subst eo35 | (injection eo35 with f1_ f2_ f3_; have f4_ := f1_.symm; have f5_ := f3_.symm; clear f1_ f2_ f3_; subst f4_; subst f5_))
          obtain ⟨_, _, hraw33, _, _, hcc33, _⟩ := Kd.H_raw HH31.out (of_decide_eq_true (by first | (with_reducible assumption) | assumption)) (by have h_ : (a2 : Int) < ((t431.length : Int) : Int) := of_decide_eq_true (by first | (with_reducible assumption) | assumption); first | exact h_ | (have e_ := (HN31.out); omega) | simpa using h_)
          obtain ⟨_, hfr33⟩ := Kd.H_at HH31.out (of_decide_eq_true (by first | (with_reducible assumption) | assumption)) (by have h_ : (a2 : Int) < ((t431.length : Int) : Int) := of_decide_eq_true (by first | (with_reducible assumption) | assumption); first | exact h_ | (have e_ := (HN31.out); omega) | simpa using h_)
          have hx33_0 := hcc33 0 _ rfl
          have hf33_0 := hfr33 0
          (try simp only [Nat.add_zero] at hx33_0 hf33_0)
          (try rw [show ((Kd.slice 30 k30)).sz = 1 from rfl, Nat.mul_one] at hx33_0)
          (try rw [show ((Kd.slice 30 k30)).sz = 1 from rfl, Nat.mul_one] at hf33_0)
          have HP33 := Kd.S_seg0 HH31.out (of_decide_eq_true (by first | (with_reducible assumption) | assumption)) (by have h_ : (a2 : Int) < ((t431.length : Int) : Int) := of_decide_eq_true (by first | (with_reducible assumption) | assumption); first | exact h_ | (have e_ := (HN31.out); omega) | simpa using h_) (seg := [.slice Ao35 y439.length co35]) (j := 0) (show 1 ≤ 1 from by decide) (x' := y439) (Kd.M_row HO441.out) (fun _ hk => hk)
          (try simp only [show ((Kd.slice 30 k30)).sz = 1 from rfl, Nat.mul_one, Nat.add_zero] at HP33)
          clear hcc33 hfr33
          have HNB428_go31 := Aside0.mk (show gb428 ≠ go31 from by have h_ := Kd.R_ne hraw33 BK428.out (by decide); intro e_; exact h_ (by rw [e_]; rfl))
          have HNB429_go31 := Aside0.mk (show gb429 ≠ go31 from by have h_ := Kd.R_ne hraw33 BK429.out (by decide); intro e_; exact h_ (by rw [e_]; rfl))
          have HNB434_go31 := Aside0.mk (show gb434 ≠ go31 from by have h_ := Kd.R_ne hraw33 BK434.out (by decide); intro e_; exact h_ (by rw [e_]; rfl))
          have HS33 := HP33.1
          rw [← Ny442.out] at HS33
          have HQ33 := Aside0.mk HS33
          obtain ⟨_, hgg33⟩ := Kd.R_typed hraw33 go31 rfl
          have GG33_ := Aside0.mk hgg33
          clear HP33 HS33 hgg33
          refine hK.out _ _ ⟨(blk_cell BK434.out 0).trans rfl, (blk_cell BK434.out 1).trans rfl, HS2_, HS3_, HS4_, HS5_⟩ (fun hHeld => ?_)
          clear hK K
          refine norm_ (a' := ?_) ?_ ?_
          rotate_left
          ·show Act.put _ (some 35) _ = _
           simp only [Act.put, List.setIfInBounds_toArray, List.set_cons_zero, List.set_cons_succ, i64_w, i32_w]
           rfl
          refine pure_ (i := 18) (N := some 36) (v := ?_) (a' := ?_) #[true, true, true, true, true, true, true, true, true, true, true, true, true, true, true, true, true, true, true, false] rfl rfl (any_of HT_.out (by kernel_rfl)) (fun _ _ _ h => h) (Or.inl ⟨by rfl, ?_⟩) ?_ ?_
          rotate_left
          ·intro w'
           go_simp
           with_reducible rfl
          rotate_left
          ·simp only [Act.put, List.setIfInBounds_toArray, List.set_cons_zero, List.set_cons_succ, i64_w, i32_w]
           rfl
          refine last_ (i := 19) (N := none) #[true, true, true, true, true, true, true, true, true, true, true, true, true, true, true, true, true, true, true, true] rfl rfl (one_of HT_.out (by kernel_rfl)) (by decide) (fun K hK => ?_)
          refine skip_ (w1 := ?_) (by rfl) rfl ?_ ?_
          rotate_left
          ·go_simp
           rfl
          refine hK.out _ _ ?_
          clear hK K
          refine done_ (done_of HT_.out (by kernel_rfl)) ?_
          have n0_ : Aside0 (Kd.S (Kd.slice 30 k30) 28 (w32.setCell ⟨go31, (a2 : Int).toNat, none⟩ (.slice Ao35 y439.length co35)) w.heap.size (fun _ => True) (.slice (some ⟨go31, 0, none⟩) t431.length co27) y442) := ⟨by (with_reducible repeat (first | apply Kd.S_alloc | apply Kd.S_drewN | apply Kd.S_drew)); exact HQ33.out⟩
          have n1_ : Aside0 ((w32.setCell ⟨go31, (a2 : Int).toNat, none⟩ (.slice Ao35 y439.length co35)).heap[gb428]? = some (.cells #[.int .i64 a0_0, .slice A0_1 l0_1.length c0_1] 24 (0, 0))) := ⟨by (with_reducible repeat (first | refine blk_drewN ?_ _ | refine blk_drew ?_ | refine blk_alloc ?_ _)); refine blk_far ?_ HNB428_go31.out _; (with_reducible repeat (first | refine blk_drewN ?_ _ | refine blk_drew ?_ | refine blk_alloc ?_ _)); exact BK428.out⟩
          have n2_ : Aside0 ((w32.setCell ⟨go31, (a2 : Int).toNat, none⟩ (.slice Ao35 y439.length co35)).heap[gb429]? = some (.cells #[.int .i64 0, .slice none 0 0] 24 (0, 0))) := ⟨by (with_reducible repeat (first | refine blk_drewN ?_ _ | refine blk_drew ?_ | refine blk_alloc ?_ _)); refine blk_far ?_ HNB429_go31.out _; (with_reducible repeat (first | refine blk_drewN ?_ _ | refine blk_drew ?_ | refine blk_alloc ?_ _)); exact BK429.out⟩
          have n3_ : Aside0 ((w32.setCell ⟨go31, (a2 : Int).toNat, none⟩ (.slice Ao35 y439.length co35)).heap[gb434]? = some (.cells #[.int .i64 t430, .slice (some ⟨go31, 0, none⟩) t431.length co27] 24 (0, 0))) := ⟨by (with_reducible repeat (first | refine blk_drewN ?_ _ | refine blk_drew ?_ | refine blk_alloc ?_ _)); refine blk_far ?_ HNB434_go31.out _; (with_reducible repeat (first | refine blk_drewN ?_ _ | refine blk_drew ?_ | refine blk_alloc ?_ _)); exact BK434.out⟩
          have n4_ : Aside0 (Below w.heap.size w (w32.setCell ⟨go31, (a2 : Int).toNat, none⟩ (.slice Ao35 y439.length co35))) := ⟨by repeat (first | (with_reducible first | exact HB.out | apply below_alloc | apply pw_below_drewN | apply below_drew1 | refine below_set ?_ GB31.out | refine below_set ?_ GE428.out | refine below_set ?_ GE429.out | refine below_set ?_ GE434.out) | exact HB.out)⟩
          (try clear HO433)
          (try clear BK428)
          (try clear BK429)
          (try clear BK434)
          (try clear HB)
          generalize (w32.setCell ⟨go31, (a2 : Int).toNat, none⟩ (.slice Ao35 y439.length co35)) = w36 at n0_ n1_ n2_ n3_ n4_ ⊢
          have HO433 := n0_
          have BK428 := n1_
          have BK429 := n2_
          have BK434 := n3_
          have HB := n4_
          clear n0_ n1_ n2_ n3_ n4_
          try go_wp2
          have n0_ := Aside0.mk (Kd.S_drew HO433.out)
          have n1_ := Aside0.mk (blk_drew BK428.out)
          have n2_ := Aside0.mk (blk_drew BK429.out)
          have n3_ := Aside0.mk (blk_drew BK434.out)
          have n4_ := Aside0.mk (below_drew1 HB.out)
          clear HO433
          clear BK428
          clear BK429
          clear BK434
          clear HB
          have HO433 := n0_
          have BK428 := n1_
          have BK429 := n2_
          have BK434 := n3_
          have HB := n4_
          clear n0_ n1_ n2_ n3_ n4_
          have p443 : 0 ≤ (a1 : Int) := of_decide_eq_true (by first | (with_reducible assumption) | assumption)
          have q443 : a1 < (y442.length : Int) := (by have h_ : (a1 : Int) < ((t431.length : Int) : Int) := of_decide_eq_true (by first | (with_reducible assumption) | assumption); first | (have e_ := (Kd.S_reads' HO433.out).1; omega) | simpa only [Ny442.out, List.length_set] using h_)
          have ql443 : ((a1 : Int) < ((t431.length : Int) : Int)) = True := eq_true (of_decide_eq_true (by first | (with_reducible assumption) | assumption))
          obtain ⟨ad443, A443_0, c443_0, e443, hx443_0, hl443_0, hi443_0⟩ := at_L2 (Kd.S_reads' HO433.out).2.2 a1 p443 q443
          obtain rfl : (⟨go31, 0, none⟩ : Addr) = ad443 := (by injection e443)
          obtain ⟨ce443, hce443, hMe443, hcc443⟩ := Kd.S_get HO433.out [] a1 p443 (by first | exact q443 | exact of_decide_eq_true (by first | (with_reducible assumption) | assumption) | (have e_ := (Kd.S_reads' HO433.out).1; omega))
          obtain ⟨ve443_0, rfl, ge443_0⟩ := hMe443
          have hv443_0 := hcc443 0 _ rfl
          rw [Nat.add_zero, show ((Kd.slice 30 k30)).sz = 1 from rfl, Nat.mul_one] at hv443_0
          replace hv443_0 := Option.some.inj (hv443_0.symm.trans hx443_0)
          rw [hv443_0] at ge443_0
          have HL443_0 := Aside0.mk (show Kd.R k30 30 _ _ _ _ (rd_L2 y442 a1) from ge443_0)
          clear hv443_0 ge443_0
          have HX443_0 := Aside0.mk hx443_0
          clear hcc443 hce443
          (first | simp only [add_plain] at hx443_0 | simp only [add_at] at hx443_0 | simp only [Addr.add, Nat.zero_add] at hx443_0 | skip)
          have HR443_0 := Aside0.mk hi443_0
          have HC443_0 := Aside0.mk hl443_0
          clear hi443_0 hl443_0
          replace p443 := eq_true p443
          replace q443 := eq_true q443
          have q38 : ((ji9) : Int) ≤ (((rd_L2 y442 a1).length : Int) : Int) := of_decide_eq_true (by first | (with_reducible assumption) | assumption)
          obtain ⟨i038, hi038, _, hsz38, _⟩ := info_parts info30
          have hroom38 : (rd_L2 y442 a1).length ≤ c443_0 := HC443_0.out
          have hC38 : Kd.C k30 _ A443_0 (rd_L2 y442 a1).length (rd_L2 y442 a1) := (by repeat (first | (with_reducible exact HR443_0.out) | (with_reducible refine Kd.C_alloc ?_ _) | (with_reducible refine Kd.C_drewN ?_ _) | (with_reducible refine Kd.C_drew ?_) | exact HR443_0.out))
          have hcut38 := cut_to (P := Try.prog) 28 30 .i64 Try.underlying28 hi038 A443_0 (rd_L2 y442 a1).length c443_0 (ji9) (of_decide_eq_true (by first | (with_reducible assumption) | assumption)) q38 hroom38
          have hr38 := Kd.C_take (m := ((ji9) : Int).toNat) hC38 (by omega)
          have hy38 : y444.length = ((ji9) : Int).toNat := (by rw [Ny444.out, List.length_take]; omega)
          rw [← Ny444.out] at hr38
          rw [← hy38] at hcut38
          have HR447 := Aside0.mk hr38
          have HC447 := Aside0.mk (show y444.length ≤ c443_0 from by omega)
          clear hr38 hC38 hroom38 hi038 hsz38
          have KY38 := Aside0.mk hy38
          clear hy38
          replace q38 := eq_true q38
          have p17 : 0 ≤ (a1 : Int) := of_decide_eq_true (by first | (with_reducible assumption) | assumption)
          have q17 : (a1 : Int) < ((t431.length : Int) : Int) := of_decide_eq_true (by first | (with_reducible assumption) | assumption)
          obtain ⟨_, ce17, hcl17, hM17, hcc17, hfr17, _, _⟩ := Kd.S_elem HO433.out [] (a1 : Int) p17 q17
          obtain ⟨ve17_0, rfl, ge17_0⟩ := hM17
          have hx17_0 := hcc17 0 _ rfl
          have hf17_0 := hfr17 0
          (try simp only [show ((Kd.slice 30 k30)).sz = 1 from rfl, Nat.mul_one, Nat.add_zero] at hx17_0)
          (try simp only [show ((Kd.slice 30 k30)).sz = 1 from rfl, Nat.mul_one, Nat.add_zero] at hf17_0)
          clear hcl17 hcc17 hfr17; (try clear hM17)
          replace p17 := eq_true p17
          replace q17 := eq_true q17
          have HX39 := Aside0.mk (show Kd.S (Kd.slice 30 k30) 28 _ w.heap.size (fun k_ => ((fun _ => True)) k_ ∧ ¬ (fun _ => False) k_) (.slice (some ⟨go31, 0, none⟩) t431.length co27) y442 from (by exact Kd.S_mono HO433.out (fun k_ hk => ⟨trivial, fun e_ => e_⟩)))
          obtain ⟨oki39, ce39, hcl39, hM39, hcc39, hfr39, hoki39, hH39⟩ := Kd.S_elem HX39.out [] (a1 : Int) (of_decide_eq_true (by first | (with_reducible assumption) | assumption)) (by have h_ : (a1 : Int) < ((t431.length : Int) : Int) := of_decide_eq_true (by first | (with_reducible assumption) | assumption); first | exact h_ | (have e_ := (Kd.S_reads' HO433.out).1; omega) | simpa using h_)
          obtain ⟨ve39_0, rfl, ge39_0⟩ := hM39
          have hv39 := hcc39 0 _ rfl
          have hX39 := HX443_0.out
          (try simp only [add_plain] at hX39)
          (try simp only [Nat.add_zero] at hv39)
          (try rw [show ((Kd.slice 30 k30)).sz = 1 from rfl, Nat.mul_one] at hv39)
          replace hv39 := Option.some.inj (hv39.symm.trans hX39)
          subst hv39
          clear hX39
          have PC39_0 := Aside0.mk (show Kd.R k30 30 _ w.heap.size oki39 (.slice A443_0 y444.length c443_0) y444 from by rw [KY38.out, Ny444.out]; exact Kd.R_take ge39_0 (by have h_ := of_eq_true q38; omega))
          have HP39 := (Kd.S_seg hH39 (of_decide_eq_true (by first | (with_reducible assumption) | assumption)) (by have h_ : (a1 : Int) < ((t431.length : Int) : Int) := of_decide_eq_true (by first | (with_reducible assumption) | assumption); first | exact h_ | (have e_ := (Kd.S_reads' HO433.out).1; omega) | simpa using h_) (seg := [.slice A443_0 y444.length c443_0]) (j := 0) (show 1 ≤ 1 from by decide) (x' := y444) (Kd.M_row PC39_0.out) (fun _ hk => Or.inl hk) (fun _ hk => hk.elim)).1
          (try simp only [show ((Kd.slice 30 k30)).sz = 1 from rfl, Nat.mul_one, Nat.add_zero] at HP39)
          rw [← Ny448.out] at HP39
          have HQ39 := Aside0.mk HP39
          clear hcl39 hcc39 hfr39 HP39; (try clear hM39)
          refine start_ (n := 12) (S := fun w' => w'.cell? ⟨gb434, 0, none⟩ = some (.int .i64 t430) ∧ w'.cell? ⟨gb434, 1, none⟩ = some (.slice (some ⟨go31, 0, none⟩) t431.length co27) ∧ w'.cell? ⟨go31, (a1).toNat, none⟩ = some (.slice A443_0 (rd_L2 y442 a1).length c443_0)) (ds := [11]) #[false, false, false, false, false, false, false, false, false, false, false, false] (by kernel_rfl) rfl rfl ⟨(blk_cell BK434.out 0).trans rfl, (blk_cell BK434.out 1).trans rfl, hx443_0⟩ (fun hHeld => ?_); refine with_tabW spec_l06Hop.tab4 spec_l06Hop.bits4 (fun HT_ HW_ => ?_)
          generalize w36.drew = w37 at HO433 BK428 BK429 BK434 HB HL443_0 HQ39 HR443_0 HR447 HX443_0 hf17_0 hx17_0 hx443_0 hHeld ⊢
          refine pure_ (i := 0) (N := some 37) (v := ?_) (a' := ?_) #[true, false, false, false, false, false, false, false, false, false, false, false] rfl rfl (any_of HT_.out (by kernel_rfl)) (fun _ _ _ h => h) (Or.inl ⟨by rfl, ?_⟩) ?_ ?_
          rotate_left
          ·intro w'
           go_simp
           with_reducible rfl
          rotate_left
          ·simp only [Act.put, List.setIfInBounds_toArray, List.set_cons_zero, List.set_cons_succ, i64_w, i32_w]
           rfl
          refine pure_ (i := 2) (N := some 39) (v := ?_) (a' := ?_) #[true, false, true, false, false, false, false, false, false, false, false, false] rfl rfl (any_of HT_.out (by kernel_rfl)) (fun _ _ _ h => h) (Or.inl ⟨by rfl, ?_⟩) ?_ ?_
          rotate_left
          ·intro w'
           go_simp
           with_reducible rfl
          rotate_left
          ·simp only [Act.put, List.setIfInBounds_toArray, List.set_cons_zero, List.set_cons_succ, i64_w, i32_w]
           rfl
          refine pure_ (i := 3) (N := some 40) (v := ?_) (a' := ?_) #[true, false, true, true, false, false, false, false, false, false, false, false] rfl rfl (any_of HT_.out (by kernel_rfl)) (fun _ _ _ h => h) (Or.inl ⟨by rfl, ?_⟩) ?_ ?_
          rotate_left
          ·intro w'
           go_simp
           with_reducible rfl
          rotate_left
          ·simp only [Act.put, List.setIfInBounds_toArray, List.set_cons_zero, List.set_cons_succ, i64_w, i32_w]
           rfl
          refine pure_ (i := 5) (N := some 42) (v := ?_) (a' := ?_) #[true, false, true, true, false, true, false, false, false, false, false, false] rfl rfl (any_of HT_.out (by kernel_rfl)) (fun _ _ _ h => h) (Or.inl ⟨by rfl, ?_⟩) ?_ ?_
          rotate_left
          ·intro w'
           go_simp
           with_reducible rfl
          rotate_left
          ·simp only [Act.put, List.setIfInBounds_toArray, List.set_cons_zero, List.set_cons_succ, i64_w, i32_w]
           rfl
          refine pure_ (i := 8) (N := some 45) (v := ?_) (a' := ?_) #[true, false, true, true, false, true, false, false, true, false, false, false] rfl rfl (any_of HT_.out (by kernel_rfl)) (fun _ _ _ h => h) (Or.inl ⟨by rfl, ?_⟩) ?_ ?_
          rotate_left
          ·intro w'
           go_simp
           with_reducible rfl
          rotate_left
          ·simp only [Act.put, List.setIfInBounds_toArray, List.set_cons_zero, List.set_cons_succ, i64_w, i32_w]
           rfl
          refine take_ (i := 1) (N := some 38) (v := ?_) (a' := ?_) #[true, true, true, true, false, true, false, false, true, false, false, false] rfl rfl (take_ofW HT_.out HW_.out (by kernel_rfl)) (fun _ _ _ h => h) (Or.inl ⟨by rfl, ?_⟩) hHeld ?_ ?_
          rotate_left
          ·rintro w' ⟨s0, s1, s2⟩
           go_simp
           with_reducible rfl
          rotate_left
          ·simp only [Act.put, List.setIfInBounds_toArray, List.set_cons_zero, List.set_cons_succ, i64_w, i32_w]
           rfl
          refine take_ (i := 4) (N := some 41) (v := ?_) (a' := ?_) #[true, true, true, true, true, true, false, false, true, false, false, false] rfl rfl (take_ofW HT_.out HW_.out (by kernel_rfl)) (fun _ _ _ h => h) (Or.inl ⟨by rfl, ?_⟩) hHeld ?_ ?_
          rotate_left
          ·rintro w' ⟨s0, s1, s2⟩
           go_simp
           with_reducible rfl
          rotate_left
          ·simp only [Act.put, List.setIfInBounds_toArray, List.set_cons_zero, List.set_cons_succ, i64_w, i32_w]
           rfl
          refine pure_ (i := 6) (N := some 43) (v := ?_) (a' := ?_) #[true, true, true, true, true, true, true, false, true, false, false, false] rfl rfl (any_of HT_.out (by kernel_rfl)) (fun _ _ _ h => h) (Or.inl ⟨by rfl, ?_⟩) ?_ ?_
          rotate_left
          ·intro w'
           go_simp
           with_reducible rfl
          rotate_left
          ·simp only [Act.put, List.setIfInBounds_toArray, List.set_cons_zero, List.set_cons_succ, i64_w, i32_w]
           rfl
          refine take_ (i := 7) (N := some 44) (v := ?_) (a' := ?_) #[true, true, true, true, true, true, true, true, true, false, false, false] rfl rfl (take_ofW HT_.out HW_.out (by kernel_rfl)) (fun _ _ _ h => h) (Or.inl ⟨by rfl, ?_⟩) hHeld ?_ ?_
          rotate_left
          ·rintro w' ⟨s0, s1, s2⟩
           go_simp
           with_reducible rfl
          rotate_left
          ·simp only [Act.put, List.setIfInBounds_toArray, List.set_cons_zero, List.set_cons_succ, i64_w, i32_w]
           rfl
          refine pure_ (i := 9) (N := some 46) (v := ?_) (a' := ?_) #[true, true, true, true, true, true, true, true, true, true, false, false] rfl rfl (any_of HT_.out (by kernel_rfl)) (fun _ _ _ h => h) (Or.inl ⟨by rfl, ?_⟩) ?_ ?_
          rotate_left
          ·intro w'
           go_simp
           with_reducible rfl
          rotate_left
          ·simp only [Act.put, List.setIfInBounds_toArray, List.set_cons_zero, List.set_cons_succ, i64_w, i32_w]
           rfl
          refine pure_ (i := 10) (N := some 47) (v := ?_) (a' := ?_) #[true, true, true, true, true, true, true, true, true, true, true, false] rfl rfl (any_of HT_.out (by kernel_rfl)) (fun _ _ _ h => h) (Or.inl ⟨by rfl, ?_⟩) ?_ ?_
          rotate_left
          ·intro w'
           go_simp
           with_reducible rfl
          rotate_left
          ·simp only [Act.put, List.setIfInBounds_toArray, List.set_cons_zero, List.set_cons_succ, i64_w, i32_w]
           rfl
          refine last_ (i := 11) (N := none) #[true, true, true, true, true, true, true, true, true, true, true, true] rfl rfl (one_of HT_.out (by kernel_rfl)) (by decide) (fun K hK => ?_)
          refine skip_ (w1 := ?_) (by rfl) rfl ?_ ?_
          rotate_left
          ·go_simp
           rfl
          refine hK.out _ _ ?_
          clear hK K
          refine done_ (done_of HT_.out (by kernel_rfl)) ?_
          have n0_ : Aside0 (Kd.S (Kd.slice 30 k30) 28 (w37.setCell ⟨go31, (a1 : Int).toNat, none⟩ (.slice A443_0 y444.length c443_0)) w.heap.size (fun _ => True) (.slice (some ⟨go31, 0, none⟩) t431.length co27) y448) := ⟨by (with_reducible repeat (first | apply Kd.S_alloc | apply Kd.S_drewN | apply Kd.S_drew)); exact HQ39.out⟩
          have n1_ : Aside0 ((w37.setCell ⟨go31, (a1 : Int).toNat, none⟩ (.slice A443_0 y444.length c443_0)).heap[gb428]? = some (.cells #[.int .i64 a0_0, .slice A0_1 l0_1.length c0_1] 24 (0, 0))) := ⟨by (with_reducible repeat (first | refine blk_drewN ?_ _ | refine blk_drew ?_ | refine blk_alloc ?_ _)); refine blk_far ?_ (by have h_ := Kd.S_ne HO433.out BK428.out (by decide); intro e_; exact h_ (by rw [e_]; rfl)) _; (with_reducible repeat (first | refine blk_drewN ?_ _ | refine blk_drew ?_ | refine blk_alloc ?_ _)); exact BK428.out⟩
          have n2_ : Aside0 ((w37.setCell ⟨go31, (a1 : Int).toNat, none⟩ (.slice A443_0 y444.length c443_0)).heap[gb429]? = some (.cells #[.int .i64 0, .slice none 0 0] 24 (0, 0))) := ⟨by (with_reducible repeat (first | refine blk_drewN ?_ _ | refine blk_drew ?_ | refine blk_alloc ?_ _)); refine blk_far ?_ (by have h_ := Kd.S_ne HO433.out BK429.out (by decide); intro e_; exact h_ (by rw [e_]; rfl)) _; (with_reducible repeat (first | refine blk_drewN ?_ _ | refine blk_drew ?_ | refine blk_alloc ?_ _)); exact BK429.out⟩
          have n3_ : Aside0 ((w37.setCell ⟨go31, (a1 : Int).toNat, none⟩ (.slice A443_0 y444.length c443_0)).heap[gb434]? = some (.cells #[.int .i64 t430, .slice (some ⟨go31, 0, none⟩) t431.length co27] 24 (0, 0))) := ⟨by (with_reducible repeat (first | refine blk_drewN ?_ _ | refine blk_drew ?_ | refine blk_alloc ?_ _)); refine blk_far ?_ (by have h_ := Kd.S_ne HO433.out BK434.out (by decide); intro e_; exact h_ (by rw [e_]; rfl)) _; (with_reducible repeat (first | refine blk_drewN ?_ _ | refine blk_drew ?_ | refine blk_alloc ?_ _)); exact BK434.out⟩
          have n4_ : Aside0 (Below w.heap.size w (w37.setCell ⟨go31, (a1 : Int).toNat, none⟩ (.slice A443_0 y444.length c443_0))) := ⟨by repeat (first | (with_reducible first | exact HB.out | apply below_alloc | apply pw_below_drewN | apply below_drew1 | refine below_set ?_ GB31.out | refine below_set ?_ GE428.out | refine below_set ?_ GE429.out | refine below_set ?_ GE434.out) | exact HB.out)⟩
          (try clear HO433)
          (try clear BK428)
          (try clear BK429)
          (try clear BK434)
          (try clear HB)
          generalize (w37.setCell ⟨go31, (a1 : Int).toNat, none⟩ (.slice A443_0 y444.length c443_0)) = w40 at n0_ n1_ n2_ n3_ n4_ ⊢
          have HO433 := n0_
          have BK428 := n1_
          have BK429 := n2_
          have BK434 := n3_
          have HB := n4_
          clear n0_ n1_ n2_ n3_ n4_
          have hcz41_0 : w40.cell? ⟨gb434, 0, none⟩ = some (.int .i64 t430) := (blk_cell BK434.out 0).trans rfl
          have hcz41_1 : w40.cell? ⟨gb434, 1, none⟩ = some (.slice (some ⟨go31, 0, none⟩) t431.length co27) := (blk_cell BK434.out 1).trans rfl
          have hfz41_0 := blk_frozen BK434.out 0
          have hfz41_1 := blk_frozen BK434.out 1
          have hcz42_0 : w40.cell? ⟨gb429, 0, none⟩ = some (.int .i64 0) := (blk_cell BK429.out 0).trans rfl
          have hcz42_1 : w40.cell? ⟨gb429, 1, none⟩ = some (.slice none 0 0) := (blk_cell BK429.out 1).trans rfl
          have hfz42_0 := blk_frozen BK429.out 0
          have hfz42_1 := blk_frozen BK429.out 1
          try go_wp2
          refine bodyPost_ret (results_cell_row rfl _ _ gb429 24 #[.int .i64 t430, .slice (some ⟨go31, 0, none⟩) t431.length co27] (0, 0) _ rfl (by (with_reducible repeat (first | refine blk_drewN ?_ _ | refine blk_drew ?_ | refine blk_alloc ?_ _)); refine blk_put (cs := #[.int .i64 t430, .slice none 0 0]) ?_ 1 _ rfl; (with_reducible repeat (first | refine blk_drewN ?_ _ | refine blk_drew ?_ | refine blk_alloc ?_ _)); refine blk_put (cs := #[.int .i64 0, .slice none 0 0]) ?_ 0 _ rfl; (with_reducible repeat (first | refine blk_drewN ?_ _ | refine blk_drew ?_ | refine blk_alloc ?_ _)); exact BK429.out) Try.underlying24 rfl (by kernel_rfl)) rfl ?_
          exact ⟨_, by first | rfl | (simp [errW_none, errW_some] <;> rfl) | (simp only [← hji9]; first | rfl | (simp [errW_none, errW_some] <;> rfl)) | (simp [*, errW_none, errW_some] <;> rfl), by (with_reducible repeat (first | apply Kd.S_alloc | apply Kd.S_drewN | apply Kd.S_drew)); exact Kd.S_mono (Kd.S_far (p := ⟨gb429, 1, none⟩) (Kd.S_far (p := ⟨gb429, 0, none⟩) (Kd.S_types HO433.out BK429.out (by decide)) (fun _ hk => hk.2) (.int .i64 t430)) (fun _ hk => hk.2) (.slice (some ⟨go31, 0, none⟩) t431.length co27)) (fun _ hk => trivial), by repeat (first | (with_reducible first | exact HB.out | apply below_alloc | apply pw_below_drewN | apply below_drew1 | refine below_set ?_ GE428.out | refine below_set ?_ GE429.out | refine below_set ?_ GE434.out) | exact HB.out)⟩
         ·rw [if_neg c16] at H
          exact absurd H (by simp)
        ·rw [if_neg c13] at H
         exact absurd H (by simp)
      ·rw [if_neg c11] at H
       exact absurd H (by simp)
     ·rw [if_neg c10] at H
      exact absurd H (by simp)
    ·rw [if_neg c8] at H
     exact absurd H (by simp)
   ·rw [if_neg c7] at H
    exact absurd H (by simp)
  ·rw [if_neg c6] at H
   exact absurd H (by simp)
 ·rw [if_neg c5] at H
  exact absurd H (by simp)

end Go.Proofs.Ytheckjlldkkceaa.Px
