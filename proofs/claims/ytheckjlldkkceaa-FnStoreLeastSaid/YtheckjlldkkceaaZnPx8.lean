import Derived.Test.YtheckjlldkkceaaZnPx0
namespace Go.Proofs.Ytheckjlldkkceaa.Px
open Go.RowKit Go.Proofs.YtheckjlldkkceaaW.PrintWords Go.Proofs.YtheckjlldkkceaaW.PrintLast Go.Proofs.YtheckjlldkkceaaW.PrintMore
attribute [local go_sem] max2_int min2_int max_two min_two max_three min_three max_four min_four   
set_option linter.unusedVariables false
set_option linter.unusedSimpArgs false
def spec_l06Copy.l0 : Nat → List (List (S30)) → Int → Int → List (List (S30)) → Option (Int × (List (List (S30))))
 | 0, _, _, _, _ => none
 | k + 1, x3, x4, x410000, x410001 => if x4 < (x410001.length : Int) then ((some (([] : List (S30)) : List (S30))).bind fun y414 => (if 0 ≤ x4 then (if y414.length + (rd_L2 x410001 x4).length < 8796093022208 then (if x3.length < 5864062014805 then (spec_l06Copy.l0 k (x3 ++ [(y414 ++ (rd_L2 x410001 x4))]) (wrap64 (x4 + 1)) x410000 x410001) else (none)) else (none)) else (none))) else (some (x410000, x3))
def spec_l06Copy.f (k : Nat) (a0_0 : Int) (l0_1 : List (List (S30))) : Option (Int × (List (List (S30)))) := spec_l06Copy.l0 k (([] : List (List (S30)))) 0 a0_0 l0_1
set_option maxHeartbeats 8000000 in
set_option maxRecDepth 100000 in
theorem spec_l06Copy.calls (k : Nat) (a0_0 : Int) (am : Option Addr) (ai : Nat) (ac : List (List (S30))) (r1 : Int) (r2 : List (List (S30))) (w : World) (aI : Kd.C (Kd.slice 30 k30) w am ac.length ac) (hc0_1 : ac.length ≤ ai) (h : spec_l06Copy.f k a0_0 ac = some (r1, r2)) :
  Calls Try.prog 69 #[.agg #[.int .i64 a0_0, .slice am ac.length ai]] w fun e w' => ∃ v1_ : Value, e = .returned (.agg #[.int .i64 r1, v1_]) ∧ Kd.S (Kd.slice 30 k30) 28 w' w.heap.size (fun _ => True) v1_ r2 ∧ Below w.heap.size w w' := by
 have hu24 := Try.underlying24; have aU := zK aI; have HC0_1 := zK hc0_1; clear aI hc0_1
 have HB := zK (Below.refl w.heap.size w)
 have H : (spec_l06Copy.l0 k (([] : List (List (S30)))) 0 a0_0 ac) = some (r1, r2) := h
 clear h
 obtain ⟨aV, ap⟩ : ∃ y_ : List (List (S30)), y_ = (([] : List (List (S30)))) := ⟨_, rfl⟩
 replace H : (spec_l06Copy.l0 k aV 0 a0_0 ac) = some (r1, r2) := by first | (rw [ap]; with_reducible exact H) | (have H2_ := (Option.bind_some _ _).symm.trans H; rw [ap]; with_reducible exact H2_) | (have H2_ := (Option.bind_some _ _).symm.trans H; with_reducible exact H2_) | with_reducible exact H | (rw [ap]; exact H) | exact H
 have Ny411 := zK ap; clear ap; have H' := zK H; clear H
 go_enter Try.func69, Try.ntmps69
 go_wp2_with (first | ((with_reducible refine gate_dst (N := 1) rfl ?_); refine box_event ?hg (N := 1) ?hd (cs := #[.int .i64 a0_0, .slice am ac.length ai]) (t := 24) ?hr ?_; (case hd => rfl); (case hg => rfl); (case hr => first | (go_simp; done) | (go_simp; rfl)); intro ad hg w2 hbox hb; have aq := zK (below_step (zb HB) hb); have ar := zK (hbox); have au := zK ((by rw [hg]; exact (below_size (zb HB)) : w.heap.size ≤ ad)); have av := zK ((by rw [hg]; exact (below_size (zb HB)) : w.heap.size ≤ ad)); clear HB; have HB := aq; have aa := ar; have GW409 := au; have ae := av; clear aq ar au av; clear hb hbox hg) | ((with_reducible refine gate_dst (N := 2) rfl ?_); refine box_event ?hg (N := 2) ?hd (cs := #[.int .i64 0, .slice none 0 0]) (t := 24) ?hr ?_; (case hd => rfl); (case hg => rfl); (case hr => first | (go_simp; done) | (go_simp; rfl)); intro af hg w3 hbox hb; have aq := zK (blk_below (g := ad) (o := .cells #[.int .i64 a0_0, .slice am ac.length ai] 24 (0, 0)) (zk aa) hb); have ar := zK (below_step (zb HB) hb); have au := zK (hbox); have av := zK ((by rw [hg]; exact (below_size (zb HB)) : w.heap.size ≤ af)); have aJ := zK ((by rw [hg]; exact (below_size (zb HB)) : w.heap.size ≤ af)); have n5_ := zK ((by rw [hg]; exact Nat.ne_of_lt (blk_lt (g := ad) (o := .cells #[.int .i64 a0_0, .slice am ac.length ai] 24 (0, 0)) (zk aa)) : ad ≠ af)); have n6_ := zK ((by rw [hg]; exact Nat.ne_of_gt (blk_lt (g := ad) (o := .cells #[.int .i64 a0_0, .slice am ac.length ai] 24 (0, 0)) (zk aa)) : af ≠ ad)); clear aa; clear HB; have aa := aq; have HB := ar; have ab := au; have GW410 := av; have ah := aJ; have an := n5_; have ak := n6_; clear aq ar au av aJ n5_ n6_; clear hb hbox hg) | ((with_reducible refine gate_dst (N := 5) rfl ?_); refine Kd.S_lit (Kd.slice 30 k30) _ 28 ?hg (N := 5) ?hd (xs := ([] : List (List (S30)))) (inner := []) (ok := fun _ => True) (okp := fun _ => True) ?hr ?hp (fun _ hk => hk) trivial (Below.refl _ _) (Nat.le_refl _) (by simp) ?_; (case hd => rfl); (case hg => rfl); (case hr => first | (go_simp; done) | (go_simp; rfl)); (case hp => exact (Reps.none _ _)); intro v412 w4 ho5 hb hg_ hnew_; clear hg_ hnew_; (first | rw [← Ny411.out] at ho5 | (simp only [Int.reduceToNat] at ho5; rw [← Ny411.out] at ho5)); have aq := zK (Kd.S_lower ho5 (below_size (zb HB))); have ar := zK (blk_below (g := ad) (o := .cells #[.int .i64 a0_0, .slice am ac.length ai] 24 (0, 0)) (zk aa) hb); have au := zK (blk_below (g := af) (o := .cells #[.int .i64 0, .slice none 0 0] 24 (0, 0)) (zk ab) hb); have av := zK (below_step (zb HB) hb); clear aa; clear ab; clear HB; have aW := aq; have aa := ar; have ab := au; have HB := av; clear aq ar au av; clear hb ho5))
 go_loopg [3, 4] k (fun kq v3 v4 w' => ∃ (al : List (List (S30))) (ag : Int), v4 = .int .i64 ag ∧ Aside0 (spec_l06Copy.l0 kq al ag a0_0 ac = some (r1, r2)) ∧ Aside0 (kq ≤ k) ∧ Aside0 (Kd.S (Kd.slice 30 k30) 28 w' w.heap.size (fun _ => True) v3 al) ∧ Aside0 (w'.heap[ad]? = some (.cells #[.int .i64 a0_0, (.slice am ac.length ai)] 24 (0, 0))) ∧ Aside0 (w'.heap[af]? = some (.cells #[.int .i64 0, (.slice none 0 0)] 24 (0, 0))) ∧ Aside0 (Below w.heap.size w w'))
 case atStart => exact ⟨(aV), (0), (by first | rfl | (simp; done) | (simp [*]; done)), H', ⟨Nat.le_refl _⟩, ⟨zT aW⟩, ⟨zk aa⟩, ⟨zk ab⟩, ⟨zb HB⟩⟩
 case round =>
  clear H'
  try clear p2
  obtain ⟨al, ag, rfl, HA, HK1, aj, aa, ab, HB⟩ := hrel
  cases gk with
  | zero => exact absurd HA.out (by simp [spec_l06Copy.l0])
  | succ k1 =>
   have H := HA.out; clear HA
   simp only [spec_l06Copy.l0] at H
   by_cases c6 : ag < (ac.length : Int)
   ·rw [if_pos c6] at H
    have c6b0 : decide (ag < (ac.length : Int)) = true := decide_eq_true c6
    clear c6
    obtain ⟨aE, aw⟩ : ∃ y_ : List (S30), y_ = (([] : List (S30))) := ⟨_, rfl⟩
    replace H : (if 0 ≤ ag then (if aE.length + (rd_L2 ac ag).length < 8796093022208 then (if al.length < 5864062014805 then (spec_l06Copy.l0 k1 (al ++ [(aE ++ (rd_L2 ac ag))]) (wrap64 (ag + 1)) a0_0 ac) else (none)) else (none)) else (none)) = some (r1, r2) := by first | (rw [aw]; with_reducible exact H) | (have H2_ := (Option.bind_some _ _).symm.trans H; rw [aw]; with_reducible exact H2_) | (have H2_ := (Option.bind_some _ _).symm.trans H; with_reducible exact H2_) | with_reducible exact H | (rw [aw]; exact H) | exact H
    have Ny414 := zK aw; clear aw
    by_cases c7 : 0 ≤ ag
    ·rw [if_pos c7] at H
     have c7b0 : decide (0 ≤ ag) = true := decide_eq_true c7
     clear c7
     by_cases c8 : aE.length + (rd_L2 ac ag).length < 8796093022208
     ·rw [if_pos c8] at H
      have LMc8 := zK c8; clear c8
      obtain ⟨aG, ax⟩ : ∃ y_ : List (S30), y_ = (aE ++ (rd_L2 ac ag)) := ⟨_, rfl⟩
      replace H : (if al.length < 5864062014805 then (spec_l06Copy.l0 k1 (al ++ [aG]) (wrap64 (ag + 1)) a0_0 ac) else (none)) = some (r1, r2) := by first | (rw [ax]; with_reducible exact H) | (have H2_ := (Option.bind_some _ _).symm.trans H; rw [ax]; with_reducible exact H2_) | (have H2_ := (Option.bind_some _ _).symm.trans H; with_reducible exact H2_) | with_reducible exact H | (rw [ax]; exact H) | exact H
      have Ny418 := zK ax; clear ax
      by_cases c9 : al.length < 5864062014805
      ·rw [if_pos c9] at H
       have LMc9 := zK c9; clear c9
       obtain ⟨aX, ay⟩ : ∃ y_ : List (List (S30)), y_ = (al ++ [aG]) := ⟨_, rfl⟩
       replace H : (spec_l06Copy.l0 k1 aX (wrap64 (ag + 1)) a0_0 ac) = some (r1, r2) := by first | (rw [ay]; with_reducible exact H) | (have H2_ := (Option.bind_some _ _).symm.trans H; rw [ay]; with_reducible exact H2_) | (have H2_ := (Option.bind_some _ _).symm.trans H; with_reducible exact H2_) | with_reducible exact H | (rw [ay]; exact H) | exact H
       have Ny421 := zK ay; clear ay; have H' := zK H; clear H; have hnb10 := an.out; have hnc10 := ak.out
       have hcz11_0 : wr.cell? ⟨ad, 0, none⟩ = some (.int .i64 a0_0) := (blk_cell aa.out 0).trans rfl
       have hcz11_1 : wr.cell? ⟨ad, 1, none⟩ = some (.slice am ac.length ai) := (blk_cell aa.out 1).trans rfl
       have hfz11_0 := blk_frozen aa.out 0; have hfz11_1 := blk_frozen aa.out 1
       go_wp2_with (first | ((with_reducible refine gate_dst (N := 14) rfl ?_); refine Kd.R_lit k30 _ 30 ?hg (N := 14) ?hd (xs := ([] : List (S30))) (inner := []) (ok := fun _ => True) (okp := fun _ => True) ?hr ?hp (fun _ hk => hk) trivial (Below.refl _ _) (Nat.le_refl _) (by simp) ?_; (case hd => rfl); (case hg => rfl); (case hr => first | (go_simp; done) | (go_simp; rfl)); (case hp => exact (Reps.none _ _)); intro v415 w12 ho13 hb hg_ hnew_; clear hg_ hnew_; (first | rw [← Ny414.out] at ho13 | (simp only [Int.reduceToNat] at ho13; rw [← Ny414.out] at ho13)); have aq := zK (Kd.S_elder' (zT aj) (Kd.R_base ho13) hb); have ar := zK (Kd.R_lower ho13 (below_size (zb HB))); have au := zK (blk_below (g := ad) (o := .cells #[.int .i64 a0_0, .slice am ac.length ai] 24 (0, 0)) (zk aa) hb); have av := zK (blk_below (g := af) (o := .cells #[.int .i64 0, .slice none 0 0] 24 (0, 0)) (zk ab) hb); have aJ := zK (below_step (zb HB) hb); clear aj; clear aa; clear ab; clear HB; have aj := aq; have az := ar; have aa := au; have ab := av; have HB := aJ; clear aq ar au av aJ; clear hb ho13; have hcz14_0 : w12.cell? ⟨ad, 0, none⟩ = some (.int .i64 a0_0) := (blk_cell aa.out 0).trans rfl; have hcz14_1 : w12.cell? ⟨ad, 1, none⟩ = some (.slice am ac.length ai) := (blk_cell aa.out 1).trans rfl; have hfz14_0 := blk_frozen aa.out 0; have hfz14_1 := blk_frozen aa.out 1; have aM : 0 ≤ (ag : Int) := zd; have aN : ag < (ac.length : Int) := zd; obtain ⟨aK, A417_0, c417_0, e417, ao, aA, aC⟩ := at_L2 aU.out ag aM aN; cases e417; replace ao := (HB.out.cell (World.block_lt_of_cell? w _ ao)).trans ao; have aH := zK aC; have HC417_0 := zK aA; clear aC aA; replace aM := eq_true aM; replace aN := eq_true aN) | ((with_reducible refine gate_builtin (b := .append) (xs := #[.tmp 14, .tmp 19]) rfl ?_); at_builtin; refine Kd.R_append_rows k30 (w0 := w) w.heap.size rfl (.tmp 14) (.tmp 19) 28 30 (.agg #[(.int .i64 0), (.int .i64 0)]) 16 rfl Try.underlying28 info30 rfl (by decide) (by omega) v415 aE (rd_L2 ac ag) _ _ _ (fun _ => True) (fun _ => False) rfl rfl ?aO ?aR (fun _ _ h => h) (fun _ h => h.elim) ?aF ?aB ?aS ?aL ?_; (case aR => repeat (first | exact (Kd.C_below aH.out HB.out) | (with_reducible refine Kd.C_alloc ?_ _) | (with_reducible refine Kd.C_drewN ?_ _) | (with_reducible refine Kd.C_drew ?_))); (case aB => exact (zb HB)); (case aF => exact (fun _ _ => trivial)); (case aO => exact (zR az)); (case aS => exact (below_size (zb HB))); (case aL => have := LMc8.out; omega); intro v419 w15 ho hb hg hat; rw [← Ny418.out] at ho; have aq := zK (Kd.S_after (ok := (fun _ => True)) (zT aj) hg hat); have ar := zK (blk_grown (g := ad) (o := .cells #[.int .i64 a0_0, .slice (some aK) ac.length ai] 24 (0, 0)) (zk aa) hg (Kd.R_ne az.out aa.out (by decide))); have au := zK (blk_grown (g := af) (o := .cells #[.int .i64 0, .slice none 0 0] 24 (0, 0)) (zk ab) hg (Kd.R_ne az.out ab.out (by decide))); have av := zK (hb); have aJ := zK (ho); clear aj; clear aa; clear ab; clear HB; clear az; have aj := aq; have aa := ar; have ab := au; have HB := av; have aD := aJ; clear aq ar au av aJ; clear ho hb hg hat; obtain ⟨aY, aZ, eo17⟩ := Kd.R_slice aD.out; subst eo17) | ((with_reducible refine gate_builtin (b := .append) (xs := #[.tmp 13, .tmp 21]) rfl ?_); at_builtin; refine Kd.S_append (Kd.slice 30 k30) (w0 := w) w.heap.size rfl (.tmp 13) (.tmp 21) 22 28 (.slice none 0 0) 24 rfl Try.underlying22 info28 rfl (by decide) (by omega) u3 al aG [.slice aY aG.length aZ] (fun _ => True) (fun k_ => some k_ = (.slice aY aG.length aZ : Value).ownBlock) rfl rfl ?aP (fun k_ hk_ => ((Kd.R_mono (ok' := fun k_ => ((fun _ => True)) k_ ∧ some k_ ≠ (u3 : Value).ownBlock) (Kd.R_apart' (aD.out) (Kd.S_typed aj.out) (by decide)) (fun k_ hk => ⟨trivial, hk.2⟩))).1 k_ hk_.symm) ?aF ?aO ?aB ?aS ?aL ?_; (case aP => exact Kd.M_row (Kd.R_mono (Kd.R_tight rfl (Kd.R_mono (ok' := fun k_ => ((fun _ => True)) k_ ∧ some k_ ≠ (u3 : Value).ownBlock) (Kd.R_apart' (aD.out) (Kd.S_typed aj.out) (by decide)) (fun k_ hk => ⟨trivial, hk.2⟩))) (fun _ h_ => h_))); (case aB => exact (zb HB)); (case aF => exact (fun _ _ => trivial)); (case aO => exact (by (with_reducible repeat (first | apply Kd.S_alloc | apply Kd.S_drewN | apply Kd.S_drew)); exact Kd.S_mono aj.out (fun k_ hk => ⟨trivial, fun e_ => hk.2 e_⟩))); (case aS => exact (below_size (zb HB))); (case aL => have := LMc9.out; omega); intro v422 w16 ho hb hg hat; rw [← Ny421.out] at ho; have aq := zK (blk_grown (g := ad) (o := .cells #[.int .i64 a0_0, .slice (some aK) ac.length ai] 24 (0, 0)) (zk aa) hg (Kd.S_ne aj.out aa.out (by decide))); have ar := zK (blk_grown (g := af) (o := .cells #[.int .i64 0, .slice none 0 0] 24 (0, 0)) (zk ab) hg (Kd.S_ne aj.out ab.out (by decide))); have au := zK (hb); have av := zK (ho); clear aa; clear ab; clear HB; clear aj; clear aD; have aa := aq; have ab := ar; have HB := au; have a0 := av; clear aq ar au av; clear ho hb hg hat))
       go_roundg k1
       case measure => have := HK1.out; omega
       case rel => exact ⟨(aX), (wrap64 (ag + 1)), (by first | rfl | (simp; done) | (simp [*]; done)), H', ⟨by have := HK1.out; omega⟩, ⟨zT a0⟩, ⟨zk aa⟩, ⟨zk ab⟩, ⟨zb HB⟩⟩
      ·rw [if_neg c9] at H
       exact absurd H (by simp)
     ·rw [if_neg c8] at H
      exact absurd H (by simp)
    ·rw [if_neg c7] at H
     exact absurd H (by simp)
   ·rw [if_neg c6] at H
    have c6b0 : decide (ag < (ac.length : Int)) = false := decide_eq_false c6
    clear c6
    simp only [Option.some.injEq, Prod.mk.injEq] at H
    obtain ⟨rfl, rfl⟩ := H
    have hnb18 := an.out; have hnc18 := ak.out
    have hcz19_0 : wr.cell? ⟨ad, 0, none⟩ = some (.int .i64 a0_0) := (blk_cell aa.out 0).trans rfl
    have hcz19_1 : wr.cell? ⟨ad, 1, none⟩ = some (.slice am ac.length ai) := (blk_cell aa.out 1).trans rfl
    have hfz19_0 := blk_frozen aa.out 0; have hfz19_1 := blk_frozen aa.out 1
    obtain ⟨aQ, aT, eo20⟩ := Kd.S_slice aj.out
    subst eo20
    have hcz21_0 : wr.cell? ⟨af, 0, none⟩ = some (.int .i64 0) := (blk_cell ab.out 0).trans rfl
    have hcz21_1 : wr.cell? ⟨af, 1, none⟩ = some (.slice none 0 0) := (blk_cell ab.out 1).trans rfl
    have hfz21_0 := blk_frozen ab.out 0; have hfz21_1 := blk_frozen ab.out 1
    go_wp2
    refine bodyPost_ret (results_cell_row rfl _ _ af 24 #[.int .i64 a0_0, .slice aQ al.length aT] (0, 0) _ rfl (by (with_reducible repeat (first | refine zN ?_ _ | refine zD ?_ | refine zA ?_ _)); refine blk_put (cs := #[.int .i64 a0_0, .slice none 0 0]) ?_ 1 _ rfl; (with_reducible repeat (first | refine zN ?_ _ | refine zD ?_ | refine zA ?_ _)); refine blk_put (cs := #[.int .i64 0, .slice none 0 0]) ?_ 0 _ rfl; (with_reducible repeat (first | refine zN ?_ _ | refine zD ?_ | refine zA ?_ _)); refine blk_far ?_ ak.out _; (with_reducible repeat (first | refine zN ?_ _ | refine zD ?_ | refine zA ?_ _)); exact ab.out) Try.underlying24 rfl (by kernel_rfl)) rfl ?_
    exact ⟨_, by first | rfl | (simp [errW_none, errW_some] <;> rfl) | (simp [*, errW_none, errW_some] <;> rfl), by (with_reducible repeat (first | apply Kd.S_alloc | apply Kd.S_drewN | apply Kd.S_drew)); exact Kd.S_mono (Kd.S_far (p := ⟨af, 1, none⟩) (Kd.S_far (p := ⟨af, 0, none⟩) (Kd.S_far (p := ⟨ad, 1, none⟩) (Kd.S_types (Kd.S_types aj.out aa.out (by decide)) ab.out (by decide)) (fun _ hk => hk.1.2) (.slice aQ al.length aT)) (fun _ hk => hk.2) (.int .i64 a0_0)) (fun _ hk => hk.2) (.slice aQ al.length aT)) (fun _ hk => trivial), by repeat (first | (with_reducible first | exact HB.out | apply zB | apply zC | apply zE | refine zS ?_ ae.out | refine zS ?_ ah.out) | exact HB.out)⟩
mutual
def spec_l06Find.l0 : Nat → Int → Int → Int → List (List (S30)) → Option (Int)
 | 0, _, _, _, _ => none
 | k + 1, x1, x5, x425000, x425001 => if x5 < (x425001.length : Int) then (spec_l06Find.l1 k x1 x5 0 x425000 x425001) else (some (-1))
def spec_l06Find.l1 : Nat → Int → Int → Int → Int → List (List (S30)) → Option (Int)
 | 0, _, _, _, _, _ => none
 | k + 1, x1, x5, x6, x425000, x425001 => if 0 ≤ x5 then (if x5 < (x425001.length : Int) then (if x6 < ((rd_L2 x425001 x5).length : Int) then (if 0 ≤ x6 then (if ((rd_T30 (rd_L2 x425001 x5) x6).f0) = x1 then (some x5) else (spec_l06Find.l1 k x1 x5 (wrap64 (x6 + 1)) x425000 x425001)) else (none)) else (spec_l06Find.l0 k x1 (wrap64 (x5 + 1)) x425000 x425001)) else (none)) else (none)
end
def spec_l06Find.f (k : Nat) (a0_0 : Int) (l0_1 : List (List (S30))) (a1 : Int) : Option (Int) := spec_l06Find.l0 k a1 0 a0_0 l0_1
set_option maxHeartbeats 8000000 in
set_option maxRecDepth 100000 in
theorem spec_l06Find.calls (k : Nat) (a0_0 : Int) (ap : Option Addr) (aq : Nat) (ac : List (List (S30))) (a1 : Int) (r : Int) (w : World) (aI : Kd.C (Kd.slice 30 k30) w ap ac.length ac) (hc0_1 : ac.length ≤ aq) (h : spec_l06Find.f k a0_0 ac a1 = some r) :
  Calls Try.prog 70 #[.agg #[.int .i64 a0_0, .slice ap ac.length aq], .int .i64 a1] w fun e w' => e = .returned (.int .i64 r) ∧ Below w.heap.size w w' := by
 have hu24 := Try.underlying24; have av := zK aI; have HC0_1 := zK hc0_1; clear aI hc0_1
 have HB := zK (Below.refl w.heap.size w)
 have H : (spec_l06Find.l0 k a1 0 a0_0 ac) = some r := h
 clear h; have H' := zK H; clear H
 go_enter Try.func70, Try.ntmps70
 go_wp2_with (first | ((with_reducible refine gate_dst (N := 2) rfl ?_); refine box_event ?hg (N := 2) ?hd (cs := #[.int .i64 a0_0, .slice ap ac.length aq]) (t := 24) ?hr ?_; (case hd => rfl); (case hg => rfl); (case hr => first | (go_simp; done) | (go_simp; rfl)); intro af hg w3 hbox hb; have n0_ := zK (below_step (zb HB) hb); have n1_ := zK (hbox); have n2_ := zK ((by rw [hg]; exact (below_size (zb HB)) : w.heap.size ≤ af)); have n3_ := zK ((by rw [hg]; exact (below_size (zb HB)) : w.heap.size ≤ af)); clear HB; have HB := n0_; have aa := n1_; have GW424 := n2_; have ar := n3_; clear n0_ n1_ n2_ n3_; clear hb hbox hg))
 go_loopg [5] k (fun kq v5 w' => ∃ (ab : Int), v5 = .int .i64 ab ∧ Aside0 (spec_l06Find.l0 kq a1 ab a0_0 ac = some r) ∧ Aside0 (kq ≤ k) ∧ Aside0 (w'.heap[af]? = some (.cells #[.int .i64 a0_0, (.slice ap ac.length aq)] 24 (0, 0))) ∧ Aside0 (Below w.heap.size w w'))
 case atStart => exact ⟨(0), (by first | rfl | (simp; done) | (simp [*]; done)), H', ⟨Nat.le_refl _⟩, ⟨zk aa⟩, ⟨zb HB⟩⟩
 case round =>
  clear H'
  try clear p2
  obtain ⟨ab, rfl, HA, HK1, aa, HB⟩ := hrel
  cases gk with
  | zero => exact absurd HA.out (by simp [spec_l06Find.l0])
  | succ k1 =>
   have H := HA.out; clear HA
   simp only [spec_l06Find.l0] at H
   by_cases c4 : ab < (ac.length : Int)
   ·rw [if_pos c4] at H
    have aR : decide (ab < (ac.length : Int)) = true := decide_eq_true c4
    clear c4; have H' := zK H; clear H
    have aJ : wr.cell? ⟨af, 0, none⟩ = some (.int .i64 a0_0) := (blk_cell aa.out 0).trans rfl
    have aK : wr.cell? ⟨af, 1, none⟩ = some (.slice ap ac.length aq) := (blk_cell aa.out 1).trans rfl
    have aL := blk_frozen aa.out 0; have aM := blk_frozen aa.out 1
    go_wp2
    go_loopg [6] k1 (fun kq v6 w' => ∃ (ai : Int), v6 = .int .i64 ai ∧ Aside0 (spec_l06Find.l1 kq a1 ab ai a0_0 ac = some r) ∧ Aside0 (kq ≤ k1) ∧ Aside0 (w'.heap[af]? = some (.cells #[.int .i64 a0_0, (.slice ap ac.length aq)] 24 (0, 0))) ∧ Aside0 (Below w.heap.size w w'))
    case atStart => exact ⟨(0), (by first | rfl | (simp; done) | (simp [*]; done)), H', ⟨Nat.le_refl _⟩, ⟨zk aa⟩, ⟨zb HB⟩⟩
    case round =>
     clear H'
     try clear p2
     try clear c4
     try clear aR
     try clear aJ
     try clear aK
     try clear aL
     try clear aM
     try clear p2
     obtain ⟨ai, rfl, HA, HK2, aa, HB⟩ := hrel
     cases gk with
     | zero => exact absurd HA.out (by simp [spec_l06Find.l1])
     | succ k2 =>
      have H := HA.out; clear HA
      simp only [spec_l06Find.l1] at H
      by_cases c6 : 0 ≤ ab
      ·rw [if_pos c6] at H
       have c6b0 : decide (0 ≤ ab) = true := decide_eq_true c6
       clear c6
       by_cases c7 : ab < (ac.length : Int)
       ·rw [if_pos c7] at H
        have c7b0 : decide (ab < (ac.length : Int)) = true := decide_eq_true c7
        clear c7
        by_cases c8 : ai < ((rd_L2 ac ab).length : Int)
        ·rw [if_pos c8] at H
         have c8b0 : decide (ai < ((rd_L2 ac ab).length : Int)) = true := decide_eq_true c8
         clear c8
         by_cases c9 : 0 ≤ ai
         ·rw [if_pos c9] at H
          have c9b0 : decide (0 ≤ ai) = true := decide_eq_true c9
          clear c9
          by_cases c10 : ((rd_T30 (rd_L2 ac ab) ai).f0) = a1
          ·rw [if_pos c10] at H
           have aS : (((rd_T30 (rd_L2 ac ab) ai).f0) == a1) = true := beq_iff_eq.mpr c10
           have aT : (((rd_T30 (rd_L2 ac ab) ai).f0) != a1) = false := bne_eq_false_iff_eq.mpr c10
           clear c10; obtain rfl := Option.some.inj H
           have hcz11_0 : wr.cell? ⟨af, 0, none⟩ = some (.int .i64 a0_0) := (blk_cell aa.out 0).trans rfl
           have hcz11_1 : wr.cell? ⟨af, 1, none⟩ = some (.slice ap ac.length aq) := (blk_cell aa.out 1).trans rfl
           have hfz11_0 := blk_frozen aa.out 0; have hfz11_1 := blk_frozen aa.out 1
           have an : 0 ≤ (ab : Int) := zd
           have ao : ab < (ac.length : Int) := zd
           obtain ⟨aA, aD, aE, aF, ad, ag, ah⟩ := at_L2 av.out ab an ao
           cases aF
           replace ad := (HB.out.cell (World.block_lt_of_cell? w _ ad)).trans ad
           have aB := zK ah; have aC := zK ag; clear ah ag; replace an := eq_true an; replace ao := eq_true ao
           have aw : 0 ≤ (ab : Int) := zd
           have ax : ab < (ac.length : Int) := zd
           obtain ⟨aG, aN, aO, aP, ae, al, am⟩ := at_L2 av.out ab aw ax
           obtain rfl : aA = aG := (by injection aP)
           replace ae := (HB.out.cell (World.block_lt_of_cell? w _ ae)).trans ae
           have au := zK am; have aH := zK al; clear am al; replace aw := eq_true aw; replace ax := eq_true ax
           have ea_ := Option.some.inj (ad.symm.trans ae)
           injection ea_ with ea_ en_ ec_
           subst ea_; subst ec_; clear en_
           have ay : 0 ≤ (ai : Int) := zd
           have az : ai < ((rd_L2 ac ab).length : Int) := zd
           obtain ⟨aU, aQ, aj, ak⟩ := at_T30 au.out ai ay az
           cases aQ
           replace aj := (HB.out.cell (World.block_lt_of_cell? w _ aj)).trans aj
           replace ak := (HB.out.cell (World.block_lt_of_cell? w _ ak)).trans ak
           replace ay := eq_true ay; replace az := eq_true az
           go_wp2
           go_ret
           exact ⟨by first | rfl | (simp [errW_none, errW_some] <;> rfl) | (simp [*, errW_none, errW_some] <;> rfl), by repeat (first | (with_reducible first | exact HB.out | apply zB | apply zC | apply zE | refine zS ?_ ar.out) | exact HB.out)⟩
          ·rw [if_neg c10] at H
           have aS : (((rd_T30 (rd_L2 ac ab) ai).f0) == a1) = false := beq_eq_false_iff_ne.mpr c10
           have aT : (((rd_T30 (rd_L2 ac ab) ai).f0) != a1) = true := bne_iff_ne.mpr c10
           have H' := zK H; clear H
           have hcz12_0 : wr.cell? ⟨af, 0, none⟩ = some (.int .i64 a0_0) := (blk_cell aa.out 0).trans rfl
           have hcz12_1 : wr.cell? ⟨af, 1, none⟩ = some (.slice ap ac.length aq) := (blk_cell aa.out 1).trans rfl
           have hfz12_0 := blk_frozen aa.out 0; have hfz12_1 := blk_frozen aa.out 1
           have an : 0 ≤ (ab : Int) := zd
           have ao : ab < (ac.length : Int) := zd
           obtain ⟨aA, aD, aE, aF, ad, ag, ah⟩ := at_L2 av.out ab an ao
           cases aF
           replace ad := (HB.out.cell (World.block_lt_of_cell? w _ ad)).trans ad
           have aB := zK ah; have aC := zK ag; clear ah ag; replace an := eq_true an; replace ao := eq_true ao
           have aw : 0 ≤ (ab : Int) := zd
           have ax : ab < (ac.length : Int) := zd
           obtain ⟨aG, aN, aO, aP, ae, al, am⟩ := at_L2 av.out ab aw ax
           obtain rfl : aA = aG := (by injection aP)
           replace ae := (HB.out.cell (World.block_lt_of_cell? w _ ae)).trans ae
           have au := zK am; have aH := zK al; clear am al; replace aw := eq_true aw; replace ax := eq_true ax
           have ea_ := Option.some.inj (ad.symm.trans ae)
           injection ea_ with ea_ en_ ec_
           subst ea_; subst ec_; clear en_
           have ay : 0 ≤ (ai : Int) := zd
           have az : ai < ((rd_L2 ac ab).length : Int) := zd
           obtain ⟨aU, aQ, aj, ak⟩ := at_T30 au.out ai ay az
           cases aQ
           replace aj := (HB.out.cell (World.block_lt_of_cell? w _ aj)).trans aj
           replace ak := (HB.out.cell (World.block_lt_of_cell? w _ ak)).trans ak
           replace ay := eq_true ay; replace az := eq_true az
           go_wp2
           go_roundg k2
           case measure => have := HK1.out; have := HK2.out; omega
           case rel => exact ⟨(wrap64 (ai + 1)), (by first | rfl | (simp; done) | (simp [*]; done)), H', ⟨by have := HK1.out; have := HK2.out; omega⟩, ⟨zk aa⟩, ⟨zb HB⟩⟩
         ·rw [if_neg c9] at H
          exact absurd H (by simp)
        ·rw [if_neg c8] at H
         have c8b0 : decide (ai < ((rd_L2 ac ab).length : Int)) = false := decide_eq_false c8
         clear c8; have H' := zK H; clear H
         have hcz13_0 : wr.cell? ⟨af, 0, none⟩ = some (.int .i64 a0_0) := (blk_cell aa.out 0).trans rfl
         have hcz13_1 : wr.cell? ⟨af, 1, none⟩ = some (.slice ap ac.length aq) := (blk_cell aa.out 1).trans rfl
         have hfz13_0 := blk_frozen aa.out 0; have hfz13_1 := blk_frozen aa.out 1
         have an : 0 ≤ (ab : Int) := zd
         have ao : ab < (ac.length : Int) := zd
         obtain ⟨aA, aD, aE, aF, ad, ag, ah⟩ := at_L2 av.out ab an ao
         cases aF
         replace ad := (HB.out.cell (World.block_lt_of_cell? w _ ad)).trans ad
         have aB := zK ah; have aC := zK ag; clear ah ag; replace an := eq_true an; replace ao := eq_true ao
         go_wp2
         go_roundg k2
         case measure => have := HK1.out; have := HK2.out; omega
         case rel => exact ⟨(wrap64 (ab + 1)), (by first | rfl | (simp; done) | (simp [*]; done)), H', ⟨by have := HK1.out; have := HK2.out; omega⟩, ⟨zk aa⟩, ⟨zb HB⟩⟩
       ·rw [if_neg c7] at H
        exact absurd H (by simp)
      ·rw [if_neg c6] at H
       exact absurd H (by simp)
   ·rw [if_neg c4] at H
    have aR : decide (ab < (ac.length : Int)) = false := decide_eq_false c4
    clear c4; obtain rfl := Option.some.inj H
    have hcz14_0 : wr.cell? ⟨af, 0, none⟩ = some (.int .i64 a0_0) := (blk_cell aa.out 0).trans rfl
    have hcz14_1 : wr.cell? ⟨af, 1, none⟩ = some (.slice ap ac.length aq) := (blk_cell aa.out 1).trans rfl
    have hfz14_0 := blk_frozen aa.out 0; have hfz14_1 := blk_frozen aa.out 1
    go_wp2
    go_ret
    exact ⟨by first | rfl | (simp [errW_none, errW_some] <;> rfl) | (simp [*, errW_none, errW_some] <;> rfl), by repeat (first | (with_reducible first | exact HB.out | apply zB | apply zC | apply zE | refine zS ?_ ar.out) | exact HB.out)⟩
end Go.Proofs.Ytheckjlldkkceaa.Px
