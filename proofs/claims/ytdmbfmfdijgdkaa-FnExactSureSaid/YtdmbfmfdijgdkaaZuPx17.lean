import Derived.Test.YtdmbfmfdijgdkaaZuPx0
namespace Go.Proofs.Ytdmbfmfdijgdkaa.Px
open Go.RowKit Go.Proofs.YtdmbfmfdijgdkaaW.PrintWords Go.Proofs.YtdmbfmfdijgdkaaW.PrintLast Go.Proofs.YtdmbfmfdijgdkaaW.PrintMore
attribute [local go_sem] max2_int min2_int max_two min_two max_three min_three max_four min_four   
set_option linter.unusedVariables false
set_option linter.unusedSimpArgs false
def laws_szExpectS.f (l0 : List (S98)) (a1 : Int) : Option (Int) := if (wrap64 (a1 - (l0.length : Int))) < 0 then (some (-1)) else (some (wrap64 (a1 - (l0.length : Int))))
set_option maxHeartbeats 8000000 in
set_option maxRecDepth 100000 in
theorem laws_szExpectS.calls (A0 : Option Addr) (c0 : Nat) (l0 : List (S98)) (a1 : Int) (r : Int) (w : World) (hr0 : Kd.C k98 w A0 l0.length l0) (hc0 : l0.length ≤ c0) (h : laws_szExpectS.f l0 a1 = some r) :
  Calls Try.prog 43 #[.slice A0 l0.length c0, .int .i64 a1] w fun e w' => e = .returned (.int .i64 r) ∧ Drawn0 w w' := by
 have HR0 := zK hr0; have HC0 := zK hc0; clear hr0 hc0
 have H : (if (wrap64 (a1 - (l0.length : Int))) < 0 then (some (-1)) else (some (wrap64 (a1 - (l0.length : Int))))) = some r := h
 clear h
 by_cases c3 : (wrap64 (a1 - (l0.length : Int))) < 0
 ·rw [if_pos c3] at H
  have c3b0 : decide ((wrap64 (a1 - (l0.length : Int))) < 0) = true := decide_eq_true c3
  clear c3; obtain rfl := Option.some.inj H
  go_enter Try.func43, Try.ntmps43
  go_wp2
  go_ret
  exact ⟨by first | rfl | (simp; done) | (simp [*]; done), by repeat (first | exact Drawn0.refl _ | apply Drawn0.step)⟩
 ·rw [if_neg c3] at H
  have c3b0 : decide ((wrap64 (a1 - (l0.length : Int))) < 0) = false := decide_eq_false c3
  clear c3; obtain rfl := Option.some.inj H
  go_enter Try.func43, Try.ntmps43
  go_wp2
  go_ret
  exact ⟨by first | rfl | (simp; done) | (simp [*]; done), by repeat (first | exact Drawn0.refl _ | apply Drawn0.step)⟩
def laws_szSightS.f (l0 : List (S100)) (a1 : Int) : Option (Int) := if (wrap64 (a1 - (l0.length : Int))) < 0 then (some (-1)) else (some (wrap64 (a1 - (l0.length : Int))))
set_option maxHeartbeats 8000000 in
set_option maxRecDepth 100000 in
theorem laws_szSightS.calls (A0 : Option Addr) (c0 : Nat) (l0 : List (S100)) (a1 : Int) (r : Int) (w : World) (hr0 : Kd.C k100 w A0 l0.length l0) (hc0 : l0.length ≤ c0) (h : laws_szSightS.f l0 a1 = some r) :
  Calls Try.prog 44 #[.slice A0 l0.length c0, .int .i64 a1] w fun e w' => e = .returned (.int .i64 r) ∧ Drawn0 w w' := by
 have HR0 := zK hr0; have HC0 := zK hc0; clear hr0 hc0
 have H : (if (wrap64 (a1 - (l0.length : Int))) < 0 then (some (-1)) else (some (wrap64 (a1 - (l0.length : Int))))) = some r := h
 clear h
 by_cases c3 : (wrap64 (a1 - (l0.length : Int))) < 0
 ·rw [if_pos c3] at H
  have c3b0 : decide ((wrap64 (a1 - (l0.length : Int))) < 0) = true := decide_eq_true c3
  clear c3; obtain rfl := Option.some.inj H
  go_enter Try.func44, Try.ntmps44
  go_wp2
  go_ret
  exact ⟨by first | rfl | (simp; done) | (simp [*]; done), by repeat (first | exact Drawn0.refl _ | apply Drawn0.step)⟩
 ·rw [if_neg c3] at H
  have c3b0 : decide ((wrap64 (a1 - (l0.length : Int))) < 0) = false := decide_eq_false c3
  clear c3; obtain rfl := Option.some.inj H
  go_enter Try.func44, Try.ntmps44
  go_wp2
  go_ret
  exact ⟨by first | rfl | (simp; done) | (simp [*]; done), by repeat (first | exact Drawn0.refl _ | apply Drawn0.step)⟩
def laws_toExpect.f (a0_0 : Int) (a0_1 : Int) (a0_2 : Int) : Option (Int × Int × Int) := some (a0_0, a0_1, a0_2)
set_option maxHeartbeats 8000000 in
set_option maxRecDepth 100000 in
theorem laws_toExpect.calls (a0_0 : Int) (a0_1 : Int) (a0_2 : Int) (r1 : Int) (r2 : Int) (r3 : Int) (w : World) (h : laws_toExpect.f a0_0 a0_1 a0_2 = some (r1, r2, r3)) :
  Calls Try.prog 87 #[.agg #[.int .i64 a0_0, .int .i64 a0_1, .int .i64 a0_2]] w fun e w' => e = .returned (.agg #[.int .i64 r1, .int .i64 r2, .int .i64 r3]) ∧ Below w.heap.size w w' := by
 have hu98 := Try.underlying98; have hu52 := Try.underlying52
 have HB := zK (Below.refl w.heap.size w)
 have H : (some (a0_0, a0_1, a0_2)) = some (r1, r2, r3) := h
 clear h
 simp only [Option.some.injEq, Prod.mk.injEq] at H
 obtain ⟨rfl, rfl, rfl⟩ := H
 go_enter Try.func87, Try.ntmps87
 go_wp2_with (first | ((with_reducible refine gate_dst (N := 1) rfl ?_); refine box_event ?hg (N := 1) ?hd (cs := #[.int .i64 a0_0, .int .i64 a0_1, .int .i64 a0_2]) (t := 98) ?hr ?_; (case hd => rfl); (case hg => rfl); (case hr => first | (go_simp; done) | (go_simp; rfl)); intro ab hg w2 hbox hb; have ao := zK (below_step (zb HB) hb); have ap := zK (hbox); have aq := zK ((by rw [hg]; exact (below_size (zb HB)) : w.heap.size ≤ ab)); have ar := zK ((by rw [hg]; exact (below_size (zb HB)) : w.heap.size ≤ ab)); clear HB; have HB := ao; have aa := ap; have GW790 := aq; have ag := ar; clear ao ap aq ar; clear hb hbox hg) | ((with_reducible refine gate_dst (N := 2) rfl ?_); refine box_event ?hg (N := 2) ?hd (cs := #[.int .i64 0, .int .i64 0, .int .i64 0]) (t := 52) ?hr ?_; (case hd => rfl); (case hg => rfl); (case hr => first | (go_simp; done) | (go_simp; rfl)); intro ac hg w3 hbox hb; have ao := zK (blk_below (g := ab) (o := .cells #[.int .i64 a0_0, .int .i64 a0_1, .int .i64 a0_2] 98 (0, 0)) (zk aa) hb); have ap := zK (below_step (zb HB) hb); have aq := zK (hbox); have ar := zK ((by rw [hg]; exact (below_size (zb HB)) : w.heap.size ≤ ac)); have au := zK ((by rw [hg]; exact (below_size (zb HB)) : w.heap.size ≤ ac)); have av := zK ((by rw [hg]; exact Nat.ne_of_lt (blk_lt (g := ab) (o := .cells #[.int .i64 a0_0, .int .i64 a0_1, .int .i64 a0_2] 98 (0, 0)) (zk aa)) : ab ≠ ac)); have aw := zK ((by rw [hg]; exact Nat.ne_of_gt (blk_lt (g := ab) (o := .cells #[.int .i64 a0_0, .int .i64 a0_1, .int .i64 a0_2] 98 (0, 0)) (zk aa)) : ac ≠ ab)); clear aa; clear HB; have aa := ao; have HB := ap; have ad := aq; have GW791 := ar; have ai := au; have aj := av; have ak := aw; clear ao ap aq ar au av aw; clear hb hbox hg) | ((with_reducible refine gate_dst (N := 3) rfl ?_); refine box_event ?hg (N := 3) ?hd (cs := #[.int .i64 0, .int .i64 0, .int .i64 0]) (t := 52) ?hr ?_; (case hd => rfl); (case hg => rfl); (case hr => first | (go_simp; done) | (go_simp; rfl)); intro af hg w4 hbox hb; have ao := zK (blk_below (g := ab) (o := .cells #[.int .i64 a0_0, .int .i64 a0_1, .int .i64 a0_2] 98 (0, 0)) (zk aa) hb); have ap := zK (blk_below (g := ac) (o := .cells #[.int .i64 0, .int .i64 0, .int .i64 0] 52 (0, 0)) (zk ad) hb); have aq := zK (below_step (zb HB) hb); have ar := zK (hbox); have au := zK ((by rw [hg]; exact (below_size (zb HB)) : w.heap.size ≤ af)); have av := zK ((by rw [hg]; exact (below_size (zb HB)) : w.heap.size ≤ af)); have aw := zK ((by rw [hg]; exact Nat.ne_of_lt (blk_lt (g := ab) (o := .cells #[.int .i64 a0_0, .int .i64 a0_1, .int .i64 a0_2] 98 (0, 0)) (zk aa)) : ab ≠ af)); have n7_ := zK ((by rw [hg]; exact Nat.ne_of_gt (blk_lt (g := ab) (o := .cells #[.int .i64 a0_0, .int .i64 a0_1, .int .i64 a0_2] 98 (0, 0)) (zk aa)) : af ≠ ab)); have n8_ := zK ((by rw [hg]; exact Nat.ne_of_lt (blk_lt (g := ac) (o := .cells #[.int .i64 0, .int .i64 0, .int .i64 0] 52 (0, 0)) (zk ad)) : ac ≠ af)); have n9_ := zK ((by rw [hg]; exact Nat.ne_of_gt (blk_lt (g := ac) (o := .cells #[.int .i64 0, .int .i64 0, .int .i64 0] 52 (0, 0)) (zk ad)) : af ≠ ac)); clear aa; clear ad; clear HB; have aa := ao; have ad := ap; have HB := aq; have ah := ar; have GW792 := au; have ax := av; have al := aw; have am := n7_; have ae := n8_; have an := n9_; clear ao ap aq ar au av aw n7_ n8_ n9_; clear hb hbox hg; have hnb5 := aj.out; have hnc5 := ak.out; have hnb6 := al.out; have hnc6 := am.out; have hcz7_0 : w4.cell? ⟨ab, 0, none⟩ = some (.int .i64 a0_0) := (blk_cell aa.out 0).trans rfl; have hcz7_1 : w4.cell? ⟨ab, 1, none⟩ = some (.int .i64 a0_1) := (blk_cell aa.out 1).trans rfl; have hcz7_2 : w4.cell? ⟨ab, 2, none⟩ = some (.int .i64 a0_2) := (blk_cell aa.out 2).trans rfl; have hfz7_0 := blk_frozen aa.out 0; have hfz7_1 := blk_frozen aa.out 1; have hfz7_2 := blk_frozen aa.out 2; have hnb8 := an.out; have hnc8 := ae.out; have hcz9_0 : w4.cell? ⟨af, 0, none⟩ = some (.int .i64 0) := (blk_cell ah.out 0).trans rfl; have hcz9_1 : w4.cell? ⟨af, 1, none⟩ = some (.int .i64 0) := (blk_cell ah.out 1).trans rfl; have hcz9_2 : w4.cell? ⟨af, 2, none⟩ = some (.int .i64 0) := (blk_cell ah.out 2).trans rfl; have hfz9_0 := blk_frozen ah.out 0; have hfz9_1 := blk_frozen ah.out 1; have hfz9_2 := blk_frozen ah.out 2; have hcz10_0 : w4.cell? ⟨ac, 0, none⟩ = some (.int .i64 0) := (blk_cell ad.out 0).trans rfl; have hcz10_1 : w4.cell? ⟨ac, 1, none⟩ = some (.int .i64 0) := (blk_cell ad.out 1).trans rfl; have hcz10_2 : w4.cell? ⟨ac, 2, none⟩ = some (.int .i64 0) := (blk_cell ad.out 2).trans rfl; have hfz10_0 := blk_frozen ad.out 0; have hfz10_1 := blk_frozen ad.out 1; have hfz10_2 := blk_frozen ad.out 2))
 refine bodyPost_ret (results_cell_row rfl _ _ ac 52 #[.int .i64 a0_0, .int .i64 a0_1, .int .i64 a0_2] (0, 0) _ rfl (by (with_reducible repeat (first | refine zN ?_ _ | refine zD ?_ | refine zA ?_ _)); refine blk_put (cs := #[.int .i64 a0_0, .int .i64 a0_1, .int .i64 0]) ?_ 2 _ rfl; (with_reducible repeat (first | refine zN ?_ _ | refine zD ?_ | refine zA ?_ _)); refine blk_put (cs := #[.int .i64 a0_0, .int .i64 0, .int .i64 0]) ?_ 1 _ rfl; (with_reducible repeat (first | refine zN ?_ _ | refine zD ?_ | refine zA ?_ _)); refine blk_put (cs := #[.int .i64 0, .int .i64 0, .int .i64 0]) ?_ 0 _ rfl; (with_reducible repeat (first | refine zN ?_ _ | refine zD ?_ | refine zA ?_ _)); refine blk_far ?_ ae.out _; (with_reducible repeat (first | refine zN ?_ _ | refine zD ?_ | refine zA ?_ _)); refine blk_far ?_ ae.out _; (with_reducible repeat (first | refine zN ?_ _ | refine zD ?_ | refine zA ?_ _)); refine blk_far ?_ ae.out _; (with_reducible repeat (first | refine zN ?_ _ | refine zD ?_ | refine zA ?_ _)); exact ad.out) Try.underlying52 rfl (by kernel_rfl)) rfl ?_
 exact ⟨by first | rfl | (simp [errW_none, errW_some] <;> rfl) | (simp [*, errW_none, errW_some] <;> rfl), by repeat (first | (with_reducible first | exact HB.out | apply zB | apply zC | apply zE | refine zS ?_ ag.out | refine zS ?_ ai.out | refine zS ?_ ax.out) | exact HB.out)⟩
def laws_toExpectS.l0 : Nat → List (S98) → List (S52) → Int → Option ((List (S52)))
 | 0, _, _, _ => none
 | k + 1, x0, x3, x4 => if x4 < (x0.length : Int) then (if 0 ≤ x4 then ((laws_toExpect.f ((rd_T98 x0 x4).f0) ((rd_T98 x0 x4).f1) ((rd_T98 x0 x4).f2)).bind fun bt797 => (if x4 < (x3.length : Int) then (laws_toExpectS.l0 k x0 (x3.set (x4 : Int).toNat (⟨bt797.1, bt797.2.1, bt797.2.2⟩ : S52)) (wrap64 (x4 + 1))) else (none))) else (none)) else (some x3)
def laws_toExpectS.f (k : Nat) (l0 : List (S98)) : Option ((List (S52))) := if 0 ≤ (l0.length : Int) then (if ((l0.length : Int) : Int).toNat ≤ 11728124029610 then (laws_toExpectS.l0 k l0 (List.replicate ((l0.length : Int) : Int).toNat z52) 0) else (none)) else (none)
set_option maxHeartbeats 8000000 in
set_option maxRecDepth 100000 in
theorem laws_toExpectS.calls (k : Nat) (A0 : Option Addr) (c0 : Nat) (l0 : List (S98)) (r : List (S52)) (w : World) (hr0 : Kd.C k98 w A0 l0.length l0) (hc0 : l0.length ≤ c0) (h : laws_toExpectS.f k l0 = some r) :
  Calls Try.prog 46 #[.slice A0 l0.length c0] w fun e w' => ∃ v0_ : Value, e = .returned (v0_) ∧ Kd.R k52 52 w' w.heap.size (fun _ => True) v0_ r ∧ Below w.heap.size w w' := by
 have hu98 := Try.underlying98; have hu52 := Try.underlying52; have HR0 := zK hr0; have HC0 := zK hc0; clear hr0 hc0
 have HB := zK (Below.refl w.heap.size w)
 have H : (if 0 ≤ (l0.length : Int) then (if ((l0.length : Int) : Int).toNat ≤ 11728124029610 then (laws_toExpectS.l0 k l0 (List.replicate ((l0.length : Int) : Int).toNat z52) 0) else (none)) else (none)) = some r := h
 clear h
 by_cases c2 : 0 ≤ (l0.length : Int)
 ·rw [if_pos c2] at H
  have c2b0 := eq_true c2
  have c2b1 : decide (0 ≤ (l0.length : Int)) = true := decide_eq_true c2
  clear c2
  by_cases c3 : ((l0.length : Int) : Int).toNat ≤ 11728124029610
  ·rw [if_pos c3] at H
   have c3b0 := eq_true c3
   have c3b1 : decide (((l0.length : Int) : Int).toNat ≤ 11728124029610) = true := decide_eq_true c3
   clear c3
   obtain ⟨aH, ah⟩ : ∃ y_ : List (S52), y_ = (List.replicate ((l0.length : Int) : Int).toNat z52) := ⟨_, rfl⟩
   replace H : (laws_toExpectS.l0 k l0 aH 0) = some r := by first | (rw [ah]; with_reducible exact H) | (have H2_ := (Option.bind_some _ _).symm.trans H; rw [ah]; with_reducible exact H2_) | (have H2_ := (Option.bind_some _ _).symm.trans H; with_reducible exact H2_) | with_reducible exact H | (rw [ah]; exact H) | exact H
   have Ny793 := zK ah; clear ah; have H' := zK H; clear H
   go_enter Try.func46, Try.ntmps46
   go_wp2_with (first | ((with_reducible refine gate_dst (N := 7) rfl ?_); refine Kd.R_make k52 _ 52 rfl (N := 7) rfl 42 _ _ rfl (l0.length : Int) rfl rfl Try.underlying42 (.agg #[(.int .i64 0), (.int .i64 0), (.int .i64 0)]) 24 info52 rfl (by decide) (by omega) z52 (ok := fun _ => True) (okp := fun _ => True) (k52_mkM _ _ _ z52 ) (fun _ hk => hk) trivial (of_decide_eq_true (by first | (with_reducible assumption) | assumption)) (Nat.le_trans (Nat.mul_le_mul_right _ (of_decide_eq_true (by first | (with_reducible assumption) | assumption) : (l0.length : Int).toNat ≤ 11728124029610)) (by omega)) (Below.refl _ _) (Nat.le_refl _) ?_; intro v794 w4 ho5 hb hg_ hnew_; clear hg_ hnew_; (first | rw [← Ny793.out] at ho5 | (simp only [Int.reduceToNat] at ho5; rw [← Ny793.out] at ho5)); have ar := zK (Kd.R_lower ho5 (below_size (zb HB))); have au := zK (below_step (zb HB) hb); clear HB; have aI := ar; have HB := au; clear ar au; clear hb ho5))
   go_loopg [4] k (fun kq v4 w' => ∃ (ab : List (S52)) (aa : Int), v4 = .int .i64 aa ∧ Aside0 (laws_toExpectS.l0 kq l0 ab aa = some r) ∧ Aside0 (kq ≤ k) ∧ Aside0 (Kd.R k52 52 w' w.heap.size (fun _ => True) v794 ab) ∧ Aside0 (Below w.heap.size w w'))
   case atStart => exact ⟨(aH), (0), (by first | rfl | (simp; done) | (simp [*]; done)), H', ⟨Nat.le_refl _⟩, ⟨zR aI⟩, ⟨zb HB⟩⟩
   case round =>
    clear H'
    try clear c2
    try clear c2b0
    try clear c2b1
    try clear p2
    try clear c3
    try clear c3b0
    try clear c3b1
    try clear c4
    obtain ⟨ab, aa, rfl, HA, HK1, ac, HB⟩ := hrel
    cases gk with
    | zero => exact absurd HA.out (by simp [laws_toExpectS.l0])
    | succ k1 =>
     have H := HA.out; clear HA
     simp only [laws_toExpectS.l0] at H
     by_cases c6 : aa < (l0.length : Int)
     ·rw [if_pos c6] at H
      have c6b0 : decide (aa < (l0.length : Int)) = true := decide_eq_true c6
      clear c6
      by_cases c7 : 0 ≤ aa
      ·rw [if_pos c7] at H
       have c7b0 : decide (0 ≤ aa) = true := decide_eq_true c7
       clear c7; replace H := Option.bind_eq_some_iff.mp H
       obtain ⟨⟨ak, al, am⟩, A80, H⟩ := H
       replace H : (if aa < (ab.length : Int) then (laws_toExpectS.l0 k1 l0 (ab.set (aa : Int).toNat (⟨ak, al, am⟩ : S52)) (wrap64 (aa + 1))) else (none)) = some r := H
       have A8 := zK A80; clear A80
       by_cases c9 : aa < (ab.length : Int)
       ·rw [if_pos c9] at H
        have c9b0 : decide (aa < (ab.length : Int)) = true := decide_eq_true c9
        clear c9
        obtain ⟨aw, ai⟩ : ∃ y_ : List (S52), y_ = (ab.set (aa : Int).toNat (⟨ak, al, am⟩ : S52)) := ⟨_, rfl⟩
        replace H : (laws_toExpectS.l0 k1 l0 aw (wrap64 (aa + 1))) = some r := by first | (rw [ai]; with_reducible exact H) | (have H2_ := (Option.bind_some _ _).symm.trans H; rw [ai]; with_reducible exact H2_) | (have H2_ := (Option.bind_some _ _).symm.trans H; with_reducible exact H2_) | with_reducible exact H | (rw [ai]; exact H) | exact H
        have Ny800 := zK ai; clear ai; have H' := zK H; clear H
        have ax : 0 ≤ (aa : Int) := of_decide_eq_true (by first | (with_reducible assumption) | assumption)
        have ay : aa < (l0.length : Int) := of_decide_eq_true (by first | (with_reducible assumption) | assumption)
        obtain ⟨ad796, e796, ae, af, ag⟩ := at_T98 HR0.out aa ax ay
        cases e796
        replace ae := (HB.out.cell (World.block_lt_of_cell? w _ ae)).trans ae
        replace af := (HB.out.cell (World.block_lt_of_cell? w _ af)).trans af
        replace ag := (HB.out.cell (World.block_lt_of_cell? w _ ag)).trans ag
        replace ax := eq_true ax; replace ay := eq_true ay
        go_wp2_with (first | ((with_reducible refine gate_callee (f := 87) rfl ?_); refine goesL_ (some 20) rfl rfl Try.func87 (by kernel_rfl) rfl #[.agg #[.int .i64 ((rd_T98 l0 aa).f0), .int .i64 ((rd_T98 l0 aa).f1), .int .i64 ((rd_T98 l0 aa).f2)]] rfl (by (try simp only [List.map_toArray, List.map_cons, List.map_nil]); first | done | rfl | (simp only [List.length_drop, List.length_take]; rfl)) ?_; (with_reducible refine (laws_toExpect.calls ((rd_T98 l0 aa).f0) ((rd_T98 l0 aa).f1) ((rd_T98 l0 aa).f2) ak al am _ A8.out).mono ?_); rintro e aq ⟨rfl, hb⟩; refine ⟨_, rfl, ?_⟩; have ar := zK (Kd.R_below (zR ac) hb); have au := zK (below_step (zb HB) hb); clear ac; clear HB; have ac := ar; have HB := au; clear ar au; (try clear hb); (try clear hk); have p10 : 0 ≤ (aa : Int) := of_decide_eq_true (by first | (with_reducible assumption) | assumption); have q10 : (aa : Int) < ((ab.length : Int) : Int) := of_decide_eq_true (by first | (with_reducible assumption) | assumption); obtain ⟨ad, aJ, aK, aL, gl10, cl10, aM⟩ := Kd.R_form ac.out (by omega); (first | cases aK | (injection aK with ea_ en_ ec_; (first | subst ea_ | (injection ea_ with ea_; subst ea_)); subst ec_; clear en_)); have az := zK aL; have GG10 := zK aM; clear aL gl10 aM; obtain ⟨ce10, aN, aO, an, ao⟩ := Kd.R_elem ac.out z52 (aa : Int) p10 q10; obtain rfl := k52_openM aO; have hx10_0 : aq.cell? ⟨ad, (aa : Int).toNat * 3, none⟩ = some (.int .i64 ((rd_T52 ab aa).f0)) := an 0 _ rfl; have hx10_1 : aq.cell? ⟨ad, (aa : Int).toNat * 3 + 1, none⟩ = some (.int .i64 ((rd_T52 ab aa).f1)) := an 1 _ rfl; have hx10_2 : aq.cell? ⟨ad, (aa : Int).toNat * 3 + 2, none⟩ = some (.int .i64 ((rd_T52 ab aa).f2)) := an 2 _ rfl; have hf10_0 : aq.frozen? ⟨ad, (aa : Int).toNat * 3, none⟩ = false := ao 0; have hf10_1 : aq.frozen? ⟨ad, (aa : Int).toNat * 3 + 1, none⟩ = false := ao 1; have hf10_2 : aq.frozen? ⟨ad, (aa : Int).toNat * 3 + 2, none⟩ = false := ao 2; clear aN an ao; (try clear aO); replace p10 := eq_true p10; replace q10 := eq_true q10; have aP := zK (show Kd.R k52 52 aq w.heap.size (fun _ => True) (.slice (some ⟨ad, 0, none⟩) ab.length aJ) ab from (zR ac)); obtain ⟨ce12, av, aQ, aj, ap⟩ := Kd.R_elem aP.out z52 (aa : Int) (of_decide_eq_true (by first | (with_reducible assumption) | assumption)) (by have h_ : (aa : Int) < ((ab.length : Int) : Int) := of_decide_eq_true (by first | (with_reducible assumption) | assumption); first | exact h_ | (have e_ := (Kd.R_reads' ac.out).1; omega) | simpa using h_); obtain rfl := k52_openM aQ; have aA := Kd.R_seg aP.out (aa : Int) (of_decide_eq_true (by first | (with_reducible assumption) | assumption)) (by have h_ : (aa : Int) < ((ab.length : Int) : Int) := of_decide_eq_true (by first | (with_reducible assumption) | assumption); first | exact h_ | (have e_ := (Kd.R_reads' ac.out).1; omega) | simpa using h_) (seg := [.int .i64 ak, .int .i64 al, .int .i64 am]) (j := 0) av aj (show 3 ≤ 3 from by decide) (x' := (⟨ak, al, am⟩ : S52)) (k52_mkM _ _ _ (⟨ak, al, am⟩ : S52) ) (fun _ hk => hk); have aB := aj 0 _ rfl; (try simp only [show (k52).sz = 3 from rfl, Nat.mul_one, Nat.add_zero] at aB); have aC := ap 0; (try simp only [show (k52).sz = 3 from rfl, Nat.mul_one, Nat.add_zero] at aC); have aD := aj 1 _ rfl; (try simp only [show (k52).sz = 3 from rfl, Nat.mul_one, Nat.add_zero] at aD); have aE := ap 1; (try simp only [show (k52).sz = 3 from rfl, Nat.mul_one, Nat.add_zero] at aE); have aF := aj 2 _ rfl; (try simp only [show (k52).sz = 3 from rfl, Nat.mul_one, Nat.add_zero] at aF); have aG := ap 2; (try simp only [show (k52).sz = 3 from rfl, Nat.mul_one, Nat.add_zero] at aG); clear av aj ap; (try clear aQ)) | ((with_reducible refine gate_store (t := 52) (p := 21) rfl ?_); refine store_event (t := 52) (p := 21) (v := ?vo_w13) (w1 := (((aq.setCell ⟨ad, (aa : Int).toNat * 3, none⟩ (.int .i64 ak)).setCell ⟨ad, (aa : Int).toNat * 3 + 1, none⟩ (.int .i64 al)).setCell ⟨ad, (aa : Int).toNat * 3 + 2, none⟩ (.int .i64 am))) ?hg ?ho ?hn ?hr ?_; (case ho => rfl); (case hg => rfl); (case hn => rfl); (case hr => first | (go_simp; done) | (go_simp; rfl)); intro w13 hw; have hg : aq.grownBy w13 (some ad) := (by rw [hw]; exact aA.2); have hp_ : Kd.R k52 52 w13 w.heap.size (fun _ => True) (.slice (some ⟨ad, 0, none⟩) ab.length aJ) aw := (by rw [hw, Ny800.out]; exact aA.1); clear aA; have ar := zK (hp_); have au := zK ((by rw [hw]; exact zS (zS (zS (HB.out) az.out) az.out) az.out : Below w.heap.size w w13)); clear ac; clear HB; have ac := ar; have HB := au; clear ar au; clear hg hw hp_))
        go_roundg k1
        case measure => have := HK1.out; omega
        case rel => exact ⟨(aw), (wrap64 (aa + 1)), (by first | rfl | (simp; done) | (simp [*]; done)), H', ⟨by have := HK1.out; omega⟩, ⟨zR ac⟩, ⟨zb HB⟩⟩
       ·rw [if_neg c9] at H
        exact absurd H (by simp)
      ·rw [if_neg c7] at H
       exact absurd H (by simp)
     ·rw [if_neg c6] at H
      have c6b0 : decide (aa < (l0.length : Int)) = false := decide_eq_false c6
      clear c6; obtain rfl := Option.some.inj H
      go_wp2
      go_ret
      exact ⟨_, by first | rfl | (simp [errW_none, errW_some] <;> rfl) | (simp [*, errW_none, errW_some] <;> rfl), by (with_reducible repeat (first | apply Kd.R_alloc | apply Kd.R_drewN | apply Kd.R_drew)); exact ac.out, by repeat (first | (with_reducible first | exact HB.out | apply zB | apply zC | apply zE) | exact HB.out)⟩
  ·rw [if_neg c3] at H
   exact absurd H (by simp)
 ·rw [if_neg c2] at H
  exact absurd H (by simp)
def laws_toSight.f (a0_0 : Int) (a0_1 : Int) : Option (Int × Int) := some (a0_0, a0_1)
set_option maxHeartbeats 8000000 in
set_option maxRecDepth 100000 in
theorem laws_toSight.calls (a0_0 : Int) (a0_1 : Int) (r1 : Int) (r2 : Int) (w : World) (h : laws_toSight.f a0_0 a0_1 = some (r1, r2)) :
  Calls Try.prog 88 #[.agg #[.int .i64 a0_0, .int .i64 a0_1]] w fun e w' => e = .returned (.agg #[.int .i64 r1, .int .i64 r2]) ∧ Below w.heap.size w w' := by
 have hu100 := Try.underlying100; have hu89 := Try.underlying89
 have HB := zK (Below.refl w.heap.size w)
 have H : (some (a0_0, a0_1)) = some (r1, r2) := h
 clear h
 simp only [Option.some.injEq, Prod.mk.injEq] at H
 obtain ⟨rfl, rfl⟩ := H
 go_enter Try.func88, Try.ntmps88
 go_wp2_with (first | ((with_reducible refine gate_dst (N := 1) rfl ?_); refine box_event ?hg (N := 1) ?hd (cs := #[.int .i64 a0_0, .int .i64 a0_1]) (t := 100) ?hr ?_; (case hd => rfl); (case hg => rfl); (case hr => first | (go_simp; done) | (go_simp; rfl)); intro aa hg w2 hbox hb; have ao := zK (below_step (zb HB) hb); have ap := zK (hbox); have aq := zK ((by rw [hg]; exact (below_size (zb HB)) : w.heap.size ≤ aa)); have ar := zK ((by rw [hg]; exact (below_size (zb HB)) : w.heap.size ≤ aa)); clear HB; have HB := ao; have ab := ap; have GW801 := aq; have ag := ar; clear ao ap aq ar; clear hb hbox hg) | ((with_reducible refine gate_dst (N := 2) rfl ?_); refine box_event ?hg (N := 2) ?hd (cs := #[.int .i64 0, .int .i64 0]) (t := 89) ?hr ?_; (case hd => rfl); (case hg => rfl); (case hr => first | (go_simp; done) | (go_simp; rfl)); intro ac hg w3 hbox hb; have ao := zK (blk_below (g := aa) (o := .cells #[.int .i64 a0_0, .int .i64 a0_1] 100 (0, 0)) (zk ab) hb); have ap := zK (below_step (zb HB) hb); have aq := zK (hbox); have ar := zK ((by rw [hg]; exact (below_size (zb HB)) : w.heap.size ≤ ac)); have au := zK ((by rw [hg]; exact (below_size (zb HB)) : w.heap.size ≤ ac)); have av := zK ((by rw [hg]; exact Nat.ne_of_lt (blk_lt (g := aa) (o := .cells #[.int .i64 a0_0, .int .i64 a0_1] 100 (0, 0)) (zk ab)) : aa ≠ ac)); have aw := zK ((by rw [hg]; exact Nat.ne_of_gt (blk_lt (g := aa) (o := .cells #[.int .i64 a0_0, .int .i64 a0_1] 100 (0, 0)) (zk ab)) : ac ≠ aa)); clear ab; clear HB; have ab := ao; have HB := ap; have ad := aq; have GW802 := ar; have ah := au; have aj := av; have ak := aw; clear ao ap aq ar au av aw; clear hb hbox hg) | ((with_reducible refine gate_dst (N := 3) rfl ?_); refine box_event ?hg (N := 3) ?hd (cs := #[.int .i64 0, .int .i64 0]) (t := 89) ?hr ?_; (case hd => rfl); (case hg => rfl); (case hr => first | (go_simp; done) | (go_simp; rfl)); intro af hg w4 hbox hb; have ao := zK (blk_below (g := aa) (o := .cells #[.int .i64 a0_0, .int .i64 a0_1] 100 (0, 0)) (zk ab) hb); have ap := zK (blk_below (g := ac) (o := .cells #[.int .i64 0, .int .i64 0] 89 (0, 0)) (zk ad) hb); have aq := zK (below_step (zb HB) hb); have ar := zK (hbox); have au := zK ((by rw [hg]; exact (below_size (zb HB)) : w.heap.size ≤ af)); have av := zK ((by rw [hg]; exact (below_size (zb HB)) : w.heap.size ≤ af)); have aw := zK ((by rw [hg]; exact Nat.ne_of_lt (blk_lt (g := aa) (o := .cells #[.int .i64 a0_0, .int .i64 a0_1] 100 (0, 0)) (zk ab)) : aa ≠ af)); have n7_ := zK ((by rw [hg]; exact Nat.ne_of_gt (blk_lt (g := aa) (o := .cells #[.int .i64 a0_0, .int .i64 a0_1] 100 (0, 0)) (zk ab)) : af ≠ aa)); have n8_ := zK ((by rw [hg]; exact Nat.ne_of_lt (blk_lt (g := ac) (o := .cells #[.int .i64 0, .int .i64 0] 89 (0, 0)) (zk ad)) : ac ≠ af)); have n9_ := zK ((by rw [hg]; exact Nat.ne_of_gt (blk_lt (g := ac) (o := .cells #[.int .i64 0, .int .i64 0] 89 (0, 0)) (zk ad)) : af ≠ ac)); clear ab; clear ad; clear HB; have ab := ao; have ad := ap; have HB := aq; have ai := ar; have GW803 := au; have ax := av; have al := aw; have am := n7_; have ae := n8_; have an := n9_; clear ao ap aq ar au av aw n7_ n8_ n9_; clear hb hbox hg; have hnb5 := aj.out; have hnc5 := ak.out; have hnb6 := al.out; have hnc6 := am.out; have hcz7_0 : w4.cell? ⟨aa, 0, none⟩ = some (.int .i64 a0_0) := (blk_cell ab.out 0).trans rfl; have hcz7_1 : w4.cell? ⟨aa, 1, none⟩ = some (.int .i64 a0_1) := (blk_cell ab.out 1).trans rfl; have hfz7_0 := blk_frozen ab.out 0; have hfz7_1 := blk_frozen ab.out 1; have hnb8 := an.out; have hnc8 := ae.out; have hcz9_0 : w4.cell? ⟨af, 0, none⟩ = some (.int .i64 0) := (blk_cell ai.out 0).trans rfl; have hcz9_1 : w4.cell? ⟨af, 1, none⟩ = some (.int .i64 0) := (blk_cell ai.out 1).trans rfl; have hfz9_0 := blk_frozen ai.out 0; have hfz9_1 := blk_frozen ai.out 1; have hcz10_0 : w4.cell? ⟨ac, 0, none⟩ = some (.int .i64 0) := (blk_cell ad.out 0).trans rfl; have hcz10_1 : w4.cell? ⟨ac, 1, none⟩ = some (.int .i64 0) := (blk_cell ad.out 1).trans rfl; have hfz10_0 := blk_frozen ad.out 0; have hfz10_1 := blk_frozen ad.out 1))
 refine bodyPost_ret (results_cell_row rfl _ _ ac 89 #[.int .i64 a0_0, .int .i64 a0_1] (0, 0) _ rfl (by (with_reducible repeat (first | refine zN ?_ _ | refine zD ?_ | refine zA ?_ _)); refine blk_put (cs := #[.int .i64 a0_0, .int .i64 0]) ?_ 1 _ rfl; (with_reducible repeat (first | refine zN ?_ _ | refine zD ?_ | refine zA ?_ _)); refine blk_put (cs := #[.int .i64 0, .int .i64 0]) ?_ 0 _ rfl; (with_reducible repeat (first | refine zN ?_ _ | refine zD ?_ | refine zA ?_ _)); refine blk_far ?_ ae.out _; (with_reducible repeat (first | refine zN ?_ _ | refine zD ?_ | refine zA ?_ _)); refine blk_far ?_ ae.out _; (with_reducible repeat (first | refine zN ?_ _ | refine zD ?_ | refine zA ?_ _)); exact ad.out) Try.underlying89 rfl (by kernel_rfl)) rfl ?_
 exact ⟨by first | rfl | (simp [errW_none, errW_some] <;> rfl) | (simp [*, errW_none, errW_some] <;> rfl), by repeat (first | (with_reducible first | exact HB.out | apply zB | apply zC | apply zE | refine zS ?_ ag.out | refine zS ?_ ah.out | refine zS ?_ ax.out) | exact HB.out)⟩
def laws_toSightS.l0 : Nat → List (S100) → List (S89) → Int → Option ((List (S89)))
 | 0, _, _, _ => none
 | k + 1, x0, x3, x4 => if x4 < (x0.length : Int) then (if 0 ≤ x4 then ((laws_toSight.f ((rd_T100 x0 x4).f0) ((rd_T100 x0 x4).f1)).bind fun bt808 => (if x4 < (x3.length : Int) then (laws_toSightS.l0 k x0 (x3.set (x4 : Int).toNat (⟨bt808.1, bt808.2⟩ : S89)) (wrap64 (x4 + 1))) else (none))) else (none)) else (some x3)
def laws_toSightS.f (k : Nat) (l0 : List (S100)) : Option ((List (S89))) := if 0 ≤ (l0.length : Int) then (if ((l0.length : Int) : Int).toNat ≤ 17592186044416 then (laws_toSightS.l0 k l0 (List.replicate ((l0.length : Int) : Int).toNat z89) 0) else (none)) else (none)
set_option maxHeartbeats 8000000 in
set_option maxRecDepth 100000 in
theorem laws_toSightS.calls (k : Nat) (A0 : Option Addr) (c0 : Nat) (l0 : List (S100)) (r : List (S89)) (w : World) (hr0 : Kd.C k100 w A0 l0.length l0) (hc0 : l0.length ≤ c0) (h : laws_toSightS.f k l0 = some r) :
  Calls Try.prog 47 #[.slice A0 l0.length c0] w fun e w' => ∃ v0_ : Value, e = .returned (v0_) ∧ Kd.R k89 89 w' w.heap.size (fun _ => True) v0_ r ∧ Below w.heap.size w w' := by
 have hu100 := Try.underlying100; have hu89 := Try.underlying89; have HR0 := zK hr0; have HC0 := zK hc0; clear hr0 hc0
 have HB := zK (Below.refl w.heap.size w)
 have H : (if 0 ≤ (l0.length : Int) then (if ((l0.length : Int) : Int).toNat ≤ 17592186044416 then (laws_toSightS.l0 k l0 (List.replicate ((l0.length : Int) : Int).toNat z89) 0) else (none)) else (none)) = some r := h
 clear h
 by_cases c2 : 0 ≤ (l0.length : Int)
 ·rw [if_pos c2] at H
  have c2b0 := eq_true c2
  have c2b1 : decide (0 ≤ (l0.length : Int)) = true := decide_eq_true c2
  clear c2
  by_cases c3 : ((l0.length : Int) : Int).toNat ≤ 17592186044416
  ·rw [if_pos c3] at H
   have c3b0 := eq_true c3
   have c3b1 : decide (((l0.length : Int) : Int).toNat ≤ 17592186044416) = true := decide_eq_true c3
   clear c3
   obtain ⟨aC, ag⟩ : ∃ y_ : List (S89), y_ = (List.replicate ((l0.length : Int) : Int).toNat z89) := ⟨_, rfl⟩
   replace H : (laws_toSightS.l0 k l0 aC 0) = some r := by first | (rw [ag]; with_reducible exact H) | (have H2_ := (Option.bind_some _ _).symm.trans H; rw [ag]; with_reducible exact H2_) | (have H2_ := (Option.bind_some _ _).symm.trans H; with_reducible exact H2_) | with_reducible exact H | (rw [ag]; exact H) | exact H
   have Ny804 := zK ag; clear ag; have H' := zK H; clear H
   go_enter Try.func47, Try.ntmps47
   go_wp2_with (first | ((with_reducible refine gate_dst (N := 7) rfl ?_); refine Kd.R_make k89 _ 89 rfl (N := 7) rfl 43 _ _ rfl (l0.length : Int) rfl rfl Try.underlying43 (.agg #[(.int .i64 0), (.int .i64 0)]) 16 info89 rfl (by decide) (by omega) z89 (ok := fun _ => True) (okp := fun _ => True) (k89_mkM _ _ _ z89 ) (fun _ hk => hk) trivial (of_decide_eq_true (by first | (with_reducible assumption) | assumption)) (Nat.le_trans (Nat.mul_le_mul_right _ (of_decide_eq_true (by first | (with_reducible assumption) | assumption) : (l0.length : Int).toNat ≤ 17592186044416)) (by omega)) (Below.refl _ _) (Nat.le_refl _) ?_; intro v805 w4 ho5 hb hg_ hnew_; clear hg_ hnew_; (first | rw [← Ny804.out] at ho5 | (simp only [Int.reduceToNat] at ho5; rw [← Ny804.out] at ho5)); have ao := zK (Kd.R_lower ho5 (below_size (zb HB))); have ap := zK (below_step (zb HB) hb); clear HB; have aD := ao; have HB := ap; clear ao ap; clear hb ho5))
   go_loopg [4] k (fun kq v4 w' => ∃ (ab : List (S89)) (aa : Int), v4 = .int .i64 aa ∧ Aside0 (laws_toSightS.l0 kq l0 ab aa = some r) ∧ Aside0 (kq ≤ k) ∧ Aside0 (Kd.R k89 89 w' w.heap.size (fun _ => True) v805 ab) ∧ Aside0 (Below w.heap.size w w'))
   case atStart => exact ⟨(aC), (0), (by first | rfl | (simp; done) | (simp [*]; done)), H', ⟨Nat.le_refl _⟩, ⟨zR aD⟩, ⟨zb HB⟩⟩
   case round =>
    clear H'
    try clear c2
    try clear c2b0
    try clear c2b1
    try clear p2
    try clear c3
    try clear c3b0
    try clear c3b1
    try clear c4
    obtain ⟨ab, aa, rfl, HA, HK1, ac, HB⟩ := hrel
    cases gk with
    | zero => exact absurd HA.out (by simp [laws_toSightS.l0])
    | succ k1 =>
     have H := HA.out; clear HA
     simp only [laws_toSightS.l0] at H
     by_cases c6 : aa < (l0.length : Int)
     ·rw [if_pos c6] at H
      have c6b0 : decide (aa < (l0.length : Int)) = true := decide_eq_true c6
      clear c6
      by_cases c7 : 0 ≤ aa
      ·rw [if_pos c7] at H
       have c7b0 : decide (0 ≤ aa) = true := decide_eq_true c7
       clear c7; replace H := Option.bind_eq_some_iff.mp H
       obtain ⟨⟨ai, aj⟩, A80, H⟩ := H
       replace H : (if aa < (ab.length : Int) then (laws_toSightS.l0 k1 l0 (ab.set (aa : Int).toNat (⟨ai, aj⟩ : S89)) (wrap64 (aa + 1))) else (none)) = some r := H
       have A8 := zK A80; clear A80
       by_cases c9 : aa < (ab.length : Int)
       ·rw [if_pos c9] at H
        have c9b0 : decide (aa < (ab.length : Int)) = true := decide_eq_true c9
        clear c9
        obtain ⟨ar, ah⟩ : ∃ y_ : List (S89), y_ = (ab.set (aa : Int).toNat (⟨ai, aj⟩ : S89)) := ⟨_, rfl⟩
        replace H : (laws_toSightS.l0 k1 l0 ar (wrap64 (aa + 1))) = some r := by first | (rw [ah]; with_reducible exact H) | (have H2_ := (Option.bind_some _ _).symm.trans H; rw [ah]; with_reducible exact H2_) | (have H2_ := (Option.bind_some _ _).symm.trans H; with_reducible exact H2_) | with_reducible exact H | (rw [ah]; exact H) | exact H
        have Ny810 := zK ah; clear ah; have H' := zK H; clear H
        have au : 0 ≤ (aa : Int) := of_decide_eq_true (by first | (with_reducible assumption) | assumption)
        have av : aa < (l0.length : Int) := of_decide_eq_true (by first | (with_reducible assumption) | assumption)
        obtain ⟨ad807, e807, ad, ae⟩ := at_T100 HR0.out aa au av
        cases e807
        replace ad := (HB.out.cell (World.block_lt_of_cell? w _ ad)).trans ad
        replace ae := (HB.out.cell (World.block_lt_of_cell? w _ ae)).trans ae
        replace au := eq_true au; replace av := eq_true av
        go_wp2_with (first | ((with_reducible refine gate_callee (f := 88) rfl ?_); refine goesL_ (some 20) rfl rfl Try.func88 (by kernel_rfl) rfl #[.agg #[.int .i64 ((rd_T100 l0 aa).f0), .int .i64 ((rd_T100 l0 aa).f1)]] rfl (by (try simp only [List.map_toArray, List.map_cons, List.map_nil]); first | done | rfl | (simp only [List.length_drop, List.length_take]; rfl)) ?_; (with_reducible refine (laws_toSight.calls ((rd_T100 l0 aa).f0) ((rd_T100 l0 aa).f1) ai aj _ A8.out).mono ?_); rintro e aw ⟨rfl, hb⟩; refine ⟨_, rfl, ?_⟩; have ao := zK (Kd.R_below (zR ac) hb); have ap := zK (below_step (zb HB) hb); clear ac; clear HB; have ac := ao; have HB := ap; clear ao ap; (try clear hb); (try clear hk); have p10 : 0 ≤ (aa : Int) := of_decide_eq_true (by first | (with_reducible assumption) | assumption); have q10 : (aa : Int) < ((ab.length : Int) : Int) := of_decide_eq_true (by first | (with_reducible assumption) | assumption); obtain ⟨af, aE, aF, aG, gl10, cl10, aH⟩ := Kd.R_form ac.out (by omega); (first | cases aF | (injection aF with ea_ en_ ec_; (first | subst ea_ | (injection ea_ with ea_; subst ea_)); subst ec_; clear en_)); have aI := zK aG; have GG10 := zK aH; clear aG gl10 aH; obtain ⟨ce10, aJ, aK, al, am⟩ := Kd.R_elem ac.out z89 (aa : Int) p10 q10; obtain rfl := k89_openM aK; have hx10_0 : aw.cell? ⟨af, (aa : Int).toNat * 2, none⟩ = some (.int .i64 ((rd_T89 ab aa).f0)) := al 0 _ rfl; have hx10_1 : aw.cell? ⟨af, (aa : Int).toNat * 2 + 1, none⟩ = some (.int .i64 ((rd_T89 ab aa).f1)) := al 1 _ rfl; have hf10_0 : aw.frozen? ⟨af, (aa : Int).toNat * 2, none⟩ = false := am 0; have hf10_1 : aw.frozen? ⟨af, (aa : Int).toNat * 2 + 1, none⟩ = false := am 1; clear aJ al am; (try clear aK); replace p10 := eq_true p10; replace q10 := eq_true q10; have aL := zK (show Kd.R k89 89 aw w.heap.size (fun _ => True) (.slice (some ⟨af, 0, none⟩) ab.length aE) ab from (zR ac)); obtain ⟨ce12, aq, aM, ak, an⟩ := Kd.R_elem aL.out z89 (aa : Int) (of_decide_eq_true (by first | (with_reducible assumption) | assumption)) (by have h_ : (aa : Int) < ((ab.length : Int) : Int) := of_decide_eq_true (by first | (with_reducible assumption) | assumption); first | exact h_ | (have e_ := (Kd.R_reads' ac.out).1; omega) | simpa using h_); obtain rfl := k89_openM aM; have ax := Kd.R_seg aL.out (aa : Int) (of_decide_eq_true (by first | (with_reducible assumption) | assumption)) (by have h_ : (aa : Int) < ((ab.length : Int) : Int) := of_decide_eq_true (by first | (with_reducible assumption) | assumption); first | exact h_ | (have e_ := (Kd.R_reads' ac.out).1; omega) | simpa using h_) (seg := [.int .i64 ai, .int .i64 aj]) (j := 0) aq ak (show 2 ≤ 2 from by decide) (x' := (⟨ai, aj⟩ : S89)) (k89_mkM _ _ _ (⟨ai, aj⟩ : S89) ) (fun _ hk => hk); have ay := ak 0 _ rfl; (try simp only [show (k89).sz = 2 from rfl, Nat.mul_one, Nat.add_zero] at ay); have az := an 0; (try simp only [show (k89).sz = 2 from rfl, Nat.mul_one, Nat.add_zero] at az); have aA := ak 1 _ rfl; (try simp only [show (k89).sz = 2 from rfl, Nat.mul_one, Nat.add_zero] at aA); have aB := an 1; (try simp only [show (k89).sz = 2 from rfl, Nat.mul_one, Nat.add_zero] at aB); clear aq ak an; (try clear aM)) | ((with_reducible refine gate_store (t := 89) (p := 21) rfl ?_); refine store_event (t := 89) (p := 21) (v := ?vo_w13) (w1 := ((aw.setCell ⟨af, (aa : Int).toNat * 2, none⟩ (.int .i64 ai)).setCell ⟨af, (aa : Int).toNat * 2 + 1, none⟩ (.int .i64 aj))) ?hg ?ho ?hn ?hr ?_; (case ho => rfl); (case hg => rfl); (case hn => rfl); (case hr => first | (go_simp; done) | (go_simp; rfl)); intro w13 hw; have hg : aw.grownBy w13 (some af) := (by rw [hw]; exact ax.2); have hp_ : Kd.R k89 89 w13 w.heap.size (fun _ => True) (.slice (some ⟨af, 0, none⟩) ab.length aE) ar := (by rw [hw, Ny810.out]; exact ax.1); clear ax; have ao := zK (hp_); have ap := zK ((by rw [hw]; exact zS (zS (HB.out) aI.out) aI.out : Below w.heap.size w w13)); clear ac; clear HB; have ac := ao; have HB := ap; clear ao ap; clear hg hw hp_))
        go_roundg k1
        case measure => have := HK1.out; omega
        case rel => exact ⟨(ar), (wrap64 (aa + 1)), (by first | rfl | (simp; done) | (simp [*]; done)), H', ⟨by have := HK1.out; omega⟩, ⟨zR ac⟩, ⟨zb HB⟩⟩
       ·rw [if_neg c9] at H
        exact absurd H (by simp)
      ·rw [if_neg c7] at H
       exact absurd H (by simp)
     ·rw [if_neg c6] at H
      have c6b0 : decide (aa < (l0.length : Int)) = false := decide_eq_false c6
      clear c6; obtain rfl := Option.some.inj H
      go_wp2
      go_ret
      exact ⟨_, by first | rfl | (simp [errW_none, errW_some] <;> rfl) | (simp [*, errW_none, errW_some] <;> rfl), by (with_reducible repeat (first | apply Kd.R_alloc | apply Kd.R_drewN | apply Kd.R_drew)); exact ac.out, by repeat (first | (with_reducible first | exact HB.out | apply zB | apply zC | apply zE) | exact HB.out)⟩
  ·rw [if_neg c3] at H
   exact absurd H (by simp)
 ·rw [if_neg c2] at H
  exact absurd H (by simp)
def laws_eqExpect.f (a0_0 : Int) (a0_1 : Int) (a0_2 : Int) (a1_0 : Int) (a1_1 : Int) (a1_2 : Int) : Option (Bool) := if a0_0 = a1_0 then (if a0_1 = a1_1 then (if a0_2 = a1_2 then (some true) else (some false)) else (some false)) else (some false)
set_option maxHeartbeats 8000000 in
set_option maxRecDepth 100000 in
theorem laws_eqExpect.calls (a0_0 : Int) (a0_1 : Int) (a0_2 : Int) (a1_0 : Int) (a1_1 : Int) (a1_2 : Int) (r : Bool) (w : World) (h : laws_eqExpect.f a0_0 a0_1 a0_2 a1_0 a1_1 a1_2 = some r) :
  Calls Try.prog 91 #[.agg #[.int .i64 a0_0, .int .i64 a0_1, .int .i64 a0_2], .agg #[.int .i64 a1_0, .int .i64 a1_1, .int .i64 a1_2]] w fun e w' => e = .returned (.bool r) ∧ Below w.heap.size w w' := by
 have hu52 := Try.underlying52
 have HB := zK (Below.refl w.heap.size w)
 have H : (if a0_0 = a1_0 then (if a0_1 = a1_1 then (if a0_2 = a1_2 then (some true) else (some false)) else (some false)) else (some false)) = some r := h
 clear h
 by_cases c3 : a0_0 = a1_0
 ·rw [if_pos c3] at H
  have c3b0 : (a0_0 == a1_0) = true := beq_iff_eq.mpr c3
  have c3b1 : (a0_0 != a1_0) = false := bne_eq_false_iff_eq.mpr c3
  clear c3
  by_cases c4 : a0_1 = a1_1
  ·rw [if_pos c4] at H
   have c4b0 : (a0_1 == a1_1) = true := beq_iff_eq.mpr c4
   have c4b1 : (a0_1 != a1_1) = false := bne_eq_false_iff_eq.mpr c4
   clear c4
   by_cases c5 : a0_2 = a1_2
   ·rw [if_pos c5] at H
    have c5b0 : (a0_2 == a1_2) = true := beq_iff_eq.mpr c5
    have c5b1 : (a0_2 != a1_2) = false := bne_eq_false_iff_eq.mpr c5
    clear c5; obtain rfl := Option.some.inj H
    go_enter Try.func91, Try.ntmps91
    go_wp2_with (first | ((with_reducible refine gate_dst (N := 2) rfl ?_); refine box_event ?hg (N := 2) ?hd (cs := #[.int .i64 a0_0, .int .i64 a0_1, .int .i64 a0_2]) (t := 52) ?hr ?_; (case hd => rfl); (case hg => rfl); (case hr => first | (go_simp; done) | (go_simp; rfl)); intro ab hg w6 hbox hb; have ah := zK (below_step (zb HB) hb); have ai := zK (hbox); have aj := zK ((by rw [hg]; exact (below_size (zb HB)) : w.heap.size ≤ ab)); have ak := zK ((by rw [hg]; exact (below_size (zb HB)) : w.heap.size ≤ ab)); clear HB; have HB := ah; have aa := ai; have am := aj; have ae := ak; clear ah ai aj ak; clear hb hbox hg) | ((with_reducible refine gate_dst (N := 3) rfl ?_); refine box_event ?hg (N := 3) ?hd (cs := #[.int .i64 a1_0, .int .i64 a1_1, .int .i64 a1_2]) (t := 52) ?hr ?_; (case hd => rfl); (case hg => rfl); (case hr => first | (go_simp; done) | (go_simp; rfl)); intro ac hg w7 hbox hb; have ah := zK (blk_below (g := ab) (o := .cells #[.int .i64 a0_0, .int .i64 a0_1, .int .i64 a0_2] 52 (0, 0)) (zk aa) hb); have ai := zK (below_step (zb HB) hb); have aj := zK (hbox); have ak := zK ((by rw [hg]; exact (below_size (zb HB)) : w.heap.size ≤ ac)); have an := zK ((by rw [hg]; exact (below_size (zb HB)) : w.heap.size ≤ ac)); have ao := zK ((by rw [hg]; exact Nat.ne_of_lt (blk_lt (g := ab) (o := .cells #[.int .i64 a0_0, .int .i64 a0_1, .int .i64 a0_2] 52 (0, 0)) (zk aa)) : ab ≠ ac)); have ap := zK ((by rw [hg]; exact Nat.ne_of_gt (blk_lt (g := ab) (o := .cells #[.int .i64 a0_0, .int .i64 a0_1, .int .i64 a0_2] 52 (0, 0)) (zk aa)) : ac ≠ ab)); clear aa; clear HB; have aa := ah; have HB := ai; have ad := aj; have aq := ak; have al := an; have af := ao; have ag := ap; clear ah ai aj ak an ao ap; clear hb hbox hg; have hnb8 := af.out; have hnc8 := ag.out; have hcz9_0 : w7.cell? ⟨ab, 0, none⟩ = some (.int .i64 a0_0) := (blk_cell aa.out 0).trans rfl; have hcz9_1 : w7.cell? ⟨ab, 1, none⟩ = some (.int .i64 a0_1) := (blk_cell aa.out 1).trans rfl; have hcz9_2 : w7.cell? ⟨ab, 2, none⟩ = some (.int .i64 a0_2) := (blk_cell aa.out 2).trans rfl; have hfz9_0 := blk_frozen aa.out 0; have hfz9_1 := blk_frozen aa.out 1; have hfz9_2 := blk_frozen aa.out 2; have hcz10_0 : w7.cell? ⟨ac, 0, none⟩ = some (.int .i64 a1_0) := (blk_cell ad.out 0).trans rfl; have hcz10_1 : w7.cell? ⟨ac, 1, none⟩ = some (.int .i64 a1_1) := (blk_cell ad.out 1).trans rfl; have hcz10_2 : w7.cell? ⟨ac, 2, none⟩ = some (.int .i64 a1_2) := (blk_cell ad.out 2).trans rfl; have hfz10_0 := blk_frozen ad.out 0; have hfz10_1 := blk_frozen ad.out 1; have hfz10_2 := blk_frozen ad.out 2))
    go_ret
    exact ⟨by first | rfl | (simp [errW_none, errW_some] <;> rfl) | (simp [*, errW_none, errW_some] <;> rfl), by repeat (first | (with_reducible first | exact HB.out | apply zB | apply zC | apply zE | refine zS ?_ ae.out | refine zS ?_ al.out) | exact HB.out)⟩
   ·rw [if_neg c5] at H
    have c5b0 : (a0_2 == a1_2) = false := beq_eq_false_iff_ne.mpr c5
    have c5b1 : (a0_2 != a1_2) = true := bne_iff_ne.mpr c5
    obtain rfl := Option.some.inj H
    go_enter Try.func91, Try.ntmps91
    go_wp2_with (first | ((with_reducible refine gate_dst (N := 2) rfl ?_); refine box_event ?hg (N := 2) ?hd (cs := #[.int .i64 a0_0, .int .i64 a0_1, .int .i64 a0_2]) (t := 52) ?hr ?_; (case hd => rfl); (case hg => rfl); (case hr => first | (go_simp; done) | (go_simp; rfl)); intro ab hg w11 hbox hb; have ah := zK (below_step (zb HB) hb); have ai := zK (hbox); have aj := zK ((by rw [hg]; exact (below_size (zb HB)) : w.heap.size ≤ ab)); have ak := zK ((by rw [hg]; exact (below_size (zb HB)) : w.heap.size ≤ ab)); clear HB; have HB := ah; have aa := ai; have am := aj; have ae := ak; clear ah ai aj ak; clear hb hbox hg) | ((with_reducible refine gate_dst (N := 3) rfl ?_); refine box_event ?hg (N := 3) ?hd (cs := #[.int .i64 a1_0, .int .i64 a1_1, .int .i64 a1_2]) (t := 52) ?hr ?_; (case hd => rfl); (case hg => rfl); (case hr => first | (go_simp; done) | (go_simp; rfl)); intro ac hg ar hbox hb; have ah := zK (blk_below (g := ab) (o := .cells #[.int .i64 a0_0, .int .i64 a0_1, .int .i64 a0_2] 52 (0, 0)) (zk aa) hb); have ai := zK (below_step (zb HB) hb); have aj := zK (hbox); have ak := zK ((by rw [hg]; exact (below_size (zb HB)) : w.heap.size ≤ ac)); have an := zK ((by rw [hg]; exact (below_size (zb HB)) : w.heap.size ≤ ac)); have ao := zK ((by rw [hg]; exact Nat.ne_of_lt (blk_lt (g := ab) (o := .cells #[.int .i64 a0_0, .int .i64 a0_1, .int .i64 a0_2] 52 (0, 0)) (zk aa)) : ab ≠ ac)); have ap := zK ((by rw [hg]; exact Nat.ne_of_gt (blk_lt (g := ab) (o := .cells #[.int .i64 a0_0, .int .i64 a0_1, .int .i64 a0_2] 52 (0, 0)) (zk aa)) : ac ≠ ab)); clear aa; clear HB; have aa := ah; have HB := ai; have ad := aj; have aq := ak; have al := an; have af := ao; have ag := ap; clear ah ai aj ak an ao ap; clear hb hbox hg; have hnb13 := af.out; have hnc13 := ag.out; have hcz14_0 : ar.cell? ⟨ab, 0, none⟩ = some (.int .i64 a0_0) := (blk_cell aa.out 0).trans rfl; have hcz14_1 : ar.cell? ⟨ab, 1, none⟩ = some (.int .i64 a0_1) := (blk_cell aa.out 1).trans rfl; have hcz14_2 : ar.cell? ⟨ab, 2, none⟩ = some (.int .i64 a0_2) := (blk_cell aa.out 2).trans rfl; have hfz14_0 := blk_frozen aa.out 0; have hfz14_1 := blk_frozen aa.out 1; have hfz14_2 := blk_frozen aa.out 2; have hcz15_0 : ar.cell? ⟨ac, 0, none⟩ = some (.int .i64 a1_0) := (blk_cell ad.out 0).trans rfl; have hcz15_1 : ar.cell? ⟨ac, 1, none⟩ = some (.int .i64 a1_1) := (blk_cell ad.out 1).trans rfl; have hcz15_2 : ar.cell? ⟨ac, 2, none⟩ = some (.int .i64 a1_2) := (blk_cell ad.out 2).trans rfl; have hfz15_0 := blk_frozen ad.out 0; have hfz15_1 := blk_frozen ad.out 1; have hfz15_2 := blk_frozen ad.out 2))
    go_ret
    exact ⟨by first | rfl | (simp [errW_none, errW_some] <;> rfl) | (simp [*, errW_none, errW_some] <;> rfl), by repeat (first | (with_reducible first | exact HB.out | apply zB | apply zC | apply zE | refine zS ?_ ae.out | refine zS ?_ al.out) | exact HB.out)⟩
  ·rw [if_neg c4] at H
   have c4b0 : (a0_1 == a1_1) = false := beq_eq_false_iff_ne.mpr c4
   have c4b1 : (a0_1 != a1_1) = true := bne_iff_ne.mpr c4
   obtain rfl := Option.some.inj H
   go_enter Try.func91, Try.ntmps91
   go_wp2_with (first | ((with_reducible refine gate_dst (N := 2) rfl ?_); refine box_event ?hg (N := 2) ?hd (cs := #[.int .i64 a0_0, .int .i64 a0_1, .int .i64 a0_2]) (t := 52) ?hr ?_; (case hd => rfl); (case hg => rfl); (case hr => first | (go_simp; done) | (go_simp; rfl)); intro ab hg w16 hbox hb; have ah := zK (below_step (zb HB) hb); have ai := zK (hbox); have aj := zK ((by rw [hg]; exact (below_size (zb HB)) : w.heap.size ≤ ab)); have ak := zK ((by rw [hg]; exact (below_size (zb HB)) : w.heap.size ≤ ab)); clear HB; have HB := ah; have aa := ai; have am := aj; have ae := ak; clear ah ai aj ak; clear hb hbox hg) | ((with_reducible refine gate_dst (N := 3) rfl ?_); refine box_event ?hg (N := 3) ?hd (cs := #[.int .i64 a1_0, .int .i64 a1_1, .int .i64 a1_2]) (t := 52) ?hr ?_; (case hd => rfl); (case hg => rfl); (case hr => first | (go_simp; done) | (go_simp; rfl)); intro ac hg au hbox hb; have ah := zK (blk_below (g := ab) (o := .cells #[.int .i64 a0_0, .int .i64 a0_1, .int .i64 a0_2] 52 (0, 0)) (zk aa) hb); have ai := zK (below_step (zb HB) hb); have aj := zK (hbox); have ak := zK ((by rw [hg]; exact (below_size (zb HB)) : w.heap.size ≤ ac)); have an := zK ((by rw [hg]; exact (below_size (zb HB)) : w.heap.size ≤ ac)); have ao := zK ((by rw [hg]; exact Nat.ne_of_lt (blk_lt (g := ab) (o := .cells #[.int .i64 a0_0, .int .i64 a0_1, .int .i64 a0_2] 52 (0, 0)) (zk aa)) : ab ≠ ac)); have ap := zK ((by rw [hg]; exact Nat.ne_of_gt (blk_lt (g := ab) (o := .cells #[.int .i64 a0_0, .int .i64 a0_1, .int .i64 a0_2] 52 (0, 0)) (zk aa)) : ac ≠ ab)); clear aa; clear HB; have aa := ah; have HB := ai; have ad := aj; have aq := ak; have al := an; have af := ao; have ag := ap; clear ah ai aj ak an ao ap; clear hb hbox hg; have hnb18 := af.out; have hnc18 := ag.out; have hcz19_0 : au.cell? ⟨ab, 0, none⟩ = some (.int .i64 a0_0) := (blk_cell aa.out 0).trans rfl; have hcz19_1 : au.cell? ⟨ab, 1, none⟩ = some (.int .i64 a0_1) := (blk_cell aa.out 1).trans rfl; have hcz19_2 : au.cell? ⟨ab, 2, none⟩ = some (.int .i64 a0_2) := (blk_cell aa.out 2).trans rfl; have hfz19_0 := blk_frozen aa.out 0; have hfz19_1 := blk_frozen aa.out 1; have hfz19_2 := blk_frozen aa.out 2; have hcz20_0 : au.cell? ⟨ac, 0, none⟩ = some (.int .i64 a1_0) := (blk_cell ad.out 0).trans rfl; have hcz20_1 : au.cell? ⟨ac, 1, none⟩ = some (.int .i64 a1_1) := (blk_cell ad.out 1).trans rfl; have hcz20_2 : au.cell? ⟨ac, 2, none⟩ = some (.int .i64 a1_2) := (blk_cell ad.out 2).trans rfl; have hfz20_0 := blk_frozen ad.out 0; have hfz20_1 := blk_frozen ad.out 1; have hfz20_2 := blk_frozen ad.out 2))
   go_ret
   exact ⟨by first | rfl | (simp [errW_none, errW_some] <;> rfl) | (simp [*, errW_none, errW_some] <;> rfl), by repeat (first | (with_reducible first | exact HB.out | apply zB | apply zC | apply zE | refine zS ?_ ae.out | refine zS ?_ al.out) | exact HB.out)⟩
 ·rw [if_neg c3] at H
  have c3b0 : (a0_0 == a1_0) = false := beq_eq_false_iff_ne.mpr c3
  have c3b1 : (a0_0 != a1_0) = true := bne_iff_ne.mpr c3
  obtain rfl := Option.some.inj H
  go_enter Try.func91, Try.ntmps91
  go_wp2_with (first | ((with_reducible refine gate_dst (N := 2) rfl ?_); refine box_event ?hg (N := 2) ?hd (cs := #[.int .i64 a0_0, .int .i64 a0_1, .int .i64 a0_2]) (t := 52) ?hr ?_; (case hd => rfl); (case hg => rfl); (case hr => first | (go_simp; done) | (go_simp; rfl)); intro ab hg w21 hbox hb; have ah := zK (below_step (zb HB) hb); have ai := zK (hbox); have aj := zK ((by rw [hg]; exact (below_size (zb HB)) : w.heap.size ≤ ab)); have ak := zK ((by rw [hg]; exact (below_size (zb HB)) : w.heap.size ≤ ab)); clear HB; have HB := ah; have aa := ai; have am := aj; have ae := ak; clear ah ai aj ak; clear hb hbox hg) | ((with_reducible refine gate_dst (N := 3) rfl ?_); refine box_event ?hg (N := 3) ?hd (cs := #[.int .i64 a1_0, .int .i64 a1_1, .int .i64 a1_2]) (t := 52) ?hr ?_; (case hd => rfl); (case hg => rfl); (case hr => first | (go_simp; done) | (go_simp; rfl)); intro ac hg av hbox hb; have ah := zK (blk_below (g := ab) (o := .cells #[.int .i64 a0_0, .int .i64 a0_1, .int .i64 a0_2] 52 (0, 0)) (zk aa) hb); have ai := zK (below_step (zb HB) hb); have aj := zK (hbox); have ak := zK ((by rw [hg]; exact (below_size (zb HB)) : w.heap.size ≤ ac)); have an := zK ((by rw [hg]; exact (below_size (zb HB)) : w.heap.size ≤ ac)); have ao := zK ((by rw [hg]; exact Nat.ne_of_lt (blk_lt (g := ab) (o := .cells #[.int .i64 a0_0, .int .i64 a0_1, .int .i64 a0_2] 52 (0, 0)) (zk aa)) : ab ≠ ac)); have ap := zK ((by rw [hg]; exact Nat.ne_of_gt (blk_lt (g := ab) (o := .cells #[.int .i64 a0_0, .int .i64 a0_1, .int .i64 a0_2] 52 (0, 0)) (zk aa)) : ac ≠ ab)); clear aa; clear HB; have aa := ah; have HB := ai; have ad := aj; have aq := ak; have al := an; have af := ao; have ag := ap; clear ah ai aj ak an ao ap; clear hb hbox hg; have hnb23 := af.out; have hnc23 := ag.out; have hcz24_0 : av.cell? ⟨ab, 0, none⟩ = some (.int .i64 a0_0) := (blk_cell aa.out 0).trans rfl; have hcz24_1 : av.cell? ⟨ab, 1, none⟩ = some (.int .i64 a0_1) := (blk_cell aa.out 1).trans rfl; have hcz24_2 : av.cell? ⟨ab, 2, none⟩ = some (.int .i64 a0_2) := (blk_cell aa.out 2).trans rfl; have hfz24_0 := blk_frozen aa.out 0; have hfz24_1 := blk_frozen aa.out 1; have hfz24_2 := blk_frozen aa.out 2; have hcz25_0 : av.cell? ⟨ac, 0, none⟩ = some (.int .i64 a1_0) := (blk_cell ad.out 0).trans rfl; have hcz25_1 : av.cell? ⟨ac, 1, none⟩ = some (.int .i64 a1_1) := (blk_cell ad.out 1).trans rfl; have hcz25_2 : av.cell? ⟨ac, 2, none⟩ = some (.int .i64 a1_2) := (blk_cell ad.out 2).trans rfl; have hfz25_0 := blk_frozen ad.out 0; have hfz25_1 := blk_frozen ad.out 1; have hfz25_2 := blk_frozen ad.out 2))
  go_ret
  exact ⟨by first | rfl | (simp [errW_none, errW_some] <;> rfl) | (simp [*, errW_none, errW_some] <;> rfl), by repeat (first | (with_reducible first | exact HB.out | apply zB | apply zC | apply zE | refine zS ?_ ae.out | refine zS ?_ al.out) | exact HB.out)⟩
def laws_eqExpectS.l0 : Nat → List (S52) → List (S52) → Int → Option (Bool)
 | 0, _, _, _ => none
 | k + 1, x0, x1, x5 => if x5 < (x0.length : Int) then (if 0 ≤ x5 then (if x5 < (x1.length : Int) then ((laws_eqExpect.f ((rd_T52 x0 x5).f0) ((rd_T52 x0 x5).f1) ((rd_T52 x0 x5).f2) ((rd_T52 x1 x5).f0) ((rd_T52 x1 x5).f1) ((rd_T52 x1 x5).f2)).bind fun t815 => (if t815 = true then (laws_eqExpectS.l0 k x0 x1 (wrap64 (x5 + 1))) else (some false))) else (none)) else (none)) else (some true)
def laws_eqExpectS.f (k : Nat) (l0 : List (S52)) (l1 : List (S52)) : Option (Bool) := if (l0.length : Int) = (l1.length : Int) then (laws_eqExpectS.l0 k l0 l1 0) else (some false)
def laws_eqExpectS.T6 : Bool × List (List Nat × List Nat) := (true, [([], []), ([], []), ([0, 1], [0, 1]), ([2], [2]), ([], []), ([], []), ([4, 5], [4, 5]), ([6], [6]), ([3, 7], [3, 7]), ([8], [8])])
def laws_eqExpectS.B6 : List Nat := [0, 0, 3, 7, 0, 0, 48, 112, 255, 511]
theorem laws_eqExpectS.tab6 : rtab .any (opsOf Try.f49 6) = laws_eqExpectS.T6 := by kernel_rfl
theorem laws_eqExpectS.bits6 : waitsOk laws_eqExpectS.T6.2 laws_eqExpectS.B6 = true := by kernel_rfl
set_option maxHeartbeats 8000000 in
set_option maxRecDepth 100000 in
theorem laws_eqExpectS.calls (k : Nat) (A0 : Option Addr) (c0 : Nat) (l0 : List (S52)) (A1 : Option Addr) (c1 : Nat) (l1 : List (S52)) (r : Bool) (w : World) (hr0 : Kd.C k52 w A0 l0.length l0) (hc0 : l0.length ≤ c0) (hr1 : Kd.C k52 w A1 l1.length l1) (hc1 : l1.length ≤ c1) (h : laws_eqExpectS.f k l0 l1 = some r) :
  Calls Try.prog 49 #[.slice A0 l0.length c0, .slice A1 l1.length c1] w fun e w' => e = .returned (.bool r) ∧ Below w.heap.size w w' := by
 have hu52 := Try.underlying52; have HR0 := zK hr0; have HC0 := zK hc0; clear hr0 hc0; have HR1 := zK hr1; have HC1 := zK hc1; clear hr1 hc1
 have HB := zK (Below.refl w.heap.size w)
 have H : (if (l0.length : Int) = (l1.length : Int) then (laws_eqExpectS.l0 k l0 l1 0) else (some false)) = some r := h
 clear h
 by_cases c3 : (l0.length : Int) = (l1.length : Int)
 ·rw [if_pos c3] at H
  have ay : ((l0.length : Int) == (l1.length : Int)) = true := beq_iff_eq.mpr c3
  have az : ((l0.length : Int) != (l1.length : Int)) = false := bne_eq_false_iff_eq.mpr c3
  have aA : (l0.length == l1.length) = true := by first | simpa using c3 | (simp at c3 ⊢; omega)
  clear c3; have H' := zK H; clear H
  go_enter Try.func49, Try.ntmps49
  go_wp2
  go_loopg [5] k (fun kq v5 w' => ∃ (aa : Int), v5 = .int .i64 aa ∧ Aside0 (laws_eqExpectS.l0 kq l0 l1 aa = some r) ∧ Aside0 (kq ≤ k) ∧ Aside0 (Below w.heap.size w w'))
  case atStart => exact ⟨(0), (by first | rfl | (simp; done) | (simp [*]; done)), H', ⟨Nat.le_refl _⟩, ⟨zb HB⟩⟩
  case round =>
   clear H'
   try clear c1
   try clear p2
   try clear c3
   try clear ay
   try clear az
   try clear aA
   obtain ⟨aa, rfl, HA, HK1, HB⟩ := hrel
   cases gk with
   | zero => exact absurd HA.out (by simp [laws_eqExpectS.l0])
   | succ k1 =>
    have H := HA.out; clear HA
    simp only [laws_eqExpectS.l0] at H
    by_cases c4 : aa < (l0.length : Int)
    ·rw [if_pos c4] at H
     have c4b0 : decide (aa < (l0.length : Int)) = true := decide_eq_true c4
     clear c4
     by_cases c5 : 0 ≤ aa
     ·rw [if_pos c5] at H
      have c5b0 : decide (0 ≤ aa) = true := decide_eq_true c5
      clear c5
      by_cases c6 : aa < (l1.length : Int)
      ·rw [if_pos c6] at H
       have c6b0 : decide (aa < (l1.length : Int)) = true := decide_eq_true c6
       clear c6; replace H := Option.bind_eq_some_iff.mp H
       obtain ⟨aB, A70, H⟩ := H
       replace H : (if aB = true then (laws_eqExpectS.l0 k1 l0 l1 (wrap64 (aa + 1))) else (some false)) = some r := H
       have A7 := zK A70; clear A70
       by_cases c8 : aB = true
       ·subst c8
        have H1 : (laws_eqExpectS.l0 k1 l0 l1 (wrap64 (aa + 1))) = some r := by rw [if_pos rfl] at H; exact H
        clear H; have H := H1; clear H1; have H' := zK H; clear H
        try go_wp2
        have av := zK (zE HB.out)
        clear HB; have HB := av; clear av
        have ap : 0 ≤ (aa : Int) := of_decide_eq_true (by first | (with_reducible assumption) | assumption)
        have aq : aa < (l0.length : Int) := of_decide_eq_true (by first | (with_reducible assumption) | assumption)
        obtain ⟨an, aw, ab, ac, ad⟩ := at_T52 HR0.out aa ap aq
        have ah := ad; have ai := ac; have aj := ab
        cases aw
        replace ab := (HB.out.cell (World.block_lt_of_cell? w _ ab)).trans ab
        replace ac := (HB.out.cell (World.block_lt_of_cell? w _ ac)).trans ac
        replace ad := (HB.out.cell (World.block_lt_of_cell? w _ ad)).trans ad
        replace ap := eq_true ap; replace aq := eq_true aq
        have ar : 0 ≤ (aa : Int) := of_decide_eq_true (by first | (with_reducible assumption) | assumption)
        have au : aa < (l1.length : Int) := of_decide_eq_true (by first | (with_reducible assumption) | assumption)
        obtain ⟨ao, ax, ae, af, ag⟩ := at_T52 HR1.out aa ar au
        have ak := ag; have al := af; have am := ae
        cases ax
        replace ae := (HB.out.cell (World.block_lt_of_cell? w _ ae)).trans ae
        replace af := (HB.out.cell (World.block_lt_of_cell? w _ af)).trans af
        replace ag := (HB.out.cell (World.block_lt_of_cell? w _ ag)).trans ag
        replace ar := eq_true ar; replace au := eq_true au
        refine start_ (n := 10) (S := fun w' => w'.cell? (an.add ((aa).toNat * 3)) = some (.int .i64 ((rd_T52 l0 aa).f0)) ∧ w'.cell? ⟨(an.add ((aa).toNat * 3)).block, (an.add ((aa).toNat * 3)).off + 1, none⟩ = some (.int .i64 ((rd_T52 l0 aa).f1)) ∧ w'.cell? ⟨(an.add ((aa).toNat * 3)).block, (an.add ((aa).toNat * 3)).off + 2, none⟩ = some (.int .i64 ((rd_T52 l0 aa).f2)) ∧ w'.cell? (ao.add ((aa).toNat * 3)) = some (.int .i64 ((rd_T52 l1 aa).f0)) ∧ w'.cell? ⟨(ao.add ((aa).toNat * 3)).block, (ao.add ((aa).toNat * 3)).off + 1, none⟩ = some (.int .i64 ((rd_T52 l1 aa).f1)) ∧ w'.cell? ⟨(ao.add ((aa).toNat * 3)).block, (ao.add ((aa).toNat * 3)).off + 2, none⟩ = some (.int .i64 ((rd_T52 l1 aa).f2))) (ds := []) #[ff, ff, ff, ff, ff, ff, ff, ff, ff, ff] (by kernel_rfl) rfl rfl ⟨((HB.out.cell (World.block_lt_of_cell? w _ aj)).trans aj), ((HB.out.cell (World.block_lt_of_cell? w _ ai)).trans ai), ((HB.out.cell (World.block_lt_of_cell? w _ ah)).trans ah), ((HB.out.cell (World.block_lt_of_cell? w _ am)).trans am), ((HB.out.cell (World.block_lt_of_cell? w _ al)).trans al), ((HB.out.cell (World.block_lt_of_cell? w _ ak)).trans ak)⟩ (fun hHeld => ?_); refine with_tabW laws_eqExpectS.tab6 laws_eqExpectS.bits6 (fun HT_ HW_ => ?_)
        generalize wr.drew = w9 at HB ab ac ad ae af ag hHeld ⊢
        refine zu 0 (some 17) #[tt, ff, ff, ff, ff, ff, ff, ff, ff, ff] (any_of HT_.out (by kernel_rfl)) ?_
        refine zu 1 (some 18) #[tt, tt, ff, ff, ff, ff, ff, ff, ff, ff] (any_of HT_.out (by kernel_rfl)) ?_
        refine zu 2 (some 19) #[tt, tt, tt, ff, ff, ff, ff, ff, ff, ff] (any_of HT_.out (by kernel_rfl)) ?_
        refine zu 4 (some 21) #[tt, tt, tt, ff, tt, ff, ff, ff, ff, ff] (any_of HT_.out (by kernel_rfl)) ?_
        refine zu 5 (some 22) #[tt, tt, tt, ff, tt, tt, ff, ff, ff, ff] (any_of HT_.out (by kernel_rfl)) ?_
        refine zu 6 (some 23) #[tt, tt, tt, ff, tt, tt, tt, ff, ff, ff] (any_of HT_.out (by kernel_rfl)) ?_
        refine zt 3 (some 20) #[tt, tt, tt, tt, tt, tt, tt, ff, ff, ff] (take_ofW HT_.out HW_.out (by kernel_rfl)) hHeld ?_
        refine zt 7 (some 24) #[tt, tt, tt, tt, tt, tt, tt, tt, ff, ff] (take_ofW HT_.out HW_.out (by kernel_rfl)) hHeld ?_
        refine one_ (i := 8) (N := some 25) #[tt, tt, tt, tt, tt, tt, tt, tt, tt, ff] rfl rfl (one_of HT_.out (by kernel_rfl)) (by decide) (fun K hK => ?_)
        refine goes_ Try.func91 (by kernel_rfl) rfl #[.agg #[.int .i64 ((rd_T52 l0 aa).f0), .int .i64 ((rd_T52 l0 aa).f1), .int .i64 ((rd_T52 l0 aa).f2)], .agg #[.int .i64 ((rd_T52 l1 aa).f0), .int .i64 ((rd_T52 l1 aa).f1), .int .i64 ((rd_T52 l1 aa).f2)]] (by rfl) rfl rfl (by (try simp only [List.map_toArray, List.map_cons, List.map_nil]); first | done | rfl | (simp only [List.length_drop, List.length_take]; rfl)) ?_
        with_reducible refine (laws_eqExpect.calls ((rd_T52 l0 aa).f0) ((rd_T52 l0 aa).f1) ((rd_T52 l0 aa).f2) ((rd_T52 l1 aa).f0) ((rd_T52 l1 aa).f1) ((rd_T52 l1 aa).f2) true _ A7.out).mono ?_
        rintro e w10 ⟨rfl, hb⟩
        refine ⟨_, rfl, ?_⟩
        have av := zK (below_step (zb HB) hb)
        clear HB; have HB := av; clear av; (try clear hb); (try clear hb2); (try clear hk); (try clear hi)
        refine hK.out _ _ ⟨((HB.out.cell (World.block_lt_of_cell? w _ aj)).trans aj), ((HB.out.cell (World.block_lt_of_cell? w _ ai)).trans ai), ((HB.out.cell (World.block_lt_of_cell? w _ ah)).trans ah), ((HB.out.cell (World.block_lt_of_cell? w _ am)).trans am), ((HB.out.cell (World.block_lt_of_cell? w _ al)).trans al), ((HB.out.cell (World.block_lt_of_cell? w _ ak)).trans ak)⟩ (fun hHeld => ?_)
        clear hK K
        refine norm_ (a' := ?_) ?_ ?_
        rotate_left
        ·show Act.put _ (some 25) _ = _
         simp only [Act.put, zp, zq, zr, i64_w, i32_w]
         rfl
        refine zu 9 (some 26) #[tt, tt, tt, tt, tt, tt, tt, tt, tt, tt] (any_of HT_.out (by kernel_rfl)) ?_
        refine done_ (done_of HT_.out (by kernel_rfl)) ?_
        try go_wp2
        go_roundg k1
        case measure => have := HK1.out; omega
        case rel => exact ⟨(wrap64 (aa + 1)), (by first | rfl | (simp; done) | (simp [*]; done)), H', ⟨by have := HK1.out; omega⟩, ⟨zb HB⟩⟩
       ·replace c8 := Bool.eq_false_iff.mpr c8
        subst c8
        have H1 : (some false) = some r := by rw [if_neg (show ¬ (false = true) by decide)] at H; exact H
        clear H; have H := H1; clear H1; obtain rfl := Option.some.inj H
        try go_wp2
        have av := zK (zE HB.out)
        clear HB; have HB := av; clear av
        have ap : 0 ≤ (aa : Int) := of_decide_eq_true (by first | (with_reducible assumption) | assumption)
        have aq : aa < (l0.length : Int) := of_decide_eq_true (by first | (with_reducible assumption) | assumption)
        obtain ⟨an, aw, ab, ac, ad⟩ := at_T52 HR0.out aa ap aq
        have ah := ad; have ai := ac; have aj := ab
        cases aw
        replace ab := (HB.out.cell (World.block_lt_of_cell? w _ ab)).trans ab
        replace ac := (HB.out.cell (World.block_lt_of_cell? w _ ac)).trans ac
        replace ad := (HB.out.cell (World.block_lt_of_cell? w _ ad)).trans ad
        replace ap := eq_true ap; replace aq := eq_true aq
        have ar : 0 ≤ (aa : Int) := of_decide_eq_true (by first | (with_reducible assumption) | assumption)
        have au : aa < (l1.length : Int) := of_decide_eq_true (by first | (with_reducible assumption) | assumption)
        obtain ⟨ao, ax, ae, af, ag⟩ := at_T52 HR1.out aa ar au
        have ak := ag; have al := af; have am := ae
        cases ax
        replace ae := (HB.out.cell (World.block_lt_of_cell? w _ ae)).trans ae
        replace af := (HB.out.cell (World.block_lt_of_cell? w _ af)).trans af
        replace ag := (HB.out.cell (World.block_lt_of_cell? w _ ag)).trans ag
        replace ar := eq_true ar; replace au := eq_true au
        refine start_ (n := 10) (S := fun w' => w'.cell? (an.add ((aa).toNat * 3)) = some (.int .i64 ((rd_T52 l0 aa).f0)) ∧ w'.cell? ⟨(an.add ((aa).toNat * 3)).block, (an.add ((aa).toNat * 3)).off + 1, none⟩ = some (.int .i64 ((rd_T52 l0 aa).f1)) ∧ w'.cell? ⟨(an.add ((aa).toNat * 3)).block, (an.add ((aa).toNat * 3)).off + 2, none⟩ = some (.int .i64 ((rd_T52 l0 aa).f2)) ∧ w'.cell? (ao.add ((aa).toNat * 3)) = some (.int .i64 ((rd_T52 l1 aa).f0)) ∧ w'.cell? ⟨(ao.add ((aa).toNat * 3)).block, (ao.add ((aa).toNat * 3)).off + 1, none⟩ = some (.int .i64 ((rd_T52 l1 aa).f1)) ∧ w'.cell? ⟨(ao.add ((aa).toNat * 3)).block, (ao.add ((aa).toNat * 3)).off + 2, none⟩ = some (.int .i64 ((rd_T52 l1 aa).f2))) (ds := []) #[ff, ff, ff, ff, ff, ff, ff, ff, ff, ff] (by kernel_rfl) rfl rfl ⟨((HB.out.cell (World.block_lt_of_cell? w _ aj)).trans aj), ((HB.out.cell (World.block_lt_of_cell? w _ ai)).trans ai), ((HB.out.cell (World.block_lt_of_cell? w _ ah)).trans ah), ((HB.out.cell (World.block_lt_of_cell? w _ am)).trans am), ((HB.out.cell (World.block_lt_of_cell? w _ al)).trans al), ((HB.out.cell (World.block_lt_of_cell? w _ ak)).trans ak)⟩ (fun hHeld => ?_); refine with_tabW laws_eqExpectS.tab6 laws_eqExpectS.bits6 (fun HT_ HW_ => ?_)
        generalize wr.drew = w11 at HB ab ac ad ae af ag hHeld ⊢
        refine zu 0 (some 17) #[tt, ff, ff, ff, ff, ff, ff, ff, ff, ff] (any_of HT_.out (by kernel_rfl)) ?_
        refine zu 1 (some 18) #[tt, tt, ff, ff, ff, ff, ff, ff, ff, ff] (any_of HT_.out (by kernel_rfl)) ?_
        refine zu 2 (some 19) #[tt, tt, tt, ff, ff, ff, ff, ff, ff, ff] (any_of HT_.out (by kernel_rfl)) ?_
        refine zu 4 (some 21) #[tt, tt, tt, ff, tt, ff, ff, ff, ff, ff] (any_of HT_.out (by kernel_rfl)) ?_
        refine zu 5 (some 22) #[tt, tt, tt, ff, tt, tt, ff, ff, ff, ff] (any_of HT_.out (by kernel_rfl)) ?_
        refine zu 6 (some 23) #[tt, tt, tt, ff, tt, tt, tt, ff, ff, ff] (any_of HT_.out (by kernel_rfl)) ?_
        refine zt 3 (some 20) #[tt, tt, tt, tt, tt, tt, tt, ff, ff, ff] (take_ofW HT_.out HW_.out (by kernel_rfl)) hHeld ?_
        refine zt 7 (some 24) #[tt, tt, tt, tt, tt, tt, tt, tt, ff, ff] (take_ofW HT_.out HW_.out (by kernel_rfl)) hHeld ?_
        refine one_ (i := 8) (N := some 25) #[tt, tt, tt, tt, tt, tt, tt, tt, tt, ff] rfl rfl (one_of HT_.out (by kernel_rfl)) (by decide) (fun K hK => ?_)
        refine goes_ Try.func91 (by kernel_rfl) rfl #[.agg #[.int .i64 ((rd_T52 l0 aa).f0), .int .i64 ((rd_T52 l0 aa).f1), .int .i64 ((rd_T52 l0 aa).f2)], .agg #[.int .i64 ((rd_T52 l1 aa).f0), .int .i64 ((rd_T52 l1 aa).f1), .int .i64 ((rd_T52 l1 aa).f2)]] (by rfl) rfl rfl (by (try simp only [List.map_toArray, List.map_cons, List.map_nil]); first | done | rfl | (simp only [List.length_drop, List.length_take]; rfl)) ?_
        with_reducible refine (laws_eqExpect.calls ((rd_T52 l0 aa).f0) ((rd_T52 l0 aa).f1) ((rd_T52 l0 aa).f2) ((rd_T52 l1 aa).f0) ((rd_T52 l1 aa).f1) ((rd_T52 l1 aa).f2) false _ A7.out).mono ?_
        rintro e w12 ⟨rfl, hb⟩
        refine ⟨_, rfl, ?_⟩
        have av := zK (below_step (zb HB) hb)
        clear HB; have HB := av; clear av; (try clear hb); (try clear hb2); (try clear hk); (try clear hi)
        refine hK.out _ _ ⟨((HB.out.cell (World.block_lt_of_cell? w _ aj)).trans aj), ((HB.out.cell (World.block_lt_of_cell? w _ ai)).trans ai), ((HB.out.cell (World.block_lt_of_cell? w _ ah)).trans ah), ((HB.out.cell (World.block_lt_of_cell? w _ am)).trans am), ((HB.out.cell (World.block_lt_of_cell? w _ al)).trans al), ((HB.out.cell (World.block_lt_of_cell? w _ ak)).trans ak)⟩ (fun hHeld => ?_)
        clear hK K
        refine norm_ (a' := ?_) ?_ ?_
        rotate_left
        ·show Act.put _ (some 25) _ = _
         simp only [Act.put, zp, zq, zr, i64_w, i32_w]
         rfl
        refine zu 9 (some 26) #[tt, tt, tt, tt, tt, tt, tt, tt, tt, tt] (any_of HT_.out (by kernel_rfl)) ?_
        refine done_ (done_of HT_.out (by kernel_rfl)) ?_
        try go_wp2
        go_ret
        exact ⟨by first | rfl | (simp [errW_none, errW_some] <;> rfl) | (simp [*, errW_none, errW_some] <;> rfl), by repeat (first | (with_reducible first | exact HB.out | apply zB | apply zC | apply zE) | exact HB.out)⟩
      ·rw [if_neg c6] at H
       exact absurd H (by simp)
     ·rw [if_neg c5] at H
      exact absurd H (by simp)
    ·rw [if_neg c4] at H
     have c4b0 : decide (aa < (l0.length : Int)) = false := decide_eq_false c4
     clear c4; obtain rfl := Option.some.inj H
     go_wp2
     go_ret
     exact ⟨by first | rfl | (simp [errW_none, errW_some] <;> rfl) | (simp [*, errW_none, errW_some] <;> rfl), by repeat (first | (with_reducible first | exact HB.out | apply zB | apply zC | apply zE) | exact HB.out)⟩
 ·rw [if_neg c3] at H
  have ay : ((l0.length : Int) == (l1.length : Int)) = false := beq_eq_false_iff_ne.mpr c3
  have az : ((l0.length : Int) != (l1.length : Int)) = true := bne_iff_ne.mpr c3
  have aA : (l0.length == l1.length) = false := by first | simpa using c3 | (simp at c3 ⊢; omega)
  obtain rfl := Option.some.inj H
  go_enter Try.func49, Try.ntmps49
  go_wp2
  go_ret
  exact ⟨by first | rfl | (simp [errW_none, errW_some] <;> rfl) | (simp [*, errW_none, errW_some] <;> rfl), by repeat (first | (with_reducible first | exact HB.out | apply zB | apply zC | apply zE) | exact HB.out)⟩
def laws_eqSight.f (a0_0 : Int) (a0_1 : Int) (a1_0 : Int) (a1_1 : Int) : Option (Bool) := if a0_0 = a1_0 then (if a0_1 = a1_1 then (some true) else (some false)) else (some false)
set_option maxHeartbeats 8000000 in
set_option maxRecDepth 100000 in
theorem laws_eqSight.calls (a0_0 : Int) (a0_1 : Int) (a1_0 : Int) (a1_1 : Int) (r : Bool) (w : World) (h : laws_eqSight.f a0_0 a0_1 a1_0 a1_1 = some r) :
  Calls Try.prog 92 #[.agg #[.int .i64 a0_0, .int .i64 a0_1], .agg #[.int .i64 a1_0, .int .i64 a1_1]] w fun e w' => e = .returned (.bool r) ∧ Below w.heap.size w w' := by
 have hu89 := Try.underlying89
 have HB := zK (Below.refl w.heap.size w)
 have H : (if a0_0 = a1_0 then (if a0_1 = a1_1 then (some true) else (some false)) else (some false)) = some r := h
 clear h
 by_cases c3 : a0_0 = a1_0
 ·rw [if_pos c3] at H
  have c3b0 : (a0_0 == a1_0) = true := beq_iff_eq.mpr c3
  have c3b1 : (a0_0 != a1_0) = false := bne_eq_false_iff_eq.mpr c3
  clear c3
  by_cases c4 : a0_1 = a1_1
  ·rw [if_pos c4] at H
   have c4b0 : (a0_1 == a1_1) = true := beq_iff_eq.mpr c4
   have c4b1 : (a0_1 != a1_1) = false := bne_eq_false_iff_eq.mpr c4
   clear c4; obtain rfl := Option.some.inj H
   go_enter Try.func92, Try.ntmps92
   go_wp2_with (first | ((with_reducible refine gate_dst (N := 2) rfl ?_); refine box_event ?hg (N := 2) ?hd (cs := #[.int .i64 a0_0, .int .i64 a0_1]) (t := 89) ?hr ?_; (case hd => rfl); (case hg => rfl); (case hr => first | (go_simp; done) | (go_simp; rfl)); intro aa hg w5 hbox hb; have ah := zK (below_step (zb HB) hb); have ai := zK (hbox); have aj := zK ((by rw [hg]; exact (below_size (zb HB)) : w.heap.size ≤ aa)); have ak := zK ((by rw [hg]; exact (below_size (zb HB)) : w.heap.size ≤ aa)); clear HB; have HB := ah; have ab := ai; have am := aj; have ad := ak; clear ah ai aj ak; clear hb hbox hg) | ((with_reducible refine gate_dst (N := 3) rfl ?_); refine box_event ?hg (N := 3) ?hd (cs := #[.int .i64 a1_0, .int .i64 a1_1]) (t := 89) ?hr ?_; (case hd => rfl); (case hg => rfl); (case hr => first | (go_simp; done) | (go_simp; rfl)); intro ac hg w6 hbox hb; have ah := zK (blk_below (g := aa) (o := .cells #[.int .i64 a0_0, .int .i64 a0_1] 89 (0, 0)) (zk ab) hb); have ai := zK (below_step (zb HB) hb); have aj := zK (hbox); have ak := zK ((by rw [hg]; exact (below_size (zb HB)) : w.heap.size ≤ ac)); have an := zK ((by rw [hg]; exact (below_size (zb HB)) : w.heap.size ≤ ac)); have ao := zK ((by rw [hg]; exact Nat.ne_of_lt (blk_lt (g := aa) (o := .cells #[.int .i64 a0_0, .int .i64 a0_1] 89 (0, 0)) (zk ab)) : aa ≠ ac)); have ap := zK ((by rw [hg]; exact Nat.ne_of_gt (blk_lt (g := aa) (o := .cells #[.int .i64 a0_0, .int .i64 a0_1] 89 (0, 0)) (zk ab)) : ac ≠ aa)); clear ab; clear HB; have ab := ah; have HB := ai; have ae := aj; have aq := ak; have al := an; have af := ao; have ag := ap; clear ah ai aj ak an ao ap; clear hb hbox hg; have hnb7 := af.out; have hnc7 := ag.out; have hcz8_0 : w6.cell? ⟨aa, 0, none⟩ = some (.int .i64 a0_0) := (blk_cell ab.out 0).trans rfl; have hcz8_1 : w6.cell? ⟨aa, 1, none⟩ = some (.int .i64 a0_1) := (blk_cell ab.out 1).trans rfl; have hfz8_0 := blk_frozen ab.out 0; have hfz8_1 := blk_frozen ab.out 1; have hcz9_0 : w6.cell? ⟨ac, 0, none⟩ = some (.int .i64 a1_0) := (blk_cell ae.out 0).trans rfl; have hcz9_1 : w6.cell? ⟨ac, 1, none⟩ = some (.int .i64 a1_1) := (blk_cell ae.out 1).trans rfl; have hfz9_0 := blk_frozen ae.out 0; have hfz9_1 := blk_frozen ae.out 1))
   go_ret
   exact ⟨by first | rfl | (simp [errW_none, errW_some] <;> rfl) | (simp [*, errW_none, errW_some] <;> rfl), by repeat (first | (with_reducible first | exact HB.out | apply zB | apply zC | apply zE | refine zS ?_ ad.out | refine zS ?_ al.out) | exact HB.out)⟩
  ·rw [if_neg c4] at H
   have c4b0 : (a0_1 == a1_1) = false := beq_eq_false_iff_ne.mpr c4
   have c4b1 : (a0_1 != a1_1) = true := bne_iff_ne.mpr c4
   obtain rfl := Option.some.inj H
   go_enter Try.func92, Try.ntmps92
   go_wp2_with (first | ((with_reducible refine gate_dst (N := 2) rfl ?_); refine box_event ?hg (N := 2) ?hd (cs := #[.int .i64 a0_0, .int .i64 a0_1]) (t := 89) ?hr ?_; (case hd => rfl); (case hg => rfl); (case hr => first | (go_simp; done) | (go_simp; rfl)); intro aa hg w10 hbox hb; have ah := zK (below_step (zb HB) hb); have ai := zK (hbox); have aj := zK ((by rw [hg]; exact (below_size (zb HB)) : w.heap.size ≤ aa)); have ak := zK ((by rw [hg]; exact (below_size (zb HB)) : w.heap.size ≤ aa)); clear HB; have HB := ah; have ab := ai; have am := aj; have ad := ak; clear ah ai aj ak; clear hb hbox hg) | ((with_reducible refine gate_dst (N := 3) rfl ?_); refine box_event ?hg (N := 3) ?hd (cs := #[.int .i64 a1_0, .int .i64 a1_1]) (t := 89) ?hr ?_; (case hd => rfl); (case hg => rfl); (case hr => first | (go_simp; done) | (go_simp; rfl)); intro ac hg w11 hbox hb; have ah := zK (blk_below (g := aa) (o := .cells #[.int .i64 a0_0, .int .i64 a0_1] 89 (0, 0)) (zk ab) hb); have ai := zK (below_step (zb HB) hb); have aj := zK (hbox); have ak := zK ((by rw [hg]; exact (below_size (zb HB)) : w.heap.size ≤ ac)); have an := zK ((by rw [hg]; exact (below_size (zb HB)) : w.heap.size ≤ ac)); have ao := zK ((by rw [hg]; exact Nat.ne_of_lt (blk_lt (g := aa) (o := .cells #[.int .i64 a0_0, .int .i64 a0_1] 89 (0, 0)) (zk ab)) : aa ≠ ac)); have ap := zK ((by rw [hg]; exact Nat.ne_of_gt (blk_lt (g := aa) (o := .cells #[.int .i64 a0_0, .int .i64 a0_1] 89 (0, 0)) (zk ab)) : ac ≠ aa)); clear ab; clear HB; have ab := ah; have HB := ai; have ae := aj; have aq := ak; have al := an; have af := ao; have ag := ap; clear ah ai aj ak an ao ap; clear hb hbox hg; have hnb12 := af.out; have hnc12 := ag.out; have hcz13_0 : w11.cell? ⟨aa, 0, none⟩ = some (.int .i64 a0_0) := (blk_cell ab.out 0).trans rfl; have hcz13_1 : w11.cell? ⟨aa, 1, none⟩ = some (.int .i64 a0_1) := (blk_cell ab.out 1).trans rfl; have hfz13_0 := blk_frozen ab.out 0; have hfz13_1 := blk_frozen ab.out 1; have hcz14_0 : w11.cell? ⟨ac, 0, none⟩ = some (.int .i64 a1_0) := (blk_cell ae.out 0).trans rfl; have hcz14_1 : w11.cell? ⟨ac, 1, none⟩ = some (.int .i64 a1_1) := (blk_cell ae.out 1).trans rfl; have hfz14_0 := blk_frozen ae.out 0; have hfz14_1 := blk_frozen ae.out 1))
   go_ret
   exact ⟨by first | rfl | (simp [errW_none, errW_some] <;> rfl) | (simp [*, errW_none, errW_some] <;> rfl), by repeat (first | (with_reducible first | exact HB.out | apply zB | apply zC | apply zE | refine zS ?_ ad.out | refine zS ?_ al.out) | exact HB.out)⟩
 ·rw [if_neg c3] at H
  have c3b0 : (a0_0 == a1_0) = false := beq_eq_false_iff_ne.mpr c3
  have c3b1 : (a0_0 != a1_0) = true := bne_iff_ne.mpr c3
  obtain rfl := Option.some.inj H
  go_enter Try.func92, Try.ntmps92
  go_wp2_with (first | ((with_reducible refine gate_dst (N := 2) rfl ?_); refine box_event ?hg (N := 2) ?hd (cs := #[.int .i64 a0_0, .int .i64 a0_1]) (t := 89) ?hr ?_; (case hd => rfl); (case hg => rfl); (case hr => first | (go_simp; done) | (go_simp; rfl)); intro aa hg w15 hbox hb; have ah := zK (below_step (zb HB) hb); have ai := zK (hbox); have aj := zK ((by rw [hg]; exact (below_size (zb HB)) : w.heap.size ≤ aa)); have ak := zK ((by rw [hg]; exact (below_size (zb HB)) : w.heap.size ≤ aa)); clear HB; have HB := ah; have ab := ai; have am := aj; have ad := ak; clear ah ai aj ak; clear hb hbox hg) | ((with_reducible refine gate_dst (N := 3) rfl ?_); refine box_event ?hg (N := 3) ?hd (cs := #[.int .i64 a1_0, .int .i64 a1_1]) (t := 89) ?hr ?_; (case hd => rfl); (case hg => rfl); (case hr => first | (go_simp; done) | (go_simp; rfl)); intro ac hg w16 hbox hb; have ah := zK (blk_below (g := aa) (o := .cells #[.int .i64 a0_0, .int .i64 a0_1] 89 (0, 0)) (zk ab) hb); have ai := zK (below_step (zb HB) hb); have aj := zK (hbox); have ak := zK ((by rw [hg]; exact (below_size (zb HB)) : w.heap.size ≤ ac)); have an := zK ((by rw [hg]; exact (below_size (zb HB)) : w.heap.size ≤ ac)); have ao := zK ((by rw [hg]; exact Nat.ne_of_lt (blk_lt (g := aa) (o := .cells #[.int .i64 a0_0, .int .i64 a0_1] 89 (0, 0)) (zk ab)) : aa ≠ ac)); have ap := zK ((by rw [hg]; exact Nat.ne_of_gt (blk_lt (g := aa) (o := .cells #[.int .i64 a0_0, .int .i64 a0_1] 89 (0, 0)) (zk ab)) : ac ≠ aa)); clear ab; clear HB; have ab := ah; have HB := ai; have ae := aj; have aq := ak; have al := an; have af := ao; have ag := ap; clear ah ai aj ak an ao ap; clear hb hbox hg; have hnb17 := af.out; have hnc17 := ag.out; have hcz18_0 : w16.cell? ⟨aa, 0, none⟩ = some (.int .i64 a0_0) := (blk_cell ab.out 0).trans rfl; have hcz18_1 : w16.cell? ⟨aa, 1, none⟩ = some (.int .i64 a0_1) := (blk_cell ab.out 1).trans rfl; have hfz18_0 := blk_frozen ab.out 0; have hfz18_1 := blk_frozen ab.out 1; have hcz19_0 : w16.cell? ⟨ac, 0, none⟩ = some (.int .i64 a1_0) := (blk_cell ae.out 0).trans rfl; have hcz19_1 : w16.cell? ⟨ac, 1, none⟩ = some (.int .i64 a1_1) := (blk_cell ae.out 1).trans rfl; have hfz19_0 := blk_frozen ae.out 0; have hfz19_1 := blk_frozen ae.out 1))
  go_ret
  exact ⟨by first | rfl | (simp [errW_none, errW_some] <;> rfl) | (simp [*, errW_none, errW_some] <;> rfl), by repeat (first | (with_reducible first | exact HB.out | apply zB | apply zC | apply zE | refine zS ?_ ad.out | refine zS ?_ al.out) | exact HB.out)⟩
def laws_eqSightS.l0 : Nat → List (S89) → List (S89) → Int → Option (Bool)
 | 0, _, _, _ => none
 | k + 1, x0, x1, x5 => if x5 < (x0.length : Int) then (if 0 ≤ x5 then (if x5 < (x1.length : Int) then ((laws_eqSight.f ((rd_T89 x0 x5).f0) ((rd_T89 x0 x5).f1) ((rd_T89 x1 x5).f0) ((rd_T89 x1 x5).f1)).bind fun t820 => (if t820 = true then (laws_eqSightS.l0 k x0 x1 (wrap64 (x5 + 1))) else (some false))) else (none)) else (none)) else (some true)
def laws_eqSightS.f (k : Nat) (l0 : List (S89)) (l1 : List (S89)) : Option (Bool) := if (l0.length : Int) = (l1.length : Int) then (laws_eqSightS.l0 k l0 l1 0) else (some false)
def laws_eqSightS.T6 : Bool × List (List Nat × List Nat) := (true, [([], []), ([], []), ([0, 1], [0, 1]), ([2], [2]), ([], []), ([], []), ([4, 5], [4, 5]), ([6], [6]), ([3, 7], [3, 7]), ([8], [8])])
def laws_eqSightS.B6 : List Nat := [0, 0, 3, 7, 0, 0, 48, 112, 255, 511]
theorem laws_eqSightS.tab6 : rtab .any (opsOf Try.f50 6) = laws_eqSightS.T6 := by kernel_rfl
theorem laws_eqSightS.bits6 : waitsOk laws_eqSightS.T6.2 laws_eqSightS.B6 = true := by kernel_rfl
set_option maxHeartbeats 8000000 in
set_option maxRecDepth 100000 in
theorem laws_eqSightS.calls (k : Nat) (A0 : Option Addr) (c0 : Nat) (l0 : List (S89)) (A1 : Option Addr) (c1 : Nat) (l1 : List (S89)) (r : Bool) (w : World) (hr0 : Kd.C k89 w A0 l0.length l0) (hc0 : l0.length ≤ c0) (hr1 : Kd.C k89 w A1 l1.length l1) (hc1 : l1.length ≤ c1) (h : laws_eqSightS.f k l0 l1 = some r) :
  Calls Try.prog 50 #[.slice A0 l0.length c0, .slice A1 l1.length c1] w fun e w' => e = .returned (.bool r) ∧ Below w.heap.size w w' := by
 have hu89 := Try.underlying89; have HR0 := zK hr0; have HC0 := zK hc0; clear hr0 hc0; have HR1 := zK hr1; have HC1 := zK hc1; clear hr1 hc1
 have HB := zK (Below.refl w.heap.size w)
 have H : (if (l0.length : Int) = (l1.length : Int) then (laws_eqSightS.l0 k l0 l1 0) else (some false)) = some r := h
 clear h
 by_cases c3 : (l0.length : Int) = (l1.length : Int)
 ·rw [if_pos c3] at H
  have au : ((l0.length : Int) == (l1.length : Int)) = true := beq_iff_eq.mpr c3
  have av : ((l0.length : Int) != (l1.length : Int)) = false := bne_eq_false_iff_eq.mpr c3
  have aw : (l0.length == l1.length) = true := by first | simpa using c3 | (simp at c3 ⊢; omega)
  clear c3; have H' := zK H; clear H
  go_enter Try.func50, Try.ntmps50
  go_wp2
  go_loopg [5] k (fun kq v5 w' => ∃ (aa : Int), v5 = .int .i64 aa ∧ Aside0 (laws_eqSightS.l0 kq l0 l1 aa = some r) ∧ Aside0 (kq ≤ k) ∧ Aside0 (Below w.heap.size w w'))
  case atStart => exact ⟨(0), (by first | rfl | (simp; done) | (simp [*]; done)), H', ⟨Nat.le_refl _⟩, ⟨zb HB⟩⟩
  case round =>
   clear H'
   try clear c1
   try clear p2
   try clear c3
   try clear au
   try clear av
   try clear aw
   obtain ⟨aa, rfl, HA, HK1, HB⟩ := hrel
   cases gk with
   | zero => exact absurd HA.out (by simp [laws_eqSightS.l0])
   | succ k1 =>
    have H := HA.out; clear HA
    simp only [laws_eqSightS.l0] at H
    by_cases c4 : aa < (l0.length : Int)
    ·rw [if_pos c4] at H
     have c4b0 : decide (aa < (l0.length : Int)) = true := decide_eq_true c4
     clear c4
     by_cases c5 : 0 ≤ aa
     ·rw [if_pos c5] at H
      have c5b0 : decide (0 ≤ aa) = true := decide_eq_true c5
      clear c5
      by_cases c6 : aa < (l1.length : Int)
      ·rw [if_pos c6] at H
       have c6b0 : decide (aa < (l1.length : Int)) = true := decide_eq_true c6
       clear c6; replace H := Option.bind_eq_some_iff.mp H
       obtain ⟨ax, A70, H⟩ := H
       replace H : (if ax = true then (laws_eqSightS.l0 k1 l0 l1 (wrap64 (aa + 1))) else (some false)) = some r := H
       have A7 := zK A70; clear A70
       by_cases c8 : ax = true
       ·subst c8
        have H1 : (laws_eqSightS.l0 k1 l0 l1 (wrap64 (aa + 1))) = some r := by rw [if_pos rfl] at H; exact H
        clear H; have H := H1; clear H1; have H' := zK H; clear H
        try go_wp2
        have ap := zK (zE HB.out)
        clear HB; have HB := ap; clear ap
        have al : 0 ≤ (aa : Int) := of_decide_eq_true (by first | (with_reducible assumption) | assumption)
        have am : aa < (l0.length : Int) := of_decide_eq_true (by first | (with_reducible assumption) | assumption)
        obtain ⟨aj, aq, ab, ac⟩ := at_T89 HR0.out aa al am
        have af := ac; have ag := ab
        cases aq
        replace ab := (HB.out.cell (World.block_lt_of_cell? w _ ab)).trans ab
        replace ac := (HB.out.cell (World.block_lt_of_cell? w _ ac)).trans ac
        replace al := eq_true al; replace am := eq_true am
        have an : 0 ≤ (aa : Int) := of_decide_eq_true (by first | (with_reducible assumption) | assumption)
        have ao : aa < (l1.length : Int) := of_decide_eq_true (by first | (with_reducible assumption) | assumption)
        obtain ⟨ak, ar, ad, ae⟩ := at_T89 HR1.out aa an ao
        have ah := ae; have ai := ad
        cases ar
        replace ad := (HB.out.cell (World.block_lt_of_cell? w _ ad)).trans ad
        replace ae := (HB.out.cell (World.block_lt_of_cell? w _ ae)).trans ae
        replace an := eq_true an; replace ao := eq_true ao
        refine start_ (n := 10) (S := fun w' => w'.cell? (aj.add ((aa).toNat * 2)) = some (.int .i64 ((rd_T89 l0 aa).f0)) ∧ w'.cell? ⟨(aj.add ((aa).toNat * 2)).block, (aj.add ((aa).toNat * 2)).off + 1, none⟩ = some (.int .i64 ((rd_T89 l0 aa).f1)) ∧ w'.cell? (ak.add ((aa).toNat * 2)) = some (.int .i64 ((rd_T89 l1 aa).f0)) ∧ w'.cell? ⟨(ak.add ((aa).toNat * 2)).block, (ak.add ((aa).toNat * 2)).off + 1, none⟩ = some (.int .i64 ((rd_T89 l1 aa).f1))) (ds := []) #[ff, ff, ff, ff, ff, ff, ff, ff, ff, ff] (by kernel_rfl) rfl rfl ⟨((HB.out.cell (World.block_lt_of_cell? w _ ag)).trans ag), ((HB.out.cell (World.block_lt_of_cell? w _ af)).trans af), ((HB.out.cell (World.block_lt_of_cell? w _ ai)).trans ai), ((HB.out.cell (World.block_lt_of_cell? w _ ah)).trans ah)⟩ (fun hHeld => ?_); refine with_tabW laws_eqSightS.tab6 laws_eqSightS.bits6 (fun HT_ HW_ => ?_)
        generalize wr.drew = w9 at HB ab ac ad ae hHeld ⊢
        refine zu 0 (some 17) #[tt, ff, ff, ff, ff, ff, ff, ff, ff, ff] (any_of HT_.out (by kernel_rfl)) ?_
        refine zu 1 (some 18) #[tt, tt, ff, ff, ff, ff, ff, ff, ff, ff] (any_of HT_.out (by kernel_rfl)) ?_
        refine zu 2 (some 19) #[tt, tt, tt, ff, ff, ff, ff, ff, ff, ff] (any_of HT_.out (by kernel_rfl)) ?_
        refine zu 4 (some 21) #[tt, tt, tt, ff, tt, ff, ff, ff, ff, ff] (any_of HT_.out (by kernel_rfl)) ?_
        refine zu 5 (some 22) #[tt, tt, tt, ff, tt, tt, ff, ff, ff, ff] (any_of HT_.out (by kernel_rfl)) ?_
        refine zu 6 (some 23) #[tt, tt, tt, ff, tt, tt, tt, ff, ff, ff] (any_of HT_.out (by kernel_rfl)) ?_
        refine zt 3 (some 20) #[tt, tt, tt, tt, tt, tt, tt, ff, ff, ff] (take_ofW HT_.out HW_.out (by kernel_rfl)) hHeld ?_
        refine zt 7 (some 24) #[tt, tt, tt, tt, tt, tt, tt, tt, ff, ff] (take_ofW HT_.out HW_.out (by kernel_rfl)) hHeld ?_
        refine one_ (i := 8) (N := some 25) #[tt, tt, tt, tt, tt, tt, tt, tt, tt, ff] rfl rfl (one_of HT_.out (by kernel_rfl)) (by decide) (fun K hK => ?_)
        refine goes_ Try.func92 (by kernel_rfl) rfl #[.agg #[.int .i64 ((rd_T89 l0 aa).f0), .int .i64 ((rd_T89 l0 aa).f1)], .agg #[.int .i64 ((rd_T89 l1 aa).f0), .int .i64 ((rd_T89 l1 aa).f1)]] (by rfl) rfl rfl (by (try simp only [List.map_toArray, List.map_cons, List.map_nil]); first | done | rfl | (simp only [List.length_drop, List.length_take]; rfl)) ?_
        with_reducible refine (laws_eqSight.calls ((rd_T89 l0 aa).f0) ((rd_T89 l0 aa).f1) ((rd_T89 l1 aa).f0) ((rd_T89 l1 aa).f1) true _ A7.out).mono ?_
        rintro e w10 ⟨rfl, hb⟩
        refine ⟨_, rfl, ?_⟩
        have ap := zK (below_step (zb HB) hb)
        clear HB; have HB := ap; clear ap; (try clear hb); (try clear hb2); (try clear hk); (try clear hi)
        refine hK.out _ _ ⟨((HB.out.cell (World.block_lt_of_cell? w _ ag)).trans ag), ((HB.out.cell (World.block_lt_of_cell? w _ af)).trans af), ((HB.out.cell (World.block_lt_of_cell? w _ ai)).trans ai), ((HB.out.cell (World.block_lt_of_cell? w _ ah)).trans ah)⟩ (fun hHeld => ?_)
        clear hK K
        refine norm_ (a' := ?_) ?_ ?_
        rotate_left
        ·show Act.put _ (some 25) _ = _
         simp only [Act.put, zp, zq, zr, i64_w, i32_w]
         rfl
        refine zu 9 (some 26) #[tt, tt, tt, tt, tt, tt, tt, tt, tt, tt] (any_of HT_.out (by kernel_rfl)) ?_
        refine done_ (done_of HT_.out (by kernel_rfl)) ?_
        try go_wp2
        go_roundg k1
        case measure => have := HK1.out; omega
        case rel => exact ⟨(wrap64 (aa + 1)), (by first | rfl | (simp; done) | (simp [*]; done)), H', ⟨by have := HK1.out; omega⟩, ⟨zb HB⟩⟩
       ·replace c8 := Bool.eq_false_iff.mpr c8
        subst c8
        have H1 : (some false) = some r := by rw [if_neg (show ¬ (false = true) by decide)] at H; exact H
        clear H; have H := H1; clear H1; obtain rfl := Option.some.inj H
        try go_wp2
        have ap := zK (zE HB.out)
        clear HB; have HB := ap; clear ap
        have al : 0 ≤ (aa : Int) := of_decide_eq_true (by first | (with_reducible assumption) | assumption)
        have am : aa < (l0.length : Int) := of_decide_eq_true (by first | (with_reducible assumption) | assumption)
        obtain ⟨aj, aq, ab, ac⟩ := at_T89 HR0.out aa al am
        have af := ac; have ag := ab
        cases aq
        replace ab := (HB.out.cell (World.block_lt_of_cell? w _ ab)).trans ab
        replace ac := (HB.out.cell (World.block_lt_of_cell? w _ ac)).trans ac
        replace al := eq_true al; replace am := eq_true am
        have an : 0 ≤ (aa : Int) := of_decide_eq_true (by first | (with_reducible assumption) | assumption)
        have ao : aa < (l1.length : Int) := of_decide_eq_true (by first | (with_reducible assumption) | assumption)
        obtain ⟨ak, ar, ad, ae⟩ := at_T89 HR1.out aa an ao
        have ah := ae; have ai := ad
        cases ar
        replace ad := (HB.out.cell (World.block_lt_of_cell? w _ ad)).trans ad
        replace ae := (HB.out.cell (World.block_lt_of_cell? w _ ae)).trans ae
        replace an := eq_true an; replace ao := eq_true ao
        refine start_ (n := 10) (S := fun w' => w'.cell? (aj.add ((aa).toNat * 2)) = some (.int .i64 ((rd_T89 l0 aa).f0)) ∧ w'.cell? ⟨(aj.add ((aa).toNat * 2)).block, (aj.add ((aa).toNat * 2)).off + 1, none⟩ = some (.int .i64 ((rd_T89 l0 aa).f1)) ∧ w'.cell? (ak.add ((aa).toNat * 2)) = some (.int .i64 ((rd_T89 l1 aa).f0)) ∧ w'.cell? ⟨(ak.add ((aa).toNat * 2)).block, (ak.add ((aa).toNat * 2)).off + 1, none⟩ = some (.int .i64 ((rd_T89 l1 aa).f1))) (ds := []) #[ff, ff, ff, ff, ff, ff, ff, ff, ff, ff] (by kernel_rfl) rfl rfl ⟨((HB.out.cell (World.block_lt_of_cell? w _ ag)).trans ag), ((HB.out.cell (World.block_lt_of_cell? w _ af)).trans af), ((HB.out.cell (World.block_lt_of_cell? w _ ai)).trans ai), ((HB.out.cell (World.block_lt_of_cell? w _ ah)).trans ah)⟩ (fun hHeld => ?_); refine with_tabW laws_eqSightS.tab6 laws_eqSightS.bits6 (fun HT_ HW_ => ?_)
        generalize wr.drew = w11 at HB ab ac ad ae hHeld ⊢
        refine zu 0 (some 17) #[tt, ff, ff, ff, ff, ff, ff, ff, ff, ff] (any_of HT_.out (by kernel_rfl)) ?_
        refine zu 1 (some 18) #[tt, tt, ff, ff, ff, ff, ff, ff, ff, ff] (any_of HT_.out (by kernel_rfl)) ?_
        refine zu 2 (some 19) #[tt, tt, tt, ff, ff, ff, ff, ff, ff, ff] (any_of HT_.out (by kernel_rfl)) ?_
        refine zu 4 (some 21) #[tt, tt, tt, ff, tt, ff, ff, ff, ff, ff] (any_of HT_.out (by kernel_rfl)) ?_
        refine zu 5 (some 22) #[tt, tt, tt, ff, tt, tt, ff, ff, ff, ff] (any_of HT_.out (by kernel_rfl)) ?_
        refine zu 6 (some 23) #[tt, tt, tt, ff, tt, tt, tt, ff, ff, ff] (any_of HT_.out (by kernel_rfl)) ?_
        refine zt 3 (some 20) #[tt, tt, tt, tt, tt, tt, tt, ff, ff, ff] (take_ofW HT_.out HW_.out (by kernel_rfl)) hHeld ?_
        refine zt 7 (some 24) #[tt, tt, tt, tt, tt, tt, tt, tt, ff, ff] (take_ofW HT_.out HW_.out (by kernel_rfl)) hHeld ?_
        refine one_ (i := 8) (N := some 25) #[tt, tt, tt, tt, tt, tt, tt, tt, tt, ff] rfl rfl (one_of HT_.out (by kernel_rfl)) (by decide) (fun K hK => ?_)
        refine goes_ Try.func92 (by kernel_rfl) rfl #[.agg #[.int .i64 ((rd_T89 l0 aa).f0), .int .i64 ((rd_T89 l0 aa).f1)], .agg #[.int .i64 ((rd_T89 l1 aa).f0), .int .i64 ((rd_T89 l1 aa).f1)]] (by rfl) rfl rfl (by (try simp only [List.map_toArray, List.map_cons, List.map_nil]); first | done | rfl | (simp only [List.length_drop, List.length_take]; rfl)) ?_
        with_reducible refine (laws_eqSight.calls ((rd_T89 l0 aa).f0) ((rd_T89 l0 aa).f1) ((rd_T89 l1 aa).f0) ((rd_T89 l1 aa).f1) false _ A7.out).mono ?_
        rintro e w12 ⟨rfl, hb⟩
        refine ⟨_, rfl, ?_⟩
        have ap := zK (below_step (zb HB) hb)
        clear HB; have HB := ap; clear ap; (try clear hb); (try clear hb2); (try clear hk); (try clear hi)
        refine hK.out _ _ ⟨((HB.out.cell (World.block_lt_of_cell? w _ ag)).trans ag), ((HB.out.cell (World.block_lt_of_cell? w _ af)).trans af), ((HB.out.cell (World.block_lt_of_cell? w _ ai)).trans ai), ((HB.out.cell (World.block_lt_of_cell? w _ ah)).trans ah)⟩ (fun hHeld => ?_)
        clear hK K
        refine norm_ (a' := ?_) ?_ ?_
        rotate_left
        ·show Act.put _ (some 25) _ = _
         simp only [Act.put, zp, zq, zr, i64_w, i32_w]
         rfl
        refine zu 9 (some 26) #[tt, tt, tt, tt, tt, tt, tt, tt, tt, tt] (any_of HT_.out (by kernel_rfl)) ?_
        refine done_ (done_of HT_.out (by kernel_rfl)) ?_
        try go_wp2
        go_ret
        exact ⟨by first | rfl | (simp [errW_none, errW_some] <;> rfl) | (simp [*, errW_none, errW_some] <;> rfl), by repeat (first | (with_reducible first | exact HB.out | apply zB | apply zC | apply zE) | exact HB.out)⟩
      ·rw [if_neg c6] at H
       exact absurd H (by simp)
     ·rw [if_neg c5] at H
      exact absurd H (by simp)
    ·rw [if_neg c4] at H
     have c4b0 : decide (aa < (l0.length : Int)) = false := decide_eq_false c4
     clear c4; obtain rfl := Option.some.inj H
     go_wp2
     go_ret
     exact ⟨by first | rfl | (simp [errW_none, errW_some] <;> rfl) | (simp [*, errW_none, errW_some] <;> rfl), by repeat (first | (with_reducible first | exact HB.out | apply zB | apply zC | apply zE) | exact HB.out)⟩
 ·rw [if_neg c3] at H
  have au : ((l0.length : Int) == (l1.length : Int)) = false := beq_eq_false_iff_ne.mpr c3
  have av : ((l0.length : Int) != (l1.length : Int)) = true := bne_iff_ne.mpr c3
  have aw : (l0.length == l1.length) = false := by first | simpa using c3 | (simp at c3 ⊢; omega)
  obtain rfl := Option.some.inj H
  go_enter Try.func50, Try.ntmps50
  go_wp2
  go_ret
  exact ⟨by first | rfl | (simp [errW_none, errW_some] <;> rfl) | (simp [*, errW_none, errW_some] <;> rfl), by repeat (first | (with_reducible first | exact HB.out | apply zB | apply zC | apply zE) | exact HB.out)⟩
def laws_markExpectS.l0 : Nat → List (S52) → Int → Int → Option (Int × (List (S52)))
 | 0, _, _, _ => none
 | k + 1, x0, x1, x5 => if x5 < (x0.length : Int) then (if 0 ≤ x5 then ((some (x0.set (x5 : Int).toNat (⟨x1, (rd_T52 x0 x5).f1, (rd_T52 x0 x5).f2⟩ : S52) : List (S52))).bind fun y821 => ((some (y821.set (x5 : Int).toNat (⟨(rd_T52 y821 x5).f0, wrap64 (x1 + 1), (rd_T52 y821 x5).f2⟩ : S52) : List (S52))).bind fun y822 => (laws_markExpectS.l0 k (y822.set (x5 : Int).toNat (⟨(rd_T52 y822 x5).f0, (rd_T52 y822 x5).f1, wrap64 ((wrap64 (x1 + 1)) + 1)⟩ : S52)) (wrap64 ((wrap64 ((wrap64 (x1 + 1)) + 1)) + 1)) (wrap64 (x5 + 1))))) else (none)) else (some (x1, x0))
def laws_markExpectS.f (k : Nat) (l0 : List (S52)) (a1 : Int) : Option (Int × (List (S52))) := laws_markExpectS.l0 k l0 a1 0
set_option maxHeartbeats 8000000 in
set_option maxRecDepth 100000 in
theorem laws_markExpectS.calls (k : Nat) (P0_ : Nat → Prop) (u9000_ : Value) (l0 : List (S52)) (a1 : Int) (r1 : Int) (r2 : List (S52)) (w0 w : World) (hB : Below w0.heap.size w0 w) (ho0 : Kd.R k52 52 w w0.heap.size P0_ u9000_ l0) (h : laws_markExpectS.f k l0 a1 = some (r1, r2)) :
  Calls Try.prog 51 #[u9000_, .int .i64 a1] w fun e w' => e = .returned (.int .i64 r1) ∧ Kd.R k52 52 w' w0.heap.size (fun k_ => (P0_ k_ ∨ w.heap.size ≤ k_)) u9000_ r2 ∧ Below w0.heap.size w0 w' ∧ Kept w w' (fun k_ => P0_ k_) := by
 have HO0 := zK (show Kd.R k52 52 w w0.heap.size (fun k_ => (P0_ k_ ∨ w.heap.size ≤ k_)) u9000_ l0 from Kd.R_mono ho0 (fun k_ hk => (.inl hk)))
 have HK := zK (Kept.refl w (fun k_ => P0_ k_))
 have HW0 := zK hB.size; have HB := zK hB; clear hB
 have H : (laws_markExpectS.l0 k l0 a1 0) = some (r1, r2) := h
 clear h; have H' := zK H; clear H
 go_enter Try.func51, Try.ntmps51
 go_wp2
 go_loopg [1, 5] k (fun kq v1 v5 w' => ∃ (ab : List (S52)) (ad : Int) (aa : Int), v1 = .int .i64 ad ∧ v5 = .int .i64 aa ∧ Aside0 (laws_markExpectS.l0 kq ab ad aa = some (r1, r2)) ∧ Aside0 (kq ≤ k) ∧ Aside0 (Kd.R k52 52 w' w0.heap.size (fun k_ => (P0_ k_ ∨ w.heap.size ≤ k_)) u9000_ ab) ∧ Aside0 (Kept w w' (fun k_ => P0_ k_)) ∧ Aside0 (Below w0.heap.size w0 w'))
 case atStart => exact ⟨(l0), (a1), (0), (by first | rfl | (simp; done) | (simp [*]; done)), (by first | rfl | (simp; done) | (simp [*]; done)), H', ⟨Nat.le_refl _⟩, ⟨zR HO0⟩, ⟨by repeat (first | (with_reducible first | exact HK.out | apply Kept.alloc | apply Kept.drewN | apply Kept.drew) | exact HK.out)⟩, ⟨zb HB⟩⟩
 case round =>
  clear H'
  try clear p2
  obtain ⟨ab, ad, aa, rfl, rfl, HA, HK1, ac, HK, HB⟩ := hrel
  cases gk with
  | zero => exact absurd HA.out (by simp [laws_markExpectS.l0])
  | succ k1 =>
   have H := HA.out; clear HA
   simp only [laws_markExpectS.l0] at H
   by_cases c3 : aa < (ab.length : Int)
   ·rw [if_pos c3] at H
    have c3b0 : decide (aa < (ab.length : Int)) = true := decide_eq_true c3
    clear c3
    by_cases c4 : 0 ≤ aa
    ·rw [if_pos c4] at H
     have c4b0 : decide (0 ≤ aa) = true := decide_eq_true c4
     clear c4
     obtain ⟨ag, ah⟩ : ∃ y_ : List (S52), y_ = (ab.set (aa : Int).toNat (⟨ad, (rd_T52 ab aa).f1, (rd_T52 ab aa).f2⟩ : S52)) := ⟨_, rfl⟩
     replace H : ((some (ag.set (aa : Int).toNat (⟨(rd_T52 ag aa).f0, wrap64 (ad + 1), (rd_T52 ag aa).f2⟩ : S52) : List (S52))).bind fun ae => (laws_markExpectS.l0 k1 (ae.set (aa : Int).toNat (⟨(rd_T52 ae aa).f0, (rd_T52 ae aa).f1, wrap64 ((wrap64 (ad + 1)) + 1)⟩ : S52)) (wrap64 ((wrap64 ((wrap64 (ad + 1)) + 1)) + 1)) (wrap64 (aa + 1)))) = some (r1, r2) := by first | (rw [ah]; with_reducible exact H) | (have H2_ := (Option.bind_some _ _).symm.trans H; rw [ah]; with_reducible exact H2_) | (have H2_ := (Option.bind_some _ _).symm.trans H; with_reducible exact H2_) | with_reducible exact H | (rw [ah]; exact H) | exact H
     have Ny821 := zK ah; clear ah
     obtain ⟨ae, ai⟩ : ∃ y_ : List (S52), y_ = (ag.set (aa : Int).toNat (⟨(rd_T52 ag aa).f0, wrap64 (ad + 1), (rd_T52 ag aa).f2⟩ : S52)) := ⟨_, rfl⟩
     replace H : (laws_markExpectS.l0 k1 (ae.set (aa : Int).toNat (⟨(rd_T52 ae aa).f0, (rd_T52 ae aa).f1, wrap64 ((wrap64 (ad + 1)) + 1)⟩ : S52)) (wrap64 ((wrap64 ((wrap64 (ad + 1)) + 1)) + 1)) (wrap64 (aa + 1))) = some (r1, r2) := by first | (rw [ai]; with_reducible exact H) | (have H2_ := (Option.bind_some _ _).symm.trans H; rw [ai]; with_reducible exact H2_) | (have H2_ := (Option.bind_some _ _).symm.trans H; with_reducible exact H2_) | with_reducible exact H | (rw [ai]; exact H) | exact H
     have Ny822 := zK ai; clear ai
     obtain ⟨aD, aj⟩ : ∃ y_ : List (S52), y_ = (ae.set (aa : Int).toNat (⟨(rd_T52 ae aa).f0, (rd_T52 ae aa).f1, wrap64 ((wrap64 (ad + 1)) + 1)⟩ : S52)) := ⟨_, rfl⟩
     replace H : (laws_markExpectS.l0 k1 aD (wrap64 ((wrap64 ((wrap64 (ad + 1)) + 1)) + 1)) (wrap64 (aa + 1))) = some (r1, r2) := by first | (rw [aj]; with_reducible exact H) | (have H2_ := (Option.bind_some _ _).symm.trans H; rw [aj]; with_reducible exact H2_) | (have H2_ := (Option.bind_some _ _).symm.trans H; with_reducible exact H2_) | with_reducible exact H | (rw [aj]; exact H) | exact H
     have Ny823 := zK aj; clear aj; have H' := zK H; clear H
     obtain ⟨Ao8, aL, eo8⟩ := Kd.R_slice ac.out
     subst eo8
     have p5 : 0 ≤ (aa : Int) := of_decide_eq_true (by first | (with_reducible assumption) | assumption)
     have q5 : (aa : Int) < ((ab.length : Int) : Int) := of_decide_eq_true (by first | (with_reducible assumption) | assumption)
     obtain ⟨af, co5, eo5, gb5, gl5, cl5, HG5⟩ := Kd.R_form ac.out (by omega)
     (first | cases eo5 | (injection eo5 with ea_ en_ ec_; (first | subst ea_ | (injection ea_ with ea_; subst ea_)); subst ec_; clear en_))
     have GB5 := zK gb5; have GG5 := zK HG5; clear gb5 gl5 HG5
     have HMgo5 := zK (show (P0_ af ∨ w.heap.size ≤ af) from (ac.out.1 _ rfl))
     obtain ⟨ce5, hcl5, hM5, ao, ap⟩ := Kd.R_elem ac.out z52 (aa : Int) p5 q5
     obtain rfl := k52_openM hM5
     have hx5_0 : wr.cell? ⟨af, (aa : Int).toNat * 3, none⟩ = some (.int .i64 ((rd_T52 ab aa).f0)) := ao 0 _ rfl
     have hx5_1 : wr.cell? ⟨af, (aa : Int).toNat * 3 + 1, none⟩ = some (.int .i64 ((rd_T52 ab aa).f1)) := ao 1 _ rfl
     have hx5_2 : wr.cell? ⟨af, (aa : Int).toNat * 3 + 2, none⟩ = some (.int .i64 ((rd_T52 ab aa).f2)) := ao 2 _ rfl
     have hf5_0 : wr.frozen? ⟨af, (aa : Int).toNat * 3, none⟩ = false := ap 0
     have hf5_1 : wr.frozen? ⟨af, (aa : Int).toNat * 3 + 1, none⟩ = false := ap 1
     have hf5_2 : wr.frozen? ⟨af, (aa : Int).toNat * 3 + 2, none⟩ = false := ap 2
     clear hcl5 ao ap; (try clear hM5)
     replace p5 := eq_true p5; replace q5 := eq_true q5
     have HX9 := zK (show Kd.R k52 52 wr w0.heap.size (fun k_ => (P0_ k_ ∨ w.heap.size ≤ k_)) (.slice (some ⟨af, 0, none⟩) ab.length aL) ab from (zR ac))
     obtain ⟨ce9, aM, hM9, aE, aN⟩ := Kd.R_elem HX9.out z52 (aa : Int) (of_decide_eq_true (by first | (with_reducible assumption) | assumption)) (by have h_ : (aa : Int) < ((ab.length : Int) : Int) := of_decide_eq_true (by first | (with_reducible assumption) | assumption); first | exact h_ | (have e_ := (Kd.R_reads' ac.out).1; omega) | simpa using h_)
     obtain rfl := k52_openM hM9
     have HP9 := Kd.R_seg HX9.out (aa : Int) (of_decide_eq_true (by first | (with_reducible assumption) | assumption)) (by have h_ : (aa : Int) < ((ab.length : Int) : Int) := of_decide_eq_true (by first | (with_reducible assumption) | assumption); first | exact h_ | (have e_ := (Kd.R_reads' ac.out).1; omega) | simpa using h_) (seg := [.int .i64 ad]) (j := 0) aM aE (show 1 ≤ 3 from by decide) (x' := (⟨ad, (rd_T52 ab aa).f1, (rd_T52 ab aa).f2⟩ : S52)) (k52_mkM _ _ _ (⟨ad, (rd_T52 ab aa).f1, (rd_T52 ab aa).f2⟩ : S52) ) (fun _ hk => hk)
     have aO := aE 0 _ rfl; (try simp only [show (k52).sz = 3 from rfl, Nat.mul_one, Nat.add_zero] at aO); have aP := aN 0; (try simp only [show (k52).sz = 3 from rfl, Nat.mul_one, Nat.add_zero] at aP)
     clear aM aE aN; (try clear hM9)
     go_wp2_with (first | ((with_reducible refine gate_store (t := 3) (p := 16) rfl ?_); refine store_event (t := 3) (p := 16) (v := ?vo_w10) (w1 := (wr.setCell ⟨af, (aa : Int).toNat * 3, none⟩ (.int .i64 ad))) ?hg ?ho ?hn ?hr ?_; (case ho => rfl); (case hg => rfl); (case hn => rfl); (case hr => first | (go_simp; done) | (go_simp; rfl)); intro ak hw; have hg : wr.grownBy ak (some af) := (by rw [hw]; exact HP9.2); have hp_ : Kd.R k52 52 ak w0.heap.size (fun k_ => (P0_ k_ ∨ w.heap.size ≤ k_)) (.slice (some ⟨af, 0, none⟩) ab.length aL) ag := (by rw [hw, Ny821.out]; exact HP9.1); clear HP9; have aw := zK (hp_); have ax := zK ((by rw [hw]; exact zS (HB.out) GB5.out : Below w0.heap.size w0 ak)); have ay := zK (Kept.of_grown (S := (fun k_ => P0_ k_)) hg (by repeat (first | (with_reducible first | exact HK.out | apply Kept.alloc | apply Kept.drewN | apply Kept.drew) | exact HK.out)) (fun k_ e_ => (ac.out.1 k_ e_))); clear ac; clear HB; clear HK; have ac := aw; have HB := ax; have HK := ay; clear aw ax ay; clear hg hw hp_; have p6 : 0 ≤ (aa : Int) := of_decide_eq_true (by first | (with_reducible assumption) | assumption); have q6 : (aa : Int) < ((ab.length : Int) : Int) := of_decide_eq_true (by first | (with_reducible assumption) | assumption); obtain ⟨ce6, hcl6, hM6, aq, ar⟩ := Kd.R_elem ac.out z52 (aa : Int) p6 q6; obtain rfl := k52_openM hM6; have hx6_0 : ak.cell? ⟨af, (aa : Int).toNat * 3, none⟩ = some (.int .i64 ((rd_T52 ag aa).f0)) := aq 0 _ rfl; have hx6_1 : ak.cell? ⟨af, (aa : Int).toNat * 3 + 1, none⟩ = some (.int .i64 ((rd_T52 ag aa).f1)) := aq 1 _ rfl; have hx6_2 : ak.cell? ⟨af, (aa : Int).toNat * 3 + 2, none⟩ = some (.int .i64 ((rd_T52 ag aa).f2)) := aq 2 _ rfl; have hf6_0 : ak.frozen? ⟨af, (aa : Int).toNat * 3, none⟩ = false := ar 0; have hf6_1 : ak.frozen? ⟨af, (aa : Int).toNat * 3 + 1, none⟩ = false := ar 1; have hf6_2 : ak.frozen? ⟨af, (aa : Int).toNat * 3 + 2, none⟩ = false := ar 2; clear hcl6 aq ar; (try clear hM6); replace p6 := eq_true p6; replace q6 := eq_true q6; have aQ := zK (show Kd.R k52 52 ak w0.heap.size (fun k_ => (P0_ k_ ∨ w.heap.size ≤ k_)) (.slice (some ⟨af, 0, none⟩) ab.length aL) ag from (zR ac)); obtain ⟨ce11, az, aR, am, aA⟩ := Kd.R_elem aQ.out z52 (aa : Int) (of_decide_eq_true (by first | (with_reducible assumption) | assumption)) (by have h_ : (aa : Int) < ((ab.length : Int) : Int) := of_decide_eq_true (by first | (with_reducible assumption) | assumption); first | exact h_ | (have e_ := (Kd.R_reads' ac.out).1; omega) | simpa using h_); obtain rfl := k52_openM aR; have aF := Kd.R_seg aQ.out (aa : Int) (of_decide_eq_true (by first | (with_reducible assumption) | assumption)) (by have h_ : (aa : Int) < ((ab.length : Int) : Int) := of_decide_eq_true (by first | (with_reducible assumption) | assumption); first | exact h_ | (have e_ := (Kd.R_reads' ac.out).1; omega) | simpa using h_) (seg := [.int .i64 (wrap64 (ad + 1))]) (j := 1) az am (show 2 ≤ 3 from by decide) (x' := (⟨(rd_T52 ag aa).f0, wrap64 (ad + 1), (rd_T52 ag aa).f2⟩ : S52)) (k52_mkM _ _ _ (⟨(rd_T52 ag aa).f0, wrap64 (ad + 1), (rd_T52 ag aa).f2⟩ : S52) ) (fun _ hk => hk); have aG := am 1 _ rfl; (try simp only [show (k52).sz = 3 from rfl, Nat.mul_one, Nat.add_zero] at aG); have aH := aA 1; (try simp only [show (k52).sz = 3 from rfl, Nat.mul_one, Nat.add_zero] at aH); clear az am aA; (try clear aR)) | ((with_reducible refine gate_store (t := 3) (p := 23) rfl ?_); refine store_event (t := 3) (p := 23) (v := ?vo_w12) (w1 := (ak.setCell ⟨af, (aa : Int).toNat * 3 + 1, none⟩ (.int .i64 (wrap64 (ad + 1))))) ?hg ?ho ?hn ?hr ?_; (case ho => rfl); (case hg => rfl); (case hn => rfl); (case hr => first | (go_simp; done) | (go_simp; rfl)); intro al hw; have hg : ak.grownBy al (some af) := (by rw [hw]; exact aF.2); have hp_ : Kd.R k52 52 al w0.heap.size (fun k_ => (P0_ k_ ∨ w.heap.size ≤ k_)) (.slice (some ⟨af, 0, none⟩) ab.length aL) ae := (by rw [hw, Ny822.out]; exact aF.1); clear aF; have aw := zK (hp_); have ax := zK ((by rw [hw]; exact zS (HB.out) GB5.out : Below w0.heap.size w0 al)); have ay := zK (Kept.of_grown (S := (fun k_ => P0_ k_)) hg (by repeat (first | (with_reducible first | exact HK.out | apply Kept.alloc | apply Kept.drewN | apply Kept.drew) | exact HK.out)) (fun k_ e_ => (ac.out.1 k_ e_))); clear ac; clear HB; clear HK; have ac := aw; have HB := ax; have HK := ay; clear aw ax ay; clear hg hw hp_; have p7 : 0 ≤ (aa : Int) := of_decide_eq_true (by first | (with_reducible assumption) | assumption); have q7 : (aa : Int) < ((ab.length : Int) : Int) := of_decide_eq_true (by first | (with_reducible assumption) | assumption); obtain ⟨ce7, hcl7, hM7, au, av⟩ := Kd.R_elem ac.out z52 (aa : Int) p7 q7; obtain rfl := k52_openM hM7; have hx7_0 : al.cell? ⟨af, (aa : Int).toNat * 3, none⟩ = some (.int .i64 ((rd_T52 ae aa).f0)) := au 0 _ rfl; have hx7_1 : al.cell? ⟨af, (aa : Int).toNat * 3 + 1, none⟩ = some (.int .i64 ((rd_T52 ae aa).f1)) := au 1 _ rfl; have hx7_2 : al.cell? ⟨af, (aa : Int).toNat * 3 + 2, none⟩ = some (.int .i64 ((rd_T52 ae aa).f2)) := au 2 _ rfl; have hf7_0 : al.frozen? ⟨af, (aa : Int).toNat * 3, none⟩ = false := av 0; have hf7_1 : al.frozen? ⟨af, (aa : Int).toNat * 3 + 1, none⟩ = false := av 1; have hf7_2 : al.frozen? ⟨af, (aa : Int).toNat * 3 + 2, none⟩ = false := av 2; clear hcl7 au av; (try clear hM7); replace p7 := eq_true p7; replace q7 := eq_true q7; have aS := zK (show Kd.R k52 52 al w0.heap.size (fun k_ => (P0_ k_ ∨ w.heap.size ≤ k_)) (.slice (some ⟨af, 0, none⟩) ab.length aL) ae from (zR ac)); obtain ⟨ce13, aB, aT, an, aC⟩ := Kd.R_elem aS.out z52 (aa : Int) (of_decide_eq_true (by first | (with_reducible assumption) | assumption)) (by have h_ : (aa : Int) < ((ab.length : Int) : Int) := of_decide_eq_true (by first | (with_reducible assumption) | assumption); first | exact h_ | (have e_ := (Kd.R_reads' ac.out).1; omega) | simpa using h_); obtain rfl := k52_openM aT; have aI := Kd.R_seg aS.out (aa : Int) (of_decide_eq_true (by first | (with_reducible assumption) | assumption)) (by have h_ : (aa : Int) < ((ab.length : Int) : Int) := of_decide_eq_true (by first | (with_reducible assumption) | assumption); first | exact h_ | (have e_ := (Kd.R_reads' ac.out).1; omega) | simpa using h_) (seg := [.int .i64 (wrap64 ((wrap64 (ad + 1)) + 1))]) (j := 2) aB an (show 3 ≤ 3 from by decide) (x' := (⟨(rd_T52 ae aa).f0, (rd_T52 ae aa).f1, wrap64 ((wrap64 (ad + 1)) + 1)⟩ : S52)) (k52_mkM _ _ _ (⟨(rd_T52 ae aa).f0, (rd_T52 ae aa).f1, wrap64 ((wrap64 (ad + 1)) + 1)⟩ : S52) ) (fun _ hk => hk); have aJ := an 2 _ rfl; (try simp only [show (k52).sz = 3 from rfl, Nat.mul_one, Nat.add_zero] at aJ); have aK := aC 2; (try simp only [show (k52).sz = 3 from rfl, Nat.mul_one, Nat.add_zero] at aK); clear aB an aC; (try clear aT)) | ((with_reducible refine gate_store (t := 3) (p := 30) rfl ?_); refine store_event (t := 3) (p := 30) (v := ?vo_w14) (w1 := (al.setCell ⟨af, (aa : Int).toNat * 3 + 2, none⟩ (.int .i64 (wrap64 ((wrap64 (ad + 1)) + 1))))) ?hg ?ho ?hn ?hr ?_; (case ho => rfl); (case hg => rfl); (case hn => rfl); (case hr => first | (go_simp; done) | (go_simp; rfl)); intro w14 hw; have hg : al.grownBy w14 (some af) := (by rw [hw]; exact aI.2); have hp_ : Kd.R k52 52 w14 w0.heap.size (fun k_ => (P0_ k_ ∨ w.heap.size ≤ k_)) (.slice (some ⟨af, 0, none⟩) ab.length aL) aD := (by rw [hw, Ny823.out]; exact aI.1); clear aI; have aw := zK (hp_); have ax := zK ((by rw [hw]; exact zS (HB.out) GB5.out : Below w0.heap.size w0 w14)); have ay := zK (Kept.of_grown (S := (fun k_ => P0_ k_)) hg (by repeat (first | (with_reducible first | exact HK.out | apply Kept.alloc | apply Kept.drewN | apply Kept.drew) | exact HK.out)) (fun k_ e_ => (ac.out.1 k_ e_))); clear ac; clear HB; clear HK; have ac := aw; have HB := ax; have HK := ay; clear aw ax ay; clear hg hw hp_))
     go_roundg k1
     case measure => have := HK1.out; omega
     case rel => exact ⟨(aD), (wrap64 ((wrap64 ((wrap64 (ad + 1)) + 1)) + 1)), (wrap64 (aa + 1)), (by first | rfl | (simp; done) | (simp [*]; done)), (by first | rfl | (simp; done) | (simp [*]; done)), H', ⟨by have := HK1.out; omega⟩, ⟨zR ac⟩, ⟨by repeat (first | (with_reducible first | exact HK.out | apply Kept.alloc | apply Kept.drewN | apply Kept.drew) | exact HK.out)⟩, ⟨zb HB⟩⟩
    ·rw [if_neg c4] at H
     exact absurd H (by simp)
   ·rw [if_neg c3] at H
    have c3b0 : decide (aa < (ab.length : Int)) = false := decide_eq_false c3
    clear c3
    simp only [Option.some.injEq, Prod.mk.injEq] at H
    obtain ⟨rfl, rfl⟩ := H
    obtain ⟨Ao15, co15, eo15⟩ := Kd.R_slice ac.out
    subst eo15
    go_wp2
    go_ret
    exact ⟨by first | rfl | (simp [errW_none, errW_some] <;> rfl) | (simp [*, errW_none, errW_some] <;> rfl), by (with_reducible repeat (first | apply Kd.R_alloc | apply Kd.R_drewN | apply Kd.R_drew)); exact ac.out, by repeat (first | (with_reducible first | exact HB.out | apply zB | apply zC | apply zE) | exact HB.out), by repeat (first | (with_reducible first | exact HK.out | apply Kept.alloc | apply Kept.drewN | apply Kept.drew) | exact HK.out)⟩
def laws_markSightS.l0 : Nat → List (S89) → Int → Int → Option (Int × (List (S89)))
 | 0, _, _, _ => none
 | k + 1, x0, x1, x5 => if x5 < (x0.length : Int) then (if 0 ≤ x5 then ((some (x0.set (x5 : Int).toNat (⟨x1, (rd_T89 x0 x5).f1⟩ : S89) : List (S89))).bind fun y824 => (laws_markSightS.l0 k (y824.set (x5 : Int).toNat (⟨(rd_T89 y824 x5).f0, wrap64 (x1 + 1)⟩ : S89)) (wrap64 ((wrap64 (x1 + 1)) + 1)) (wrap64 (x5 + 1)))) else (none)) else (some (x1, x0))
def laws_markSightS.f (k : Nat) (l0 : List (S89)) (a1 : Int) : Option (Int × (List (S89))) := laws_markSightS.l0 k l0 a1 0
set_option maxHeartbeats 8000000 in
set_option maxRecDepth 100000 in
theorem laws_markSightS.calls (k : Nat) (P0_ : Nat → Prop) (u9000_ : Value) (l0 : List (S89)) (a1 : Int) (r1 : Int) (r2 : List (S89)) (w0 w : World) (hB : Below w0.heap.size w0 w) (ho0 : Kd.R k89 89 w w0.heap.size P0_ u9000_ l0) (h : laws_markSightS.f k l0 a1 = some (r1, r2)) :
  Calls Try.prog 52 #[u9000_, .int .i64 a1] w fun e w' => e = .returned (.int .i64 r1) ∧ Kd.R k89 89 w' w0.heap.size (fun k_ => (P0_ k_ ∨ w.heap.size ≤ k_)) u9000_ r2 ∧ Below w0.heap.size w0 w' ∧ Kept w w' (fun k_ => P0_ k_) := by
 have HO0 := zK (show Kd.R k89 89 w w0.heap.size (fun k_ => (P0_ k_ ∨ w.heap.size ≤ k_)) u9000_ l0 from Kd.R_mono ho0 (fun k_ hk => (.inl hk)))
 have HK := zK (Kept.refl w (fun k_ => P0_ k_))
 have HW0 := zK hB.size; have HB := zK hB; clear hB
 have H : (laws_markSightS.l0 k l0 a1 0) = some (r1, r2) := h
 clear h; have H' := zK H; clear H
 go_enter Try.func52, Try.ntmps52
 go_wp2
 go_loopg [1, 5] k (fun kq v1 v5 w' => ∃ (ab : List (S89)) (ad : Int) (aa : Int), v1 = .int .i64 ad ∧ v5 = .int .i64 aa ∧ Aside0 (laws_markSightS.l0 kq ab ad aa = some (r1, r2)) ∧ Aside0 (kq ≤ k) ∧ Aside0 (Kd.R k89 89 w' w0.heap.size (fun k_ => (P0_ k_ ∨ w.heap.size ≤ k_)) u9000_ ab) ∧ Aside0 (Kept w w' (fun k_ => P0_ k_)) ∧ Aside0 (Below w0.heap.size w0 w'))
 case atStart => exact ⟨(l0), (a1), (0), (by first | rfl | (simp; done) | (simp [*]; done)), (by first | rfl | (simp; done) | (simp [*]; done)), H', ⟨Nat.le_refl _⟩, ⟨zR HO0⟩, ⟨by repeat (first | (with_reducible first | exact HK.out | apply Kept.alloc | apply Kept.drewN | apply Kept.drew) | exact HK.out)⟩, ⟨zb HB⟩⟩
 case round =>
  clear H'
  try clear p2
  obtain ⟨ab, ad, aa, rfl, rfl, HA, HK1, ac, HK, HB⟩ := hrel
  cases gk with
  | zero => exact absurd HA.out (by simp [laws_markSightS.l0])
  | succ k1 =>
   have H := HA.out; clear HA
   simp only [laws_markSightS.l0] at H
   by_cases c3 : aa < (ab.length : Int)
   ·rw [if_pos c3] at H
    have c3b0 : decide (aa < (ab.length : Int)) = true := decide_eq_true c3
    clear c3
    by_cases c4 : 0 ≤ aa
    ·rw [if_pos c4] at H
     have c4b0 : decide (0 ≤ aa) = true := decide_eq_true c4
     clear c4
     obtain ⟨ae, ag⟩ : ∃ y_ : List (S89), y_ = (ab.set (aa : Int).toNat (⟨ad, (rd_T89 ab aa).f1⟩ : S89)) := ⟨_, rfl⟩
     replace H : (laws_markSightS.l0 k1 (ae.set (aa : Int).toNat (⟨(rd_T89 ae aa).f0, wrap64 (ad + 1)⟩ : S89)) (wrap64 ((wrap64 (ad + 1)) + 1)) (wrap64 (aa + 1))) = some (r1, r2) := by first | (rw [ag]; with_reducible exact H) | (have H2_ := (Option.bind_some _ _).symm.trans H; rw [ag]; with_reducible exact H2_) | (have H2_ := (Option.bind_some _ _).symm.trans H; with_reducible exact H2_) | with_reducible exact H | (rw [ag]; exact H) | exact H
     have Ny824 := zK ag; clear ag
     obtain ⟨al, ah⟩ : ∃ y_ : List (S89), y_ = (ae.set (aa : Int).toNat (⟨(rd_T89 ae aa).f0, wrap64 (ad + 1)⟩ : S89)) := ⟨_, rfl⟩
     replace H : (laws_markSightS.l0 k1 al (wrap64 ((wrap64 (ad + 1)) + 1)) (wrap64 (aa + 1))) = some (r1, r2) := by first | (rw [ah]; with_reducible exact H) | (have H2_ := (Option.bind_some _ _).symm.trans H; rw [ah]; with_reducible exact H2_) | (have H2_ := (Option.bind_some _ _).symm.trans H; with_reducible exact H2_) | with_reducible exact H | (rw [ah]; exact H) | exact H
     have Ny825 := zK ah; clear ah; have H' := zK H; clear H
     obtain ⟨Ao7, co7, eo7⟩ := Kd.R_slice ac.out
     subst eo7
     have p5 : 0 ≤ (aa : Int) := of_decide_eq_true (by first | (with_reducible assumption) | assumption)
     have q5 : (aa : Int) < ((ab.length : Int) : Int) := of_decide_eq_true (by first | (with_reducible assumption) | assumption)
     obtain ⟨af, co5, eo5, gb5, gl5, cl5, HG5⟩ := Kd.R_form ac.out (by omega)
     (first | cases eo5 | (injection eo5 with ea_ en_ ec_; (first | subst ea_ | (injection ea_ with ea_; subst ea_)); subst ec_; clear en_))
     have GB5 := zK gb5; have GG5 := zK HG5; clear gb5 gl5 HG5
     have HMgo5 := zK (show (P0_ af ∨ w.heap.size ≤ af) from (ac.out.1 _ rfl))
     obtain ⟨ce5, hcl5, hM5, am, an⟩ := Kd.R_elem ac.out z89 (aa : Int) p5 q5
     obtain rfl := k89_openM hM5
     have hx5_0 : wr.cell? ⟨af, (aa : Int).toNat * 2, none⟩ = some (.int .i64 ((rd_T89 ab aa).f0)) := am 0 _ rfl
     have hx5_1 : wr.cell? ⟨af, (aa : Int).toNat * 2 + 1, none⟩ = some (.int .i64 ((rd_T89 ab aa).f1)) := am 1 _ rfl
     have hf5_0 : wr.frozen? ⟨af, (aa : Int).toNat * 2, none⟩ = false := an 0
     have hf5_1 : wr.frozen? ⟨af, (aa : Int).toNat * 2 + 1, none⟩ = false := an 1
     clear hcl5 am an; (try clear hM5)
     replace p5 := eq_true p5; replace q5 := eq_true q5
     have HX8 := zK (show Kd.R k89 89 wr w0.heap.size (fun k_ => (P0_ k_ ∨ w.heap.size ≤ k_)) (.slice (some ⟨af, 0, none⟩) ab.length co7) ab from (zR ac))
     obtain ⟨ce8, aw, hM8, ao, ax⟩ := Kd.R_elem HX8.out z89 (aa : Int) (of_decide_eq_true (by first | (with_reducible assumption) | assumption)) (by have h_ : (aa : Int) < ((ab.length : Int) : Int) := of_decide_eq_true (by first | (with_reducible assumption) | assumption); first | exact h_ | (have e_ := (Kd.R_reads' ac.out).1; omega) | simpa using h_)
     obtain rfl := k89_openM hM8
     have HP8 := Kd.R_seg HX8.out (aa : Int) (of_decide_eq_true (by first | (with_reducible assumption) | assumption)) (by have h_ : (aa : Int) < ((ab.length : Int) : Int) := of_decide_eq_true (by first | (with_reducible assumption) | assumption); first | exact h_ | (have e_ := (Kd.R_reads' ac.out).1; omega) | simpa using h_) (seg := [.int .i64 ad]) (j := 0) aw ao (show 1 ≤ 2 from by decide) (x' := (⟨ad, (rd_T89 ab aa).f1⟩ : S89)) (k89_mkM _ _ _ (⟨ad, (rd_T89 ab aa).f1⟩ : S89) ) (fun _ hk => hk)
     have ay := ao 0 _ rfl; (try simp only [show (k89).sz = 2 from rfl, Nat.mul_one, Nat.add_zero] at ay); have az := ax 0; (try simp only [show (k89).sz = 2 from rfl, Nat.mul_one, Nat.add_zero] at az)
     clear aw ao ax; (try clear hM8)
     go_wp2_with (first | ((with_reducible refine gate_store (t := 3) (p := 16) rfl ?_); refine store_event (t := 3) (p := 16) (v := ?vo_w9) (w1 := (wr.setCell ⟨af, (aa : Int).toNat * 2, none⟩ (.int .i64 ad))) ?hg ?ho ?hn ?hr ?_; (case ho => rfl); (case hg => rfl); (case hn => rfl); (case hr => first | (go_simp; done) | (go_simp; rfl)); intro w9 hw; have hg : wr.grownBy w9 (some af) := (by rw [hw]; exact HP8.2); have hp_ : Kd.R k89 89 w9 w0.heap.size (fun k_ => (P0_ k_ ∨ w.heap.size ≤ k_)) (.slice (some ⟨af, 0, none⟩) ab.length co7) ae := (by rw [hw, Ny824.out]; exact HP8.1); clear HP8; have aA := zK (hp_); have aB := zK ((by rw [hw]; exact zS (HB.out) GB5.out : Below w0.heap.size w0 w9)); have aC := zK (Kept.of_grown (S := (fun k_ => P0_ k_)) hg (by repeat (first | (with_reducible first | exact HK.out | apply Kept.alloc | apply Kept.drewN | apply Kept.drew) | exact HK.out)) (fun k_ e_ => (ac.out.1 k_ e_))); clear ac; clear HB; clear HK; have ac := aA; have HB := aB; have HK := aC; clear aA aB aC; clear hg hw hp_; have p6 : 0 ≤ (aa : Int) := of_decide_eq_true (by first | (with_reducible assumption) | assumption); have q6 : (aa : Int) < ((ab.length : Int) : Int) := of_decide_eq_true (by first | (with_reducible assumption) | assumption); obtain ⟨ce6, hcl6, hM6, ap, aq⟩ := Kd.R_elem ac.out z89 (aa : Int) p6 q6; obtain rfl := k89_openM hM6; have hx6_0 : w9.cell? ⟨af, (aa : Int).toNat * 2, none⟩ = some (.int .i64 ((rd_T89 ae aa).f0)) := ap 0 _ rfl; have hx6_1 : w9.cell? ⟨af, (aa : Int).toNat * 2 + 1, none⟩ = some (.int .i64 ((rd_T89 ae aa).f1)) := ap 1 _ rfl; have hf6_0 : w9.frozen? ⟨af, (aa : Int).toNat * 2, none⟩ = false := aq 0; have hf6_1 : w9.frozen? ⟨af, (aa : Int).toNat * 2 + 1, none⟩ = false := aq 1; clear hcl6 ap aq; (try clear hM6); replace p6 := eq_true p6; replace q6 := eq_true q6; have aD := zK (show Kd.R k89 89 w9 w0.heap.size (fun k_ => (P0_ k_ ∨ w.heap.size ≤ k_)) (.slice (some ⟨af, 0, none⟩) ab.length co7) ae from (zR ac)); obtain ⟨ce10, aj, aE, ai, ak⟩ := Kd.R_elem aD.out z89 (aa : Int) (of_decide_eq_true (by first | (with_reducible assumption) | assumption)) (by have h_ : (aa : Int) < ((ab.length : Int) : Int) := of_decide_eq_true (by first | (with_reducible assumption) | assumption); first | exact h_ | (have e_ := (Kd.R_reads' ac.out).1; omega) | simpa using h_); obtain rfl := k89_openM aE; have ar := Kd.R_seg aD.out (aa : Int) (of_decide_eq_true (by first | (with_reducible assumption) | assumption)) (by have h_ : (aa : Int) < ((ab.length : Int) : Int) := of_decide_eq_true (by first | (with_reducible assumption) | assumption); first | exact h_ | (have e_ := (Kd.R_reads' ac.out).1; omega) | simpa using h_) (seg := [.int .i64 (wrap64 (ad + 1))]) (j := 1) aj ai (show 2 ≤ 2 from by decide) (x' := (⟨(rd_T89 ae aa).f0, wrap64 (ad + 1)⟩ : S89)) (k89_mkM _ _ _ (⟨(rd_T89 ae aa).f0, wrap64 (ad + 1)⟩ : S89) ) (fun _ hk => hk); have au := ai 1 _ rfl; (try simp only [show (k89).sz = 2 from rfl, Nat.mul_one, Nat.add_zero] at au); have av := ak 1; (try simp only [show (k89).sz = 2 from rfl, Nat.mul_one, Nat.add_zero] at av); clear aj ai ak; (try clear aE)) | ((with_reducible refine gate_store (t := 3) (p := 23) rfl ?_); refine store_event (t := 3) (p := 23) (v := ?vo_w11) (w1 := (w9.setCell ⟨af, (aa : Int).toNat * 2 + 1, none⟩ (.int .i64 (wrap64 (ad + 1))))) ?hg ?ho ?hn ?hr ?_; (case ho => rfl); (case hg => rfl); (case hn => rfl); (case hr => first | (go_simp; done) | (go_simp; rfl)); intro w11 hw; have hg : w9.grownBy w11 (some af) := (by rw [hw]; exact ar.2); have hp_ : Kd.R k89 89 w11 w0.heap.size (fun k_ => (P0_ k_ ∨ w.heap.size ≤ k_)) (.slice (some ⟨af, 0, none⟩) ab.length co7) al := (by rw [hw, Ny825.out]; exact ar.1); clear ar; have aA := zK (hp_); have aB := zK ((by rw [hw]; exact zS (HB.out) GB5.out : Below w0.heap.size w0 w11)); have aC := zK (Kept.of_grown (S := (fun k_ => P0_ k_)) hg (by repeat (first | (with_reducible first | exact HK.out | apply Kept.alloc | apply Kept.drewN | apply Kept.drew) | exact HK.out)) (fun k_ e_ => (ac.out.1 k_ e_))); clear ac; clear HB; clear HK; have ac := aA; have HB := aB; have HK := aC; clear aA aB aC; clear hg hw hp_))
     go_roundg k1
     case measure => have := HK1.out; omega
     case rel => exact ⟨(al), (wrap64 ((wrap64 (ad + 1)) + 1)), (wrap64 (aa + 1)), (by first | rfl | (simp; done) | (simp [*]; done)), (by first | rfl | (simp; done) | (simp [*]; done)), H', ⟨by have := HK1.out; omega⟩, ⟨zR ac⟩, ⟨by repeat (first | (with_reducible first | exact HK.out | apply Kept.alloc | apply Kept.drewN | apply Kept.drew) | exact HK.out)⟩, ⟨zb HB⟩⟩
    ·rw [if_neg c4] at H
     exact absurd H (by simp)
   ·rw [if_neg c3] at H
    have c3b0 : decide (aa < (ab.length : Int)) = false := decide_eq_false c3
    clear c3
    simp only [Option.some.injEq, Prod.mk.injEq] at H
    obtain ⟨rfl, rfl⟩ := H
    obtain ⟨Ao12, co12, eo12⟩ := Kd.R_slice ac.out
    subst eo12
    go_wp2
    go_ret
    exact ⟨by first | rfl | (simp [errW_none, errW_some] <;> rfl) | (simp [*, errW_none, errW_some] <;> rfl), by (with_reducible repeat (first | apply Kd.R_alloc | apply Kd.R_drewN | apply Kd.R_drew)); exact ac.out, by repeat (first | (with_reducible first | exact HB.out | apply zB | apply zC | apply zE) | exact HB.out), by repeat (first | (with_reducible first | exact HK.out | apply Kept.alloc | apply Kept.drewN | apply Kept.drew) | exact HK.out)⟩
end Go.Proofs.Ytdmbfmfdijgdkaa.Px
