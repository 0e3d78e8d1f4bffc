import Derived.Test.YtheckjlldkkceaaZnPx0
namespace Go.Proofs.Ytheckjlldkkceaa.Px
open Go.RowKit Go.Proofs.YtheckjlldkkceaaW.PrintWords Go.Proofs.YtheckjlldkkceaaW.PrintLast Go.Proofs.YtheckjlldkkceaaW.PrintMore
attribute [local go_sem] max2_int min2_int max_two min_two max_three min_three max_four min_four   
set_option linter.unusedVariables false
set_option linter.unusedSimpArgs false
def impl_Kept_90.f (l0 : List S30) : Option (List S30) := if l0.length * 16 ≤ 140737488355328 then (some l0) else (none)
set_option maxHeartbeats 4000000 in
set_option maxRecDepth 100000 in
theorem impl_Kept_90.calls (A0 : Option Addr) (c0 : Nat) (l0 : List S30) (r : List S30) (w : World) (aa : Kd.C k30 w A0 l0.length l0) (hc0 : l0.length ≤ c0) (h : impl_Kept_90.f l0 = some r) :
  Calls Try.prog 90 #[.slice A0 l0.length c0] w fun e w' => ∃ v0_ : Value, e = .returned (v0_) ∧ Kd.R k30 30 w' w.heap.size (fun _ => True) v0_ r ∧ Below w.heap.size w w' := by
 unfold impl_Kept_90.f at h
 by_cases hb : l0.length * 16 ≤ 140737488355328
 ·rw [if_pos hb] at h
  obtain rfl := Option.some.inj h
  have q : ∀ (w : World) (a : Option Addr) (n c n' c' : Nat), (binOp .eql 28 (.slice a n c) (.slice none n' c')).run Try.prog w = .ok (.bool a.isNone) w := fun w a n c n' c' => Lib.run_eql_slice_nil w _ _ a n c n' c' Try.underlying28
  cases A0 with
  | none =>
   have hl : l0 = [] := by
    cases l0 with
    | nil => rfl
    | cons x t => obtain ⟨ad, e, _⟩ := aa.2.2 (by simp); cases e
   subst hl; clear aa hc0 h hb
   go_enter Try.func90, Try.ntmps90
   go_wp2
   go_ret
   exact ⟨_, rfl, Kd.R_nil _ _ _ _ _, Below.refl _ _⟩
  | some ad =>
   obtain ⟨news, hnr, hnc⟩ := ReadsRow.inner_ aa
   obtain ⟨i0, hi, hz0, hz1, hz2⟩ : ∃ i0, Try.prog.info? 30 = some i0 ∧ i0.zero = some ((.agg #[(.int .i64 0), (.int .i64 0)])) ∧ i0.size = 2 ∧ i0.bytes = 16 := by
    have hx : (Try.prog.info? 30).map (fun i => (i.zero, i.size, i.bytes)) = some (some ((.agg #[(.int .i64 0), (.int .i64 0)])), 2, 16) := by kernel_rfl
    cases hh : Try.prog.info? 30 with
    | none => rw [hh] at hx; cases hx
    | some i =>
     rw [hh] at hx
     have hx1 := Option.some.inj hx
     exact ⟨i, rfl, congrArg Prod.fst hx1, congrArg (fun y => y.2.1) hx1, congrArg (fun y => y.2.2) hx1⟩
   have hone : ∀ u ∈ news, u.oneCell' = true := by
    intro u hu
    obtain ⟨j, hj, rfl⟩ := List.getElem_of_mem hu
    have hlen := hnr.1
    have hq : j / 2 < l0.length := by
     have : j < l0.length * 2 := by rw [← show (k30).sz = 2 from rfl]; omega
     omega
    refine (k30).K_one (hnr.2 (j / 2) _ (List.getElem?_eq_getElem hq)) _ ?_
    refine List.mem_of_getElem? (i := j % 2) ?_
    rw [show (k30).sz = 2 from rfl, List.getElem?_take, if_pos (by omega), List.getElem?_drop, show j / 2 * 2 + j % 2 = j by omega, List.getElem?_eq_getElem hj]
   have hlen : news.length = l0.length * 2 := hnr.1
   have hmax : l0.length ≤ maxLen := aa.2.1
   have X := zK (show (∀ j u, news[j]? = some u → w.cell? (ad.add j) = some u) ∧ Reps (Kd.K k30 w) (Kd.sz k30) l0 news from ⟨hnc, hnr⟩)
   clear hnc hnr aa h
   go_enter Try.func90, Try.ntmps90
   go_wp2_with (at_builtin; refine wpList_append_own _ rfl _ _ 28 rfl w.heap.size 30 i0 ((.agg #[(.int .i64 0), (.int .i64 0)])) 2 16 Try.underlying28 hi hz0 hz1 hz2 rfl (by decide) _ _ _ rfl (World.ownsRow_made w #[] 0 (Nat.le_refl _) (Nat.zero_le _) (by simp)) ad l0.length c0 news rfl ?qc1 ?qc2 ?qc3 ?qc4 ?qc5 ?qc6 ?_)
   case qc1 => exact hlen
   case qc2 =>
    intro j u hj
    exact Lib.cell?_alloc_some _ (X.out.1 j u hj)
   case qc3 => exact hone
   case qc4 => rw [Nat.zero_add]; exact hmax
   case qc5 => rw [Nat.zero_add]; exact hb
   case qc6 => simp
   intro v' w1 hown hgrow hnil
   go_wp2
   go_ret
   have hown2 : w1.ownsRow w.heap.size 30 2 v' l0.length news := by simpa using hown
   refine ⟨v', rfl, ⟨fun _ _ => trivial, news, hown2, X.out.2.imp_ (fun _ _ hp => hp)⟩, ?_⟩
   exact ((Below.refl _ w).alloc (Nat.le_refl _) _).grown hgrow (by simp) (by intro k hk; simp [Value.ownBlock] at hk; omega)
 ·rw [if_neg hb] at h
  cases h
def impl_copyStore.l0 : Nat → List (List (S30)) → Int → Int → Int → List (List (S30)) → Option (Int × (List (List (S30))))
 | 0, _, _, _, _, _ => none
 | k + 1, x10, x11, x12, x152000, x152001 => if x12 < x11 then (if 0 ≤ x12 then (if x12 < (x10.length : Int) then ((impl_Kept_90.f (rd_L2 x10 x12)).bind fun t153 => (if x152001.length < 5864062014805 then (impl_copyStore.l0 k x10 x11 (wrap64 (x12 + 1)) x152000 (x152001 ++ [t153])) else (none))) else (none)) else (none)) else (some (x152000, x152001))
def impl_copyStore.f (k : Nat) (a0_0 : Int) (l0_1 : List (List (S30))) : Option (Int × (List (List (S30)))) := impl_copyStore.l0 k l0_1 (l0_1.length : Int) 0 a0_0 ([] : List (List (S30)))
def impl_copyStore.T5 : Bool × List (List Nat × List Nat) := (true, [([], []), ([0], [0]), ([], []), ([2], [2]), ([3], [3]), ([1, 4, 3], [1, 4]), ([0, 1, 2, 3, 4, 5], []), ([6, 5, 5, 0, 1, 2, 3, 4, 5], [5, 6])])
def impl_copyStore.B5 : List Nat := [0, 1, 0, 4, 12, 31, 63, 127]
theorem impl_copyStore.tab5 : rtab .any (opsOf Try.f67 5) = impl_copyStore.T5 := by kernel_rfl
theorem impl_copyStore.bits5 : waitsOk impl_copyStore.T5.2 impl_copyStore.B5 = true := by kernel_rfl
set_option maxHeartbeats 8000000 in
set_option maxRecDepth 100000 in
theorem impl_copyStore.calls (k : Nat) (a0_0 : Int) (ar : Option Addr) (ao : Nat) (af : List (List (S30))) (r1 : Int) (r2 : List (List (S30))) (w : World) (aV : Kd.C (Kd.slice 30 k30) w ar af.length af) (hc0_1 : af.length ≤ ao) (h : impl_copyStore.f k a0_0 af = some (r1, r2)) :
  Calls Try.prog 67 #[.agg #[.int .i64 a0_0, .slice ar af.length ao]] w fun e w' => ∃ v1_ : Value, e = .returned (.agg #[.int .i64 r1, v1_]) ∧ Kd.S (Kd.slice 30 k30) 28 w' w.heap.size (fun _ => True) v1_ r2 ∧ Below w.heap.size w w' := by
 have hu24 := Try.underlying24; have bc := zK aV; have HC0_1 := zK hc0_1; clear aV hc0_1
 have HB := zK (Below.refl w.heap.size w)
 have H : (impl_copyStore.l0 k af (af.length : Int) 0 a0_0 ([] : List (List (S30)))) = some (r1, r2) := h
 clear h; have H' := zK H; clear H
 go_enter Try.func67, Try.ntmps67
 go_wp2_with (first | ((with_reducible refine gate_dst (N := 1) rfl ?_); refine box_event ?hg (N := 1) ?hd (cs := #[.int .i64 a0_0, .slice ar af.length ao]) (t := 24) ?hr ?_; (case hd => rfl); (case hg => rfl); (case hr => first | (go_simp; done) | (go_simp; rfl)); intro ag hg w2 hbox hb; have ay := zK (below_step (zb HB) hb); have az := zK (hbox); have aA := zK ((by rw [hg]; exact (below_size (zb HB)) : w.heap.size ≤ ag)); have aC := zK ((by rw [hg]; exact (below_size (zb HB)) : w.heap.size ≤ ag)); clear HB; have HB := ay; have ac := az; have GW149 := aA; have am := aC; clear ay az aA aC; clear hb hbox hg) | ((with_reducible refine gate_dst (N := 2) rfl ?_); refine box_event ?hg (N := 2) ?hd (cs := #[.int .i64 0, .slice none 0 0]) (t := 24) ?hr ?_; (case hd => rfl); (case hg => rfl); (case hr => first | (go_simp; done) | (go_simp; rfl)); intro ai hg w3 hbox hb; have ay := zK (blk_below (g := ag) (o := .cells #[.int .i64 a0_0, .slice ar af.length ao] 24 (0, 0)) (zk ac) hb); have az := zK (below_step (zb HB) hb); have aA := zK (hbox); have aC := zK ((by rw [hg]; exact (below_size (zb HB)) : w.heap.size ≤ ai)); have aE := zK ((by rw [hg]; exact (below_size (zb HB)) : w.heap.size ≤ ai)); have aW := zK ((by rw [hg]; exact Nat.ne_of_lt (blk_lt (g := ag) (o := .cells #[.int .i64 a0_0, .slice ar af.length ao] 24 (0, 0)) (zk ac)) : ag ≠ ai)); have bd := zK ((by rw [hg]; exact Nat.ne_of_gt (blk_lt (g := ag) (o := .cells #[.int .i64 a0_0, .slice ar af.length ao] 24 (0, 0)) (zk ac)) : ai ≠ ag)); clear ac; clear HB; have ac := ay; have HB := az; have ad := aA; have GW150 := aC; have an := aE; have av := aW; have aw := bd; clear ay az aA aC aE aW bd; clear hb hbox hg; have hnb4 := av.out; have hnc4 := aw.out; have aZ : w3.cell? ⟨ag, 0, none⟩ = some (.int .i64 a0_0) := (blk_cell ac.out 0).trans rfl; have a0 : w3.cell? ⟨ag, 1, none⟩ = some (.slice ar af.length ao) := (blk_cell ac.out 1).trans rfl; have a1 := blk_frozen ac.out 0; have a2 := blk_frozen ac.out 1) | ((with_reducible refine gate_dst (N := 3) rfl ?_); refine box_event ?hg (N := 3) ?hd (cs := #[.int .i64 0, .slice none 0 0]) (t := 24) ?hr ?_; (case hd => rfl); (case hg => rfl); (case hr => first | (go_simp; done) | (go_simp; rfl)); intro aj hg w6 hbox hb; have ay := zK (blk_below (g := ag) (o := .cells #[.int .i64 a0_0, .slice ar af.length ao] 24 (0, 0)) (zk ac) hb); have az := zK (blk_below (g := ai) (o := .cells #[.int .i64 0, .slice none 0 0] 24 (0, 0)) (zk ad) hb); have aA := zK (below_step (zb HB) hb); have aC := zK (hbox); have aE := zK ((by rw [hg]; exact (below_size (zb HB)) : w.heap.size ≤ aj)); have aW := zK ((by rw [hg]; exact (below_size (zb HB)) : w.heap.size ≤ aj)); have bd := zK ((by rw [hg]; exact Nat.ne_of_lt (blk_lt (g := ag) (o := .cells #[.int .i64 a0_0, .slice ar af.length ao] 24 (0, 0)) (zk ac)) : ag ≠ aj)); have n7_ := zK ((by rw [hg]; exact Nat.ne_of_gt (blk_lt (g := ag) (o := .cells #[.int .i64 a0_0, .slice ar af.length ao] 24 (0, 0)) (zk ac)) : aj ≠ ag)); have n8_ := zK ((by rw [hg]; exact Nat.ne_of_lt (blk_lt (g := ai) (o := .cells #[.int .i64 0, .slice none 0 0] 24 (0, 0)) (zk ad)) : ai ≠ aj)); have n9_ := zK ((by rw [hg]; exact Nat.ne_of_gt (blk_lt (g := ai) (o := .cells #[.int .i64 0, .slice none 0 0] 24 (0, 0)) (zk ad)) : aj ≠ ai)); clear ac; clear ad; clear HB; have ac := ay; have ad := az; have HB := aA; have ab := aC; have GW151 := aE; have au := aW; have ak := bd; have ap := n7_; have al := n8_; have aq := n9_; clear ay az aA aC aE aW bd n7_ n8_ n9_; clear hb hbox hg; have hnb7 := ap.out; have hnc7 := ak.out; have hnb8 := aq.out; have hnc8 := al.out; have a3 : w6.cell? ⟨aj, 0, none⟩ = some (.int .i64 0) := (blk_cell ab.out 0).trans rfl; have a4 : w6.cell? ⟨aj, 1, none⟩ = some (.slice none 0 0) := (blk_cell ab.out 1).trans rfl; have a5 := blk_frozen ab.out 0; have a6 := blk_frozen ab.out 1; have aK : w6.cell? ⟨ag, 0, none⟩ = some (.int .i64 a0_0) := (blk_cell ac.out 0).trans rfl; have aM : w6.cell? ⟨ag, 1, none⟩ = some (.slice ar af.length ao) := (blk_cell ac.out 1).trans rfl; have aN := blk_frozen ac.out 0; have aQ := blk_frozen ac.out 1))
 go_loopg [12] k (fun kq v12 w' => ∃ (ah : Int) (ae : List (List (S30))) (u152001 : Value), v12 = .int .i64 ah ∧ Aside0 (impl_copyStore.l0 kq af (af.length : Int) ah a0_0 ae = some (r1, r2)) ∧ Aside0 (kq ≤ k) ∧ Aside0 (Kd.S (Kd.slice 30 k30) 28 w' w.heap.size (fun _ => True) u152001 ae) ∧ Aside0 (w'.heap[ag]? = some (.cells #[.int .i64 a0_0, (.slice ar af.length ao)] 24 (0, 0))) ∧ Aside0 (w'.heap[ai]? = some (.cells #[.int .i64 0, (.slice none 0 0)] 24 (0, 0))) ∧ Aside0 (w'.heap[aj]? = some (.cells #[.int .i64 a0_0, u152001] 24 (0, 0))) ∧ Aside0 (Below w.heap.size w w'))
 case atStart => exact ⟨(0), (([] : List (List (S30)))), (.slice none 0 0), (by first | rfl | (simp; done) | (simp [*]; done)), H', ⟨Nat.le_refl _⟩, ⟨by first | exact Kd.S_nil _ _ _ _ _ | exact Kd.N_nil _ _ _ _ _ | exact Kd.V_nil _ _ _ _ _ | exact Kd.Q_nil _ _ _ _ _ | exact Kd.R_nil _ _ _ _ _⟩, ⟨by (with_reducible repeat (first | refine zN ?_ _ | refine zD ?_ | refine zA ?_ _)); refine blk_far ?_ ak.out _; (with_reducible repeat (first | refine zN ?_ _ | refine zD ?_ | refine zA ?_ _)); refine blk_far ?_ ak.out _; (with_reducible repeat (first | refine zN ?_ _ | refine zD ?_ | refine zA ?_ _)); exact ac.out⟩, ⟨by (with_reducible repeat (first | refine zN ?_ _ | refine zD ?_ | refine zA ?_ _)); refine blk_far ?_ al.out _; (with_reducible repeat (first | refine zN ?_ _ | refine zD ?_ | refine zA ?_ _)); refine blk_far ?_ al.out _; (with_reducible repeat (first | refine zN ?_ _ | refine zD ?_ | refine zA ?_ _)); exact ad.out⟩, ⟨by (with_reducible repeat (first | refine zN ?_ _ | refine zD ?_ | refine zA ?_ _)); refine blk_put (cs := #[.int .i64 a0_0, .slice none 0 0]) ?_ 1 _ rfl; (with_reducible repeat (first | refine zN ?_ _ | refine zD ?_ | refine zA ?_ _)); refine blk_put (cs := #[.int .i64 0, .slice none 0 0]) ?_ 0 _ rfl; (with_reducible repeat (first | refine zN ?_ _ | refine zD ?_ | refine zA ?_ _)); exact ab.out⟩, ⟨zb HB⟩⟩
 case round =>
  clear H'
  try clear p2
  try clear c4
  try clear c6
  try clear c7
  try clear c8
  try clear aK
  try clear aM
  try clear aZ
  try clear a0
  try clear a3
  try clear a4
  try clear aN
  try clear aQ
  try clear a1
  try clear a2
  try clear a5
  try clear a6
  obtain ⟨ah, ae, u152001, rfl, HA, HK1, aa, ac, ad, ab, HB⟩ := hrel
  cases gk with
  | zero => exact absurd HA.out (by simp [impl_copyStore.l0])
  | succ k1 =>
   have H := HA.out; clear HA
   simp only [impl_copyStore.l0] at H
   by_cases bb : ah < (af.length : Int)
   ·rw [if_pos bb] at H
    have be : decide (ah < (af.length : Int)) = true := decide_eq_true bb
    clear bb
    by_cases c12 : 0 ≤ ah
    ·rw [if_pos c12] at H
     have c12b0 : decide (0 ≤ ah) = true := decide_eq_true c12
     clear c12
     by_cases c13 : ah < (af.length : Int)
     ·rw [if_pos c13] at H
      have c13b0 : decide (ah < (af.length : Int)) = true := decide_eq_true c13
      clear c13; replace H := Option.bind_eq_some_iff.mp H
      obtain ⟨aJ, bf, H⟩ := H
      replace H : (if ae.length < 5864062014805 then (impl_copyStore.l0 k1 af (af.length : Int) (wrap64 (ah + 1)) a0_0 (ae ++ [aJ])) else (none)) = some (r1, r2) := H
      have A14 := zK bf; clear bf
      by_cases c15 : ae.length < 5864062014805
      ·rw [if_pos c15] at H
       have bg := zK c15; clear c15
       obtain ⟨aR, aD⟩ : ∃ y_ : List (List (S30)), y_ = (ae ++ [aJ]) := ⟨_, rfl⟩
       replace H : (impl_copyStore.l0 k1 af (af.length : Int) (wrap64 (ah + 1)) a0_0 aR) = some (r1, r2) := by first | (rw [aD]; with_reducible exact H) | (have H2_ := (Option.bind_some _ _).symm.trans H; rw [aD]; with_reducible exact H2_) | (have H2_ := (Option.bind_some _ _).symm.trans H; with_reducible exact H2_) | with_reducible exact H | (rw [aD]; exact H) | exact H
       have Ny156 := zK aD; clear aD; have H' := zK H; clear H
       have a7 : 0 ≤ (ah : Int) := zd
       have a8 : ah < (af.length : Int) := zd
       obtain ⟨aX, a9, ba, e152, ax, aG, aH⟩ := at_L2 bc.out ah a7 a8
       cases e152
       replace ax := (HB.out.cell (World.block_lt_of_cell? w _ ax)).trans ax
       have aT := zK aH; have aU := zK aG; clear aH aG; replace a7 := eq_true a7; replace a8 := eq_true a8
       try go_wp2
       have ay := zK (Kd.S_drew aa.out)
       have az := zK (zD ac.out)
       have aA := zK (zD ad.out)
       have aC := zK (zD ab.out)
       have aE := zK (zE HB.out)
       clear aa ac ad ab HB; have aa := ay; have ac := az; have ad := aA; have ab := aC; have HB := aE; clear ay az aA aC aE
       refine start_ (n := 8) (S := fun w' => w'.cell? ⟨aj, 0, none⟩ = some (.int .i64 a0_0) ∧ w'.cell? ⟨aj, 1, none⟩ = some (u152001)) (ds := [7]) #[ff, ff, ff, ff, ff, ff, ff, ff] (by kernel_rfl) rfl rfl ⟨(blk_cell ab.out 0).trans rfl, (blk_cell ab.out 1).trans rfl⟩ (fun hHeld => ?_); refine with_tabW impl_copyStore.tab5 impl_copyStore.bits5 (fun HT_ HW_ => ?_)
       generalize wr.drew = w16 at aa ac ad ab HB hHeld ⊢
       refine zu 0 (some 16) #[tt, ff, ff, ff, ff, ff, ff, ff] (any_of HT_.out (by kernel_rfl)) ?_
       refine zu 2 (some 18) #[tt, ff, tt, ff, ff, ff, ff, ff] (any_of HT_.out (by kernel_rfl)) ?_
       refine zt 1 (some 17) #[tt, tt, tt, ff, ff, ff, ff, ff] (take_ofW HT_.out HW_.out (by kernel_rfl)) hHeld ?_
       refine one_ (i := 3) (N := some 19) #[tt, tt, tt, tt, ff, ff, ff, ff] rfl rfl (one_of HT_.out (by kernel_rfl)) (by decide) (fun K hK => ?_)
       refine goes_ Try.func90 (by kernel_rfl) rfl #[.slice a9 (rd_L2 af ah).length ba] (by rfl) rfl rfl (by (try simp only [List.map_toArray, List.map_cons, List.map_nil]); first | done | rfl | (simp only [List.length_drop, List.length_take]; rfl)) ?_
       with_reducible refine (impl_Kept_90.calls _ _ (rd_L2 af ah) aJ _ ?side1 ?side2 A14.out).mono ?_
       (case side1 => repeat (first | exact (Kd.C_below aT.out HB.out) | (with_reducible refine Kd.C_alloc ?_ _) | (with_reducible refine Kd.C_drewN ?_ _) | (with_reducible refine Kd.C_drew ?_)))
       (case side2 => exact aU.out)
       rintro e w17 ⟨v154, rfl, ho0, hb⟩
       refine ⟨_, rfl, ?_⟩
       have ay := zK (Kd.S_elder' (zT aa) (Kd.R_base ho0) hb)
       have az := zK (Kd.R_lower ho0 (below_size (zb HB)))
       have aA := zK (blk_below (g := ag) (o := .cells #[.int .i64 a0_0, .slice (some aX) af.length ao] 24 (0, 0)) (zk ac) hb)
       have aC := zK (blk_below (g := ai) (o := .cells #[.int .i64 0, .slice none 0 0] 24 (0, 0)) (zk ad) hb)
       have aE := zK (blk_below (g := aj) (o := .cells #[.int .i64 a0_0, u152001] 24 (0, 0)) (zk ab) hb)
       have aW := zK (below_step (zb HB) hb)
       clear aa ac ad ab HB; have aa := ay; have aI := az; have ac := aA; have ad := aC; have ab := aE; have HB := aW; clear ay az aA aC aE aW; (try clear hb); (try clear hb2); (try clear hk); (try clear hi); (try clear ho0)
       obtain ⟨bh, bi, bj⟩ := Kd.R_slice aI.out
       (first | subst bj | (injection bj with f1_ f2_ f3_; have f4_ := f1_.symm; have f5_ := f3_.symm; clear f1_ f2_ f3_; subst f4_; subst f5_))
       refine hK.out _ _ ⟨(blk_cell ab.out 0).trans rfl, (blk_cell ab.out 1).trans rfl⟩ (fun hHeld => ?_)
       clear hK K
       refine norm_ (a' := ?_) ?_ ?_
       rotate_left
       ·show Act.put _ (some 19) _ = _
        simp only [Act.put, zp, zq, zr, i64_w, i32_w]
        rfl
       refine one_ (i := 4) (N := some 20) #[tt, tt, tt, tt, tt, ff, ff, ff] rfl rfl (one_of HT_.out (by kernel_rfl)) (by decide) (fun K hK => ?_)
       refine value_ (w1 := ?_) (v := ?_) (by rfl) rfl ?_ ?_
       rotate_left 2
       ·go_simp
        constructor
        ·rfl
        ·rfl
       refine hK.out _ _ ⟨(blk_cell (zA ab.out _) 0).trans rfl, (blk_cell (zA ab.out _) 1).trans rfl⟩ (fun hHeld => ?_)
       clear hK K
       refine norm_ (a' := ?_) ?_ ?_
       rotate_left
       ·show Act.put _ (some 20) _ = _
        simp only [Act.put, zp, zq, zr, i64_w, i32_w]
        rfl
       refine one_ (i := 5) (N := some 21) #[tt, tt, tt, tt, tt, tt, ff, ff] rfl rfl (one_of HT_.out (by kernel_rfl)) (by decide) (fun K hK => ?_)
       refine Kd.S_append_step (Kd.slice 30 k30) (w0 := w) w.heap.size (by rfl) (.tmp 17) (.tmp 20) 22 28 (.slice none 0 0) 24 rfl Try.underlying22 info28 rfl (by decide) (by omega) u152001 ae aJ [.slice bh aJ.length bi] (fun _ => True) (fun k_ => some k_ = (.slice bh aJ.length bi : Value).ownBlock) rfl rfl ?aP (fun k_ hk_ => ((Kd.R_mono (ok' := fun k_ => ((fun _ => True)) k_ ∧ some k_ ≠ (u152001 : Value).ownBlock) (Kd.R_apart' (aI.out) (Kd.S_typed aa.out) (by decide)) (fun k_ hk => ⟨trivial, hk.2⟩))).1 k_ hk_.symm) ?aF ?aO ?aB ?aS ?aL ?_
       (case aP => exact Kd.M_row (Kd.R_mono (Kd.R_tight rfl (Kd.R_mono (ok' := fun k_ => ((fun _ => True)) k_ ∧ some k_ ≠ (u152001 : Value).ownBlock) (Kd.R_apart' (aI.out) (Kd.S_typed aa.out) (by decide)) (fun k_ hk => ⟨trivial, hk.2⟩))) (fun _ h_ => h_)))
       (case aB => exact (zb HB))
       (case aF => exact (fun _ _ => trivial))
       (case aO => exact (by (with_reducible repeat (first | apply Kd.S_alloc | apply Kd.S_drewN | apply Kd.S_drew)); exact Kd.S_mono aa.out (fun k_ hk => ⟨trivial, fun e_ => hk.2 e_⟩)))
       (case aS => exact (below_size (zb HB)))
       (case aL => have := bg.out; omega)
       intro v157 w18 ho hb hg hat
       rw [← Ny156.out] at ho
       have ay := zK (blk_grown (g := ag) (o := .cells #[.int .i64 a0_0, .slice (some aX) af.length ao] 24 (0, 0)) (zk ac) hg (Kd.S_ne aa.out ac.out (by decide)))
       have az := zK (blk_grown (g := ai) (o := .cells #[.int .i64 0, .slice none 0 0] 24 (0, 0)) (zk ad) hg (Kd.S_ne aa.out ad.out (by decide)))
       have aA := zK (blk_grown (g := aj) (o := .cells #[.int .i64 a0_0, u152001] 24 (0, 0)) (zk ab) hg (Kd.S_ne aa.out ab.out (by decide)))
       have aC := zK (hb)
       have aE := zK (ho)
       clear ac ad ab HB aa aI; have ac := ay; have ad := az; have ab := aA; have HB := aC; have aY := aE; clear ay az aA aC aE ho hb hg hat
       obtain ⟨bk, bl, bm⟩ := Kd.S_slice aY.out
       (first | subst bm | (injection bm with f1_ f2_ f3_; have f4_ := f1_.symm; have f5_ := f3_.symm; clear f1_ f2_ f3_; subst f4_; subst f5_))
       refine hK.out _ _ ⟨(blk_cell ab.out 0).trans rfl, (blk_cell ab.out 1).trans rfl⟩ (fun hHeld => ?_)
       clear hK K
       refine norm_ (a' := ?_) ?_ ?_
       rotate_left
       ·show Act.put _ (some 21) _ = _
        simp only [Act.put, zp, zq, zr, i64_w, i32_w]
        rfl
       refine zu 6 (some 22) #[tt, tt, tt, tt, tt, tt, tt, ff] (any_of HT_.out (by kernel_rfl)) ?_
       refine last_ (i := 7) (N := none) #[tt, tt, tt, tt, tt, tt, tt, tt] rfl rfl (one_of HT_.out (by kernel_rfl)) (by decide) (fun K hK => ?_)
       have hs21 : w18.cell? ⟨aj, 1, none⟩ = some (u152001) := (blk_cell ab.out 1).trans rfl
       have hfs21 := blk_frozen ab.out 1; have hns21_0 := ak.out; have hns21_1 := al.out; have hms21_0 := ap.out; have hms21_1 := aq.out
       refine skip_ (w1 := ?_) (by rfl) rfl ?_ ?_
       rotate_left
       ·go_simp
        rfl
       refine hK.out _ _ ?_
       clear hK K
       refine done_ (done_of HT_.out (by kernel_rfl)) ?_
       try go_wp2
       go_roundg k1
       case measure => have := HK1.out; omega
       case rel => exact ⟨(wrap64 (ah + 1)), (aR), (.slice bk aR.length bl), (by first | rfl | (simp; done) | (simp [*]; done)), H', ⟨by have := HK1.out; omega⟩, ⟨by (with_reducible repeat (first | apply Kd.S_alloc | apply Kd.S_drewN | apply Kd.S_drew)); exact Kd.S_mono (Kd.S_far (p := ⟨aj, 1, none⟩) (Kd.S_types aY.out ab.out (by decide)) (fun _ hk => hk.2) (.slice bk aR.length bl)) (fun _ hk => trivial)⟩, ⟨by (with_reducible repeat (first | refine zN ?_ _ | refine zD ?_ | refine zA ?_ _)); refine blk_far ?_ ak.out _; (with_reducible repeat (first | refine zN ?_ _ | refine zD ?_ | refine zA ?_ _)); exact ac.out⟩, ⟨by (with_reducible repeat (first | refine zN ?_ _ | refine zD ?_ | refine zA ?_ _)); refine blk_far ?_ al.out _; (with_reducible repeat (first | refine zN ?_ _ | refine zD ?_ | refine zA ?_ _)); exact ad.out⟩, ⟨by (with_reducible repeat (first | refine zN ?_ _ | refine zD ?_ | refine zA ?_ _)); refine blk_put (cs := #[.int .i64 a0_0, u152001]) ?_ 1 _ rfl; (with_reducible repeat (first | refine zN ?_ _ | refine zD ?_ | refine zA ?_ _)); exact ab.out⟩, ⟨zb HB⟩⟩
      ·rw [if_neg c15] at H
       exact absurd H (by simp)
     ·rw [if_neg c13] at H
      exact absurd H (by simp)
    ·rw [if_neg c12] at H
     exact absurd H (by simp)
   ·rw [if_neg bb] at H
    have be : decide (ah < (af.length : Int)) = false := decide_eq_false bb
    clear bb
    simp only [Option.some.injEq, Prod.mk.injEq] at H
    obtain ⟨rfl, rfl⟩ := H
    have hnb22 := ap.out; have hnc22 := ak.out; have hnb23 := aq.out; have hnc23 := al.out
    have hcz24_0 : wr.cell? ⟨aj, 0, none⟩ = some (.int .i64 a0_0) := (blk_cell ab.out 0).trans rfl
    have hcz24_1 : wr.cell? ⟨aj, 1, none⟩ = some (u152001) := (blk_cell ab.out 1).trans rfl
    have hfz24_0 := blk_frozen ab.out 0; have hfz24_1 := blk_frozen ab.out 1; have hnb25 := aw.out; have hnc25 := av.out
    have hcz26_0 : wr.cell? ⟨ai, 0, none⟩ = some (.int .i64 0) := (blk_cell ad.out 0).trans rfl
    have hcz26_1 : wr.cell? ⟨ai, 1, none⟩ = some (.slice none 0 0) := (blk_cell ad.out 1).trans rfl
    have hfz26_0 := blk_frozen ad.out 0; have hfz26_1 := blk_frozen ad.out 1
    obtain ⟨bn, bo, eo27⟩ := Kd.S_slice aa.out
    subst eo27
    go_wp2
    refine bodyPost_ret (results_cell_row rfl _ _ ai 24 #[.int .i64 a0_0, .slice bn ae.length bo] (0, 0) _ rfl (by (with_reducible repeat (first | refine zN ?_ _ | refine zD ?_ | refine zA ?_ _)); refine blk_put (cs := #[.int .i64 a0_0, .slice none 0 0]) ?_ 1 _ rfl; (with_reducible repeat (first | refine zN ?_ _ | refine zD ?_ | refine zA ?_ _)); refine blk_put (cs := #[.int .i64 0, .slice none 0 0]) ?_ 0 _ rfl; (with_reducible repeat (first | refine zN ?_ _ | refine zD ?_ | refine zA ?_ _)); exact ad.out) Try.underlying24 rfl (by kernel_rfl)) rfl ?_
    exact ⟨_, by first | rfl | (simp [errW_none, errW_some] <;> rfl) | (simp [*, errW_none, errW_some] <;> rfl), by (with_reducible repeat (first | apply Kd.S_alloc | apply Kd.S_drewN | apply Kd.S_drew)); exact Kd.S_mono (Kd.S_far (p := ⟨ai, 1, none⟩) (Kd.S_far (p := ⟨ai, 0, none⟩) (Kd.S_types aa.out ad.out (by decide)) (fun _ hk => hk.2) (.int .i64 a0_0)) (fun _ hk => hk.2) (.slice bn ae.length bo)) (fun _ hk => trivial), by repeat (first | (with_reducible first | exact HB.out | apply zB | apply zC | apply zE | refine zS ?_ am.out | refine zS ?_ an.out | refine zS ?_ au.out) | exact HB.out)⟩
end Go.Proofs.Ytheckjlldkkceaa.Px
