import Derived.Test.YtheckjlldkkceaaZnPx0
import Derived.Test.YtheckjlldkkceaaZnPx3
namespace Go.Proofs.Ytheckjlldkkceaa.Px
open Go.RowKit Go.Proofs.YtheckjlldkkceaaW.PrintWords Go.Proofs.YtheckjlldkkceaaW.PrintLast Go.Proofs.YtheckjlldkkceaaW.PrintMore
attribute [local go_sem] max2_int min2_int max_two min_two max_three min_three max_four min_four   
set_option linter.unusedVariables false
set_option linter.unusedSimpArgs false
def vc_impl_Buried_1_any.p (a1_0 : Int) (a1_1 : Int) (x : S30) : Bool := decide (x.f1 < a1_1)
theorem vc_impl_Buried_1_any.clo (a1_0 : Int) (a1_1 : Int) (x : S30) (g0 : Nat) (w : World) (hb : w.heap[g0]? = some (.cells #[.int .i64 a1_0, .int .i64 a1_1] 30 (0, 0))) :
  Calls Try.prog 53 #[.agg #[.int .i64 x.f0, .int .i64 x.f1], .pointer (some ⟨g0, 0, none⟩)] w fun e w' => e = .returned (.bool (vc_impl_Buried_1_any.p a1_0 a1_1 x)) ∧ Below w.heap.size w w' := by
 have hc : (w.alloc (.cells #[.int .i64 x.f0, .int .i64 x.f1] 30)).cell? ⟨g0, 1, none⟩ = some (.int .i64 a1_1) := by
  rw [World.cell?_alloc_past _ _ _ (blk_lt hb)]; exact (blk_cell hb 1).trans rfl
 have hu := Try.underlying30; clear hb
 go_enter Try.func53, Try.ntmps53
 go_wp2
 go_ret
 exact ⟨rfl, (Below.refl _ _).alloc (Nat.le_refl _) _⟩
def vc_impl_Buried_1_any.f (l0 : List S30) (a1_0 : Int) (a1_1 : Int) : Option (Bool) := some (l0.any (vc_impl_Buried_1_any.p a1_0 a1_1))
theorem vc_impl_Buried_1_any.calls (A0 : Option Addr) (c0 : Nat) (l0 : List S30) (a1_0 : Int) (a1_1 : Int) (g0 : Nat) (r : Bool) (w : World) (hr0 : Kd.C k30 w A0 l0.length l0) (hc0 : l0.length ≤ c0) (hb0 : w.heap[g0]? = some (.cells #[.int .i64 a1_0, .int .i64 a1_1] 30 (0, 0))) (h : vc_impl_Buried_1_any.f l0 a1_0 a1_1 = some r) :
  Calls Try.prog 52 #[.slice A0 l0.length c0, .func (.func 53) #[] #[.pointer (some ⟨g0, 0, none⟩)]] w fun e w' => e = .returned (.bool r) ∧ Below w.heap.size w w' := by
 obtain rfl := Option.some.inj h
 exact cntF52 53 #[.pointer (some ⟨g0, 0, none⟩)] (enters_of Try.func53 (by kernel_rfl) rfl) A0 c0 l0 _ w hr0 (fun W x _ hW => vc_impl_Buried_1_any.clo a1_0 a1_1 x g0 W (blk_below (g := g0) hb0 hW))
mutual
def impl_Buried.l0 : Nat → Int → List (List (S30)) → Int → Int → Option (Int)
 | 0, _, _, _, _ => none
 | k + 1, x3, x12, x13, x14 => if x14 < x13 then (if 0 ≤ x14 then (if x14 < (x12.length : Int) then (impl_Buried.l1 k x3 (rd_L2 x12 x14) x12 x13 x14 (rd_L2 x12 x14) ((rd_L2 x12 x14).length : Int) 0) else (none)) else (none)) else (some x3)
def impl_Buried.l1 : Nat → Int → List (S30) → List (List (S30)) → Int → Int → List (S30) → Int → Int → Option (Int)
 | 0, _, _, _, _, _, _, _, _ => none
 | k + 1, x3, x5, x12, x13, x14, x18, x19, x20 => if x20 < x19 then (if 0 ≤ x20 then (if x20 < (x18.length : Int) then (if x20 ≤ (x5.length : Int) then ((vc_impl_Buried_1_any.f (x5.take (x20 : Int).toNat) ((rd_T30 x18 x20).f0) ((rd_T30 x18 x20).f1)).bind fun t210 => (if t210 = true then (impl_Buried.l1 k (wrap64 (x3 + 1)) x5 x12 x13 x14 x18 x19 (wrap64 (x20 + 1))) else (impl_Buried.l1 k x3 x5 x12 x13 x14 x18 x19 (wrap64 (x20 + 1))))) else (none)) else (none)) else (none)) else (impl_Buried.l0 k x3 x12 x13 (wrap64 (x14 + 1)))
end
def impl_Buried.f (k : Nat) (a0_0 : Int) (l0_1 : List (List (S30))) : Option (Int) := (impl_StoreOk.f k a0_0 l0_1).bind fun t201 => (if t201 = true then (impl_Buried.l0 k 0 l0_1 (l0_1.length : Int) 0) else (some (-1)))
set_option maxHeartbeats 8000000 in
set_option maxRecDepth 100000 in
theorem impl_Buried.calls (k : Nat) (a0_0 : Int) (ar : Option Addr) (aj : Nat) (ab : List (List (S30))) (r : Int) (w : World) (a0 : Kd.C (Kd.slice 30 k30) w ar ab.length ab) (hc0_1 : ab.length ≤ aj) (h : impl_Buried.f k a0_0 ab = some r) :
  Calls Try.prog 19 #[.agg #[.int .i64 a0_0, .slice ar ab.length aj]] w fun e w' => e = .returned (.int .i64 r) ∧ Below w.heap.size w w' := by
 have hu24 := Try.underlying24; have hu30 := Try.underlying30
 have hmf : ∀ (fn : Fn) (first cap : Array Value) (w : World), (Instr.makeFunc fn first cap).run Try.prog w = .ok (.func fn first cap) w := fun _ _ _ _ => rfl
 have aJ := zK a0; have a1 := zK hc0_1; clear a0 hc0_1
 have HB := zK (Below.refl w.heap.size w)
 have H : ((impl_StoreOk.f k a0_0 ab).bind fun aV => (if aV = true then (impl_Buried.l0 k 0 ab (ab.length : Int) 0) else (some (-1)))) = some r := h
 clear h; replace H := Option.bind_eq_some_iff.mp H
 obtain ⟨aV, A20, H⟩ := H
 replace H : (if aV = true then (impl_Buried.l0 k 0 ab (ab.length : Int) 0) else (some (-1))) = some r := H
 have A2 := zK A20; clear A20
 by_cases c3 : aV = true
 ·subst c3
  have H1 : (impl_Buried.l0 k 0 ab (ab.length : Int) 0) = some r := by rw [if_pos rfl] at H; exact H
  clear H; have H := H1; clear H1; have H' := zK H; clear H
  go_enter Try.func19, Try.ntmps19
  go_wp2_with (first | ((with_reducible refine gate_dst (N := 1) rfl ?_); refine box_event ?hg (N := 1) ?hd (cs := #[.int .i64 a0_0, .slice ar ab.length aj]) (t := 24) ?hr ?_; (case hd => rfl); (case hg => rfl); (case hr => first | (go_simp; done) | (go_simp; rfl)); intro ae hg w4 hbox hb; have ao := zK (below_step (zb HB) hb); have ap := zK (hbox); have ax := zK ((by rw [hg]; exact (below_size (zb HB)) : w.heap.size ≤ ae)); have aK := zK ((by rw [hg]; exact (below_size (zb HB)) : w.heap.size ≤ ae)); clear HB; have HB := ao; have ad := ap; have be := ax; have ah := aK; clear ao ap ax aK; clear hb hbox hg; have aL : w4.cell? ⟨ae, 0, none⟩ = some (.int .i64 a0_0) := (blk_cell ad.out 0).trans rfl; have aM : w4.cell? ⟨ae, 1, none⟩ = some (.slice ar ab.length aj) := (blk_cell ad.out 1).trans rfl; have aN := blk_frozen ad.out 0; have aO := blk_frozen ad.out 1) | ((with_reducible refine gate_callee (f := 22) rfl ?_); refine goesL_ (some 9) rfl rfl Try.func22 (by kernel_rfl) rfl #[.agg #[.int .i64 a0_0, .slice ar ab.length aj]] rfl (by (try simp only [List.map_toArray, List.map_cons, List.map_nil]); first | done | rfl | (simp only [List.length_drop, List.length_take]; rfl)) ?_; (with_reducible refine (impl_StoreOk.calls k a0_0 _ _ ab true _ ?side1 ?side2 A2.out).mono ?_); (case side1 => repeat (first | exact (Kd.C_below aJ.out HB.out) | (with_reducible refine Kd.C_alloc ?_ _) | (with_reducible refine Kd.C_drewN ?_ _) | (with_reducible refine Kd.C_drew ?_))); (case side2 => exact a1.out); rintro e w6 ⟨rfl, hb⟩; refine ⟨_, rfl, ?_⟩; have ao := zK (blk_below (g := ae) (o := .cells #[.int .i64 a0_0, .slice ar ab.length aj] 24 (0, 0)) (zk ad) hb); have ap := zK (below_step (zb HB) hb); clear ad; clear HB; have ad := ao; have HB := ap; clear ao ap; (try clear hb); have aP : w6.cell? ⟨ae, 0, none⟩ = some (.int .i64 a0_0) := (blk_cell ad.out 0).trans rfl; have aQ : w6.cell? ⟨ae, 1, none⟩ = some (.slice ar ab.length aj) := (blk_cell ad.out 1).trans rfl; have aR := blk_frozen ad.out 0; have aS := blk_frozen ad.out 1))
  go_loopg [3, 14] k (fun kq v3 v14 w' => ∃ (aW : Int) (aa : Int), v3 = .int .i64 aW ∧ v14 = .int .i64 aa ∧ Aside0 (impl_Buried.l0 kq aW ab (ab.length : Int) aa = some r) ∧ Aside0 (kq ≤ k) ∧ Aside0 (w'.heap[ae]? = some (.cells #[.int .i64 a0_0, (.slice ar ab.length aj)] 24 (0, 0))) ∧ Aside0 (Below w.heap.size w w'))
  case atStart => exact ⟨(0), (0), (by first | rfl | (simp; done) | (simp [*]; done)), (by first | rfl | (simp; done) | (simp [*]; done)), H', ⟨Nat.le_refl _⟩, ⟨zk ad⟩, ⟨zb HB⟩⟩
  case round =>
   clear H'
   try clear c1
   try clear c2
   try clear p2
   try clear c3
   try clear aL
   try clear aM
   try clear aP
   try clear aQ
   try clear aN
   try clear aO
   try clear aR
   try clear aS
   obtain ⟨aW, aa, rfl, rfl, HA, bb, ad, HB⟩ := hrel
   cases gk with
   | zero => exact absurd HA.out (by simp [impl_Buried.l0])
   | succ k1 =>
    have H := HA.out; clear HA
    simp only [impl_Buried.l0] at H
    by_cases c8 : aa < (ab.length : Int)
    ·rw [if_pos c8] at H
     have bf : decide (aa < (ab.length : Int)) = true := decide_eq_true c8
     clear c8
     by_cases c9 : 0 ≤ aa
     ·rw [if_pos c9] at H
      have c9b0 : decide (0 ≤ aa) = true := decide_eq_true c9
      clear c9
      by_cases c10 : aa < (ab.length : Int)
      ·rw [if_pos c10] at H
       have bg : decide (aa < (ab.length : Int)) = true := decide_eq_true c10
       clear c10; have H' := zK H; clear H
       have aX : 0 ≤ (aa : Int) := zd
       have aY : aa < (ab.length : Int) := zd
       obtain ⟨am, A202_0, an, e202, av, aE, aF⟩ := at_L2 aJ.out aa aX aY
       cases e202
       replace av := (HB.out.cell (World.block_lt_of_cell? w _ av)).trans av
       have aw := zK aF; have aG := zK aE; clear aF aE; replace aX := eq_true aX; replace aY := eq_true aY
       go_wp2
       go_loopg [3, 20] k1 (fun kq v3 v20 w' => ∃ (au : Int) (ac : Int), v3 = .int .i64 au ∧ v20 = .int .i64 ac ∧ Aside0 (impl_Buried.l1 kq au (rd_L2 ab aa) ab (ab.length : Int) aa (rd_L2 ab aa) ((rd_L2 ab aa).length : Int) ac = some r) ∧ Aside0 (kq ≤ k1) ∧ Aside0 (w'.heap[ae]? = some (.cells #[.int .i64 a0_0, (.slice (some am) ab.length aj)] 24 (0, 0))) ∧ Aside0 (Below w.heap.size w w'))
       case atStart => exact ⟨(aW), (0), (by first | rfl | (simp; done) | (simp [*]; done)), (by first | rfl | (simp; done) | (simp [*]; done)), H', ⟨Nat.le_refl _⟩, ⟨zk ad⟩, ⟨zb HB⟩⟩
       case round =>
        clear H'
        try clear c1
        try clear c2
        try clear p2
        try clear q2
        try clear hx2
        try clear c3
        try clear c8
        try clear bf
        try clear c9
        try clear c9b0
        try clear c10
        try clear bg
        try clear aL
        try clear aM
        try clear aP
        try clear aQ
        try clear aN
        try clear aO
        try clear aR
        try clear aS
        try clear av
        try clear p2
        try clear aX
        try clear aY
        obtain ⟨au, ac, rfl, rfl, HA, bc, ad, HB⟩ := hrel
        cases gk with
        | zero => exact absurd HA.out (by simp [impl_Buried.l1])
        | succ k2 =>
         have H := HA.out; clear HA
         simp only [impl_Buried.l1] at H
         by_cases bd : ac < ((rd_L2 ab aa).length : Int)
         ·rw [if_pos bd] at H
          have bh : decide (ac < ((rd_L2 ab aa).length : Int)) = true := decide_eq_true bd
          clear bd
          by_cases c12 : 0 ≤ ac
          ·rw [if_pos c12] at H
           have c12b0 : decide (0 ≤ ac) = true := decide_eq_true c12
           clear c12
           by_cases c13 : ac < ((rd_L2 ab aa).length : Int)
           ·rw [if_pos c13] at H
            have c13b0 : decide (ac < ((rd_L2 ab aa).length : Int)) = true := decide_eq_true c13
            clear c13
            have c14b0 := eq_true (zd : 0 ≤ ac)
            by_cases bi : ac ≤ ((rd_L2 ab aa).length : Int)
            ·rw [if_pos bi] at H
             have c15b0 := eq_true bi
             have c15b1 : decide (ac ≤ ((rd_L2 ab aa).length : Int)) = true := decide_eq_true bi
             clear bi
             obtain ⟨aA, aB⟩ : ∃ y_ : List (S30), y_ = ((rd_L2 ab aa).take (ac : Int).toNat) := ⟨_, rfl⟩
             replace H : ((vc_impl_Buried_1_any.f aA ((rd_T30 (rd_L2 ab aa) ac).f0) ((rd_T30 (rd_L2 ab aa) ac).f1)).bind fun aZ => (if aZ = true then (impl_Buried.l1 k2 (wrap64 (au + 1)) (rd_L2 ab aa) ab (ab.length : Int) aa (rd_L2 ab aa) ((rd_L2 ab aa).length : Int) (wrap64 (ac + 1))) else (impl_Buried.l1 k2 au (rd_L2 ab aa) ab (ab.length : Int) aa (rd_L2 ab aa) ((rd_L2 ab aa).length : Int) (wrap64 (ac + 1))))) = some r := by first | (rw [aB]; with_reducible exact H) | (have H2_ := (Option.bind_some _ _).symm.trans H; rw [aB]; with_reducible exact H2_) | (have H2_ := (Option.bind_some _ _).symm.trans H; with_reducible exact H2_) | with_reducible exact H | (rw [aB]; exact H) | exact H
             have Ny205 := zK aB; clear aB; replace H := Option.bind_eq_some_iff.mp H
             obtain ⟨aZ, bj, H⟩ := H
             replace H : (if aZ = true then (impl_Buried.l1 k2 (wrap64 (au + 1)) (rd_L2 ab aa) ab (ab.length : Int) aa (rd_L2 ab aa) ((rd_L2 ab aa).length : Int) (wrap64 (ac + 1))) else (impl_Buried.l1 k2 au (rd_L2 ab aa) ab (ab.length : Int) aa (rd_L2 ab aa) ((rd_L2 ab aa).length : Int) (wrap64 (ac + 1)))) = some r := H
             have A16 := zK bj; clear bj
             by_cases c17 : aZ = true
             ·subst c17
              have H1 : (impl_Buried.l1 k2 (wrap64 (au + 1)) (rd_L2 ab aa) ab (ab.length : Int) aa (rd_L2 ab aa) ((rd_L2 ab aa).length : Int) (wrap64 (ac + 1))) = some r := by rw [if_pos rfl] at H; exact H
              clear H; have H := H1; clear H1; have H' := zK H; clear H
              have aC : 0 ≤ (ac : Int) := zd
              have aD : ac < ((rd_L2 ab aa).length : Int) := zd
              obtain ⟨ay, a4, ak, al⟩ := at_T30 aw.out ac aC aD
              cases a4
              replace ak := (HB.out.cell (World.block_lt_of_cell? w _ ak)).trans ak
              replace al := (HB.out.cell (World.block_lt_of_cell? w _ al)).trans al
              replace aC := eq_true aC; replace aD := eq_true aD
              go_wp2_with (first | ((with_reducible refine gate_dst (N := 7) rfl ?_); refine box_event ?hg (N := 7) ?hd (cs := #[.int .i64 0, .int .i64 0]) (t := 30) ?hr ?_; (case hd => rfl); (case hg => rfl); (case hr => first | (go_simp; done) | (go_simp; rfl)); intro af hg w18 hbox hb; have ao := zK (blk_below (g := ae) (o := .cells #[.int .i64 a0_0, .slice (some am) ab.length aj] 24 (0, 0)) (zk ad) hb); have ap := zK (below_step (zb HB) hb); have ax := zK (hbox); have aK := zK ((by rw [hg]; exact (below_size (zb HB)) : w.heap.size ≤ af)); have bk := zK ((by rw [hg]; exact (below_size (zb HB)) : w.heap.size ≤ af)); have bl := zK ((by rw [hg]; exact Nat.ne_of_lt (blk_lt (g := ae) (o := .cells #[.int .i64 a0_0, .slice (some am) ab.length aj] 24 (0, 0)) (zk ad)) : ae ≠ af)); have bm := zK ((by rw [hg]; exact Nat.ne_of_gt (blk_lt (g := ae) (o := .cells #[.int .i64 a0_0, .slice (some am) ab.length aj] 24 (0, 0)) (zk ad)) : af ≠ ae)); clear ad; clear HB; have ad := ao; have HB := ap; have ag := ax; have bn := aK; have az := bk; have ai := bl; have aq := bm; clear ao ap ax aK bk bl bm; clear hb hbox hg; have hnb19 := aq.out; have hnc19 := ai.out; have hcz20_0 : w18.cell? ⟨af, 0, none⟩ = some (.int .i64 0) := (blk_cell ag.out 0).trans rfl; have hcz20_1 : w18.cell? ⟨af, 1, none⟩ = some (.int .i64 0) := (blk_cell ag.out 1).trans rfl; have hfz20_0 := blk_frozen ag.out 0; have hfz20_1 := blk_frozen ag.out 1) | ((with_reducible refine gate_store (t := 30) (p := 7) rfl ?_); refine store_event (t := 30) (p := 7) (v := ?vo_w21) (w1 := ((w18.setCell ⟨af, 0, none⟩ (.int .i64 ((rd_T30 (rd_L2 ab aa) ac).f0))).setCell ⟨af, 1, none⟩ (.int .i64 ((rd_T30 (rd_L2 ab aa) ac).f1)))) ?hg ?ho ?hn ?hr ?_; (case ho => rfl); (case hg => rfl); (case hn => rfl); (case hr => first | (go_simp; done) | (go_simp; rfl)); intro w21 hw; have ao : Aside0 (w21.heap[ae]? = some (.cells #[.int .i64 a0_0, .slice (some am) ab.length aj] 24 (0, 0))) := ⟨(by rw [hw]; exact (by (with_reducible repeat (first | refine zN ?_ _ | refine zD ?_ | refine zA ?_ _)); refine blk_far ?_ ai.out _; (with_reducible repeat (first | refine zN ?_ _ | refine zD ?_ | refine zA ?_ _)); refine blk_far ?_ ai.out _; (with_reducible repeat (first | refine zN ?_ _ | refine zD ?_ | refine zA ?_ _)); exact ad.out))⟩; have ap : Aside0 (w21.heap[af]? = some (.cells #[.int .i64 ((rd_T30 (rd_L2 ab aa) ac).f0), .int .i64 ((rd_T30 (rd_L2 ab aa) ac).f1)] 30 (0, 0))) := ⟨(by rw [hw]; exact (by (with_reducible repeat (first | refine zN ?_ _ | refine zD ?_ | refine zA ?_ _)); refine blk_put (cs := #[.int .i64 ((rd_T30 (rd_L2 ab aa) ac).f0), .int .i64 0]) ?_ 1 _ rfl; (with_reducible repeat (first | refine zN ?_ _ | refine zD ?_ | refine zA ?_ _)); refine blk_put (cs := #[.int .i64 0, .int .i64 0]) ?_ 0 _ rfl; (with_reducible repeat (first | refine zN ?_ _ | refine zD ?_ | refine zA ?_ _)); exact ag.out))⟩; have ax : Aside0 (Below w.heap.size w w21) := ⟨(by rw [hw]; exact (zb HB))⟩; clear hw; clear ad; clear ag; clear HB; have ad := ao; have ag := ap; have HB := ax; clear ao ap ax; have q22 : (ac : Int) ≤ (((rd_L2 ab aa).length : Int) : Int) := zd; obtain ⟨i022, a2, _, bo, _⟩ := info_parts info30; have aH : (rd_L2 ab aa).length ≤ an := aG.out; have bp : Kd.C k30 _ (some ay) (rd_L2 ab aa).length (rd_L2 ab aa) := aw.out; have a5 := cut_to (P := Try.prog) 28 30 .i64 Try.underlying28 a2 (some ay) (rd_L2 ab aa).length an ac (zd) q22 aH; have a6 := Kd.C_take (m := (ac : Int).toNat) bp (by omega); have a7 : aA.length = (ac : Int).toNat := (by rw [Ny205.out, List.length_take]; omega); rw [← Ny205.out] at a6; rw [← a7] at a5; have aT := zK a6; have aU := zK (show aA.length ≤ an from by omega); clear a6 bp aH a2 bo; have KY22 := zK a7; clear a7; replace q22 := eq_true q22) | ((with_reducible refine gate_callee (f := 52) rfl ?_); refine goesL_ (some 29) rfl rfl Try.func52 (by kernel_rfl) rfl #[.slice (some ay) aA.length an, .func (.func 53) #[] #[.pointer (some ⟨af, 0, none⟩)]] rfl (by (try simp only [List.map_toArray, List.map_cons, List.map_nil]); first | done | rfl | (simp only [List.length_drop, List.length_take]; rfl)) ?_; (with_reducible refine (vc_impl_Buried_1_any.calls _ _ aA ((rd_T30 (rd_L2 ab aa) ac).f0) ((rd_T30 (rd_L2 ab aa) ac).f1) af true _ ?side1 ?side2 ?side3 A16.out).mono ?_); (case side1 => repeat (first | exact (Kd.C_below aT.out HB.out) | (with_reducible refine Kd.C_alloc ?_ _) | (with_reducible refine Kd.C_drewN ?_ _) | (with_reducible refine Kd.C_drew ?_))); (case side2 => exact aU.out); (case side3 => exact (zk ag)); rintro e w23 ⟨rfl, hb⟩; refine ⟨_, rfl, ?_⟩; have ao := zK (blk_below (g := ae) (o := .cells #[.int .i64 a0_0, .slice (some am) ab.length aj] 24 (0, 0)) (zk ad) hb); have ap := zK (blk_below (g := af) (o := .cells #[.int .i64 ((rd_T30 (rd_L2 ab aa) ac).f0), .int .i64 ((rd_T30 (rd_L2 ab aa) ac).f1)] 30 (0, 0)) (zk ag) hb); have ax := zK (below_step (zb HB) hb); clear ad; clear ag; clear HB; have ad := ao; have ag := ap; have HB := ax; clear ao ap ax; (try clear hb)))
              go_roundg k2
              case measure => have := bb.out; have := bc.out; omega
              case rel => exact ⟨(wrap64 (au + 1)), (wrap64 (ac + 1)), (by first | rfl | (simp; done) | (simp [*]; done)), (by first | rfl | (simp; done) | (simp [*]; done)), H', ⟨by have := bb.out; have := bc.out; omega⟩, ⟨zk ad⟩, ⟨zb HB⟩⟩
             ·replace c17 := Bool.eq_false_iff.mpr c17
              subst c17
              have H1 : (impl_Buried.l1 k2 au (rd_L2 ab aa) ab (ab.length : Int) aa (rd_L2 ab aa) ((rd_L2 ab aa).length : Int) (wrap64 (ac + 1))) = some r := by rw [if_neg (show ¬ (false = true) by decide)] at H; exact H
              clear H; have H := H1; clear H1; have H' := zK H; clear H
              have aC : 0 ≤ (ac : Int) := zd
              have aD : ac < ((rd_L2 ab aa).length : Int) := zd
              obtain ⟨ay, a4, ak, al⟩ := at_T30 aw.out ac aC aD
              cases a4
              replace ak := (HB.out.cell (World.block_lt_of_cell? w _ ak)).trans ak
              replace al := (HB.out.cell (World.block_lt_of_cell? w _ al)).trans al
              replace aC := eq_true aC; replace aD := eq_true aD
              go_wp2_with (first | ((with_reducible refine gate_dst (N := 7) rfl ?_); refine box_event ?hg (N := 7) ?hd (cs := #[.int .i64 0, .int .i64 0]) (t := 30) ?hr ?_; (case hd => rfl); (case hg => rfl); (case hr => first | (go_simp; done) | (go_simp; rfl)); intro af hg w24 hbox hb; have ao := zK (blk_below (g := ae) (o := .cells #[.int .i64 a0_0, .slice (some am) ab.length aj] 24 (0, 0)) (zk ad) hb); have ap := zK (below_step (zb HB) hb); have ax := zK (hbox); have aK := zK ((by rw [hg]; exact (below_size (zb HB)) : w.heap.size ≤ af)); have bk := zK ((by rw [hg]; exact (below_size (zb HB)) : w.heap.size ≤ af)); have bl := zK ((by rw [hg]; exact Nat.ne_of_lt (blk_lt (g := ae) (o := .cells #[.int .i64 a0_0, .slice (some am) ab.length aj] 24 (0, 0)) (zk ad)) : ae ≠ af)); have bm := zK ((by rw [hg]; exact Nat.ne_of_gt (blk_lt (g := ae) (o := .cells #[.int .i64 a0_0, .slice (some am) ab.length aj] 24 (0, 0)) (zk ad)) : af ≠ ae)); clear ad; clear HB; have ad := ao; have HB := ap; have ag := ax; have bn := aK; have az := bk; have ai := bl; have aq := bm; clear ao ap ax aK bk bl bm; clear hb hbox hg; have hnb25 := aq.out; have hnc25 := ai.out; have hcz26_0 : w24.cell? ⟨af, 0, none⟩ = some (.int .i64 0) := (blk_cell ag.out 0).trans rfl; have hcz26_1 : w24.cell? ⟨af, 1, none⟩ = some (.int .i64 0) := (blk_cell ag.out 1).trans rfl; have hfz26_0 := blk_frozen ag.out 0; have hfz26_1 := blk_frozen ag.out 1) | ((with_reducible refine gate_store (t := 30) (p := 7) rfl ?_); refine store_event (t := 30) (p := 7) (v := ?vo_w27) (w1 := ((w24.setCell ⟨af, 0, none⟩ (.int .i64 ((rd_T30 (rd_L2 ab aa) ac).f0))).setCell ⟨af, 1, none⟩ (.int .i64 ((rd_T30 (rd_L2 ab aa) ac).f1)))) ?hg ?ho ?hn ?hr ?_; (case ho => rfl); (case hg => rfl); (case hn => rfl); (case hr => first | (go_simp; done) | (go_simp; rfl)); intro w27 hw; have ao : Aside0 (w27.heap[ae]? = some (.cells #[.int .i64 a0_0, .slice (some am) ab.length aj] 24 (0, 0))) := ⟨(by rw [hw]; exact (by (with_reducible repeat (first | refine zN ?_ _ | refine zD ?_ | refine zA ?_ _)); refine blk_far ?_ ai.out _; (with_reducible repeat (first | refine zN ?_ _ | refine zD ?_ | refine zA ?_ _)); refine blk_far ?_ ai.out _; (with_reducible repeat (first | refine zN ?_ _ | refine zD ?_ | refine zA ?_ _)); exact ad.out))⟩; have ap : Aside0 (w27.heap[af]? = some (.cells #[.int .i64 ((rd_T30 (rd_L2 ab aa) ac).f0), .int .i64 ((rd_T30 (rd_L2 ab aa) ac).f1)] 30 (0, 0))) := ⟨(by rw [hw]; exact (by (with_reducible repeat (first | refine zN ?_ _ | refine zD ?_ | refine zA ?_ _)); refine blk_put (cs := #[.int .i64 ((rd_T30 (rd_L2 ab aa) ac).f0), .int .i64 0]) ?_ 1 _ rfl; (with_reducible repeat (first | refine zN ?_ _ | refine zD ?_ | refine zA ?_ _)); refine blk_put (cs := #[.int .i64 0, .int .i64 0]) ?_ 0 _ rfl; (with_reducible repeat (first | refine zN ?_ _ | refine zD ?_ | refine zA ?_ _)); exact ag.out))⟩; have ax : Aside0 (Below w.heap.size w w27) := ⟨(by rw [hw]; exact (zb HB))⟩; clear hw; clear ad; clear ag; clear HB; have ad := ao; have ag := ap; have HB := ax; clear ao ap ax; have q28 : (ac : Int) ≤ (((rd_L2 ab aa).length : Int) : Int) := zd; obtain ⟨i028, a3, _, bq, _⟩ := info_parts info30; have aI : (rd_L2 ab aa).length ≤ an := aG.out; have br : Kd.C k30 _ (some ay) (rd_L2 ab aa).length (rd_L2 ab aa) := aw.out; have a8 := cut_to (P := Try.prog) 28 30 .i64 Try.underlying28 a3 (some ay) (rd_L2 ab aa).length an ac (zd) q28 aI; have a9 := Kd.C_take (m := (ac : Int).toNat) br (by omega); have ba : aA.length = (ac : Int).toNat := (by rw [Ny205.out, List.length_take]; omega); rw [← Ny205.out] at a9; rw [← ba] at a8; have aT := zK a9; have aU := zK (show aA.length ≤ an from by omega); clear a9 br aI a3 bq; have KY28 := zK ba; clear ba; replace q28 := eq_true q28) | ((with_reducible refine gate_callee (f := 52) rfl ?_); refine goesL_ (some 29) rfl rfl Try.func52 (by kernel_rfl) rfl #[.slice (some ay) aA.length an, .func (.func 53) #[] #[.pointer (some ⟨af, 0, none⟩)]] rfl (by (try simp only [List.map_toArray, List.map_cons, List.map_nil]); first | done | rfl | (simp only [List.length_drop, List.length_take]; rfl)) ?_; (with_reducible refine (vc_impl_Buried_1_any.calls _ _ aA ((rd_T30 (rd_L2 ab aa) ac).f0) ((rd_T30 (rd_L2 ab aa) ac).f1) af false _ ?side1 ?side2 ?side3 A16.out).mono ?_); (case side1 => repeat (first | exact (Kd.C_below aT.out HB.out) | (with_reducible refine Kd.C_alloc ?_ _) | (with_reducible refine Kd.C_drewN ?_ _) | (with_reducible refine Kd.C_drew ?_))); (case side2 => exact aU.out); (case side3 => exact (zk ag)); rintro e w29 ⟨rfl, hb⟩; refine ⟨_, rfl, ?_⟩; have ao := zK (blk_below (g := ae) (o := .cells #[.int .i64 a0_0, .slice (some am) ab.length aj] 24 (0, 0)) (zk ad) hb); have ap := zK (blk_below (g := af) (o := .cells #[.int .i64 ((rd_T30 (rd_L2 ab aa) ac).f0), .int .i64 ((rd_T30 (rd_L2 ab aa) ac).f1)] 30 (0, 0)) (zk ag) hb); have ax := zK (below_step (zb HB) hb); clear ad; clear ag; clear HB; have ad := ao; have ag := ap; have HB := ax; clear ao ap ax; (try clear hb)))
              go_roundg k2
              case measure => have := bb.out; have := bc.out; omega
              case rel => exact ⟨(au), (wrap64 (ac + 1)), (by first | rfl | (simp; done) | (simp [*]; done)), (by first | rfl | (simp; done) | (simp [*]; done)), H', ⟨by have := bb.out; have := bc.out; omega⟩, ⟨zk ad⟩, ⟨zb HB⟩⟩
            ·rw [if_neg bi] at H
             exact absurd H (by simp)
           ·rw [if_neg c13] at H
            exact absurd H (by simp)
          ·rw [if_neg c12] at H
           exact absurd H (by simp)
         ·rw [if_neg bd] at H
          have bh : decide (ac < ((rd_L2 ab aa).length : Int)) = false := decide_eq_false bd
          clear bd; have H' := zK H; clear H
          go_wp2
          go_roundg k2
          case measure => have := bb.out; have := bc.out; omega
          case rel => exact ⟨(au), (wrap64 (aa + 1)), (by first | rfl | (simp; done) | (simp [*]; done)), (by first | rfl | (simp; done) | (simp [*]; done)), H', ⟨by have := bb.out; have := bc.out; omega⟩, ⟨zk ad⟩, ⟨zb HB⟩⟩
      ·rw [if_neg c10] at H
       exact absurd H (by simp)
     ·rw [if_neg c9] at H
      exact absurd H (by simp)
    ·rw [if_neg c8] at H
     have bf : decide (aa < (ab.length : Int)) = false := decide_eq_false c8
     clear c8; obtain rfl := Option.some.inj H
     go_wp2
     go_ret
     exact ⟨by first | rfl | (simp [errW_none, errW_some] <;> rfl) | (simp [*, errW_none, errW_some] <;> rfl), by repeat (first | (with_reducible first | exact HB.out | apply zB | apply zC | apply zE | refine zS ?_ ah.out) | exact HB.out)⟩
 ·replace c3 := Bool.eq_false_iff.mpr c3
  subst c3
  have H1 : (some (-1)) = some r := by rw [if_neg (show ¬ (false = true) by decide)] at H; exact H
  clear H; have H := H1; clear H1; obtain rfl := Option.some.inj H
  go_enter Try.func19, Try.ntmps19
  go_wp2_with (first | ((with_reducible refine gate_dst (N := 1) rfl ?_); refine box_event ?hg (N := 1) ?hd (cs := #[.int .i64 a0_0, .slice ar ab.length aj]) (t := 24) ?hr ?_; (case hd => rfl); (case hg => rfl); (case hr => first | (go_simp; done) | (go_simp; rfl)); intro ae hg w30 hbox hb; have ao := zK (below_step (zb HB) hb); have ap := zK (hbox); have ax := zK ((by rw [hg]; exact (below_size (zb HB)) : w.heap.size ≤ ae)); have aK := zK ((by rw [hg]; exact (below_size (zb HB)) : w.heap.size ≤ ae)); clear HB; have HB := ao; have ad := ap; have be := ax; have ah := aK; clear ao ap ax aK; clear hb hbox hg; have hcz31_0 : w30.cell? ⟨ae, 0, none⟩ = some (.int .i64 a0_0) := (blk_cell ad.out 0).trans rfl; have hcz31_1 : w30.cell? ⟨ae, 1, none⟩ = some (.slice ar ab.length aj) := (blk_cell ad.out 1).trans rfl; have hfz31_0 := blk_frozen ad.out 0; have hfz31_1 := blk_frozen ad.out 1) | ((with_reducible refine gate_callee (f := 22) rfl ?_); refine goesL_ (some 9) rfl rfl Try.func22 (by kernel_rfl) rfl #[.agg #[.int .i64 a0_0, .slice ar ab.length aj]] rfl (by (try simp only [List.map_toArray, List.map_cons, List.map_nil]); first | done | rfl | (simp only [List.length_drop, List.length_take]; rfl)) ?_; (with_reducible refine (impl_StoreOk.calls k a0_0 _ _ ab false _ ?side1 ?side2 A2.out).mono ?_); (case side1 => repeat (first | exact (Kd.C_below aJ.out HB.out) | (with_reducible refine Kd.C_alloc ?_ _) | (with_reducible refine Kd.C_drewN ?_ _) | (with_reducible refine Kd.C_drew ?_))); (case side2 => exact a1.out); rintro e w32 ⟨rfl, hb⟩; refine ⟨_, rfl, ?_⟩; have ao := zK (blk_below (g := ae) (o := .cells #[.int .i64 a0_0, .slice ar ab.length aj] 24 (0, 0)) (zk ad) hb); have ap := zK (below_step (zb HB) hb); clear ad; clear HB; have ad := ao; have HB := ap; clear ao ap; (try clear hb)))
  go_ret
  exact ⟨by first | rfl | (simp [errW_none, errW_some] <;> rfl) | (simp [*, errW_none, errW_some] <;> rfl), by repeat (first | (with_reducible first | exact HB.out | apply zB | apply zC | apply zE | refine zS ?_ ah.out) | exact HB.out)⟩
end Go.Proofs.Ytheckjlldkkceaa.Px
