import Derived.Test.YtheckjlldkkceaaZnPx0
import Derived.Test.YtheckjlldkkceaaZnPx3
namespace Go.Proofs.Ytheckjlldkkceaa.Px
open Go.RowKit Go.Proofs.YtheckjlldkkceaaW.PrintWords Go.Proofs.YtheckjlldkkceaaW.PrintLast Go.Proofs.YtheckjlldkkceaaW.PrintMore
attribute [local go_sem] max2_int min2_int max_two min_two max_three min_three max_four min_four   
set_option linter.unusedVariables false
set_option linter.unusedSimpArgs false
mutual
def spec_NextOut.l0 : Nat → Int → Int → List (List (S30)) → Int → Int → Option (Int)
 | 0, _, _, _, _, _ => none
 | k + 1, x4, x121000, x121001, x123000, x123001 => if x4 < (x121001.length : Int) then (spec_NextOut.l1 k x4 0 x121000 x121001 x123000 x123001) else (some x123000)
def spec_NextOut.l1 : Nat → Int → Int → Int → List (List (S30)) → Int → Int → Option (Int)
 | 0, _, _, _, _, _, _ => none
 | k + 1, x4, x5, x121000, x121001, x123000, x123001 => if 0 ≤ x4 then (if x4 < (x121001.length : Int) then (if x5 < ((rd_L2 x121001 x4).length : Int) then (if 0 ≤ x5 then (if ((rd_T30 (rd_L2 x121001 x4) x5).f1) < x123001 then (spec_NextOut.j2 k x4 x5 true x121000 x121001 x123000 x123001 ((rd_T30 (rd_L2 x121001 x4) x5).f0) ((rd_T30 (rd_L2 x121001 x4) x5).f1)) else (if ((rd_T30 (rd_L2 x121001 x4) x5).f1) = x123001 then (spec_NextOut.j2 k x4 x5 (decide (((rd_T30 (rd_L2 x121001 x4) x5).f0) < x123000)) x121000 x121001 x123000 x123001 ((rd_T30 (rd_L2 x121001 x4) x5).f0) ((rd_T30 (rd_L2 x121001 x4) x5).f1)) else (spec_NextOut.j2 k x4 x5 false x121000 x121001 x123000 x123001 ((rd_T30 (rd_L2 x121001 x4) x5).f0) ((rd_T30 (rd_L2 x121001 x4) x5).f1)))) else (none)) else (spec_NextOut.l0 k (wrap64 (x4 + 1)) x121000 x121001 x123000 x123001)) else (none)) else (none)
def spec_NextOut.j2 : Nat → Int → Int → Bool → Int → List (List (S30)) → Int → Int → Int → Int → Option (Int)
 | 0, _, _, _, _, _, _, _, _, _ => none
 | k + 1, x4, x5, x54, x121000, x121001, x123000, x123001, x127000, x127001 => if x54 = true then (spec_NextOut.l1 k x4 (wrap64 (x5 + 1)) x121000 x121001 x127000 x127001) else (spec_NextOut.l1 k x4 (wrap64 (x5 + 1)) x121000 x121001 x123000 x123001)
end
def spec_NextOut.f (k : Nat) (a0_0 : Int) (l0_1 : List (List (S30))) : Option (Int) := (spec_StoreOk.f k a0_0 l0_1).bind fun t121 => (if t121 = true then (spec_NextOut.l0 k 0 a0_0 l0_1 0 100001) else (some 0))
set_option maxHeartbeats 8000000 in
set_option maxRecDepth 100000 in
theorem spec_NextOut.calls (k : Nat) (a0_0 : Int) (ay : Option Addr) (ar : Nat) (ac : List (List (S30))) (r : Int) (w : World) (bP : Kd.C (Kd.slice 30 k30) w ay ac.length ac) (hc0_1 : ac.length ≤ ar) (h : spec_NextOut.f k a0_0 ac = some r) :
  Calls Try.prog 17 #[.agg #[.int .i64 a0_0, .slice ay ac.length ar]] w fun e w' => e = .returned (.int .i64 r) ∧ Below w.heap.size w w' := by
 have hu24 := Try.underlying24; have hu30 := Try.underlying30; have aI := zK bP; have bQ := zK hc0_1; clear bP hc0_1
 have HB := zK (Below.refl w.heap.size w)
 have H : ((spec_StoreOk.f k a0_0 ac).bind fun a6 => (if a6 = true then (spec_NextOut.l0 k 0 a0_0 ac 0 100001) else (some 0))) = some r := h
 clear h; replace H := Option.bind_eq_some_iff.mp H
 obtain ⟨a6, A20, H⟩ := H
 replace H : (if a6 = true then (spec_NextOut.l0 k 0 a0_0 ac 0 100001) else (some 0)) = some r := H
 have A2 := zK A20; clear A20
 by_cases c3 : a6 = true
 ·subst c3
  have H1 : (spec_NextOut.l0 k 0 a0_0 ac 0 100001) = some r := by rw [if_pos rfl] at H; exact H
  clear H; have H := H1; clear H1; have H' := zK H; clear H
  go_enter Try.func17, Try.ntmps17
  go_wp2_with (first | ((with_reducible refine gate_dst (N := 1) rfl ?_); refine box_event ?hg (N := 1) ?hd (cs := #[.int .i64 a0_0, .slice ay ac.length ar]) (t := 24) ?hr ?_; (case hd => rfl); (case hg => rfl); (case hr => first | (go_simp; done) | (go_simp; rfl)); intro ag hg w4 hbox hb; have aJ := zK (below_step (zb HB) hb); have aK := zK (hbox); have a3 := zK ((by rw [hg]; exact (below_size (zb HB)) : w.heap.size ≤ ag)); have a4 := zK ((by rw [hg]; exact (below_size (zb HB)) : w.heap.size ≤ ag)); clear HB; have HB := aJ; have ab := aK; have b1 := a3; have ao := a4; clear aJ aK a3 a4; clear hb hbox hg; have aO : w4.cell? ⟨ag, 0, none⟩ = some (.int .i64 a0_0) := (blk_cell ab.out 0).trans rfl; have aP : w4.cell? ⟨ag, 1, none⟩ = some (.slice ay ac.length ar) := (blk_cell ab.out 1).trans rfl; have aQ := blk_frozen ab.out 0; have aR := blk_frozen ab.out 1) | ((with_reducible refine gate_callee (f := 15) rfl ?_); refine goesL_ (some 8) rfl rfl Try.func15 (by kernel_rfl) rfl #[.agg #[.int .i64 a0_0, .slice ay ac.length ar]] rfl (by (try simp only [List.map_toArray, List.map_cons, List.map_nil]); first | done | rfl | (simp only [List.length_drop, List.length_take]; rfl)) ?_; (with_reducible refine (spec_StoreOk.calls k a0_0 _ _ ac true _ ?side1 ?side2 A2.out).mono ?_); (case side1 => repeat (first | exact (Kd.C_below aI.out HB.out) | (with_reducible refine Kd.C_alloc ?_ _) | (with_reducible refine Kd.C_drewN ?_ _) | (with_reducible refine Kd.C_drew ?_))); (case side2 => exact bQ.out); rintro e w6 ⟨rfl, hb⟩; refine ⟨_, rfl, ?_⟩; have aJ := zK (blk_below (g := ag) (o := .cells #[.int .i64 a0_0, .slice ay ac.length ar] 24 (0, 0)) (zk ab) hb); have aK := zK (below_step (zb HB) hb); clear ab; clear HB; have ab := aJ; have HB := aK; clear aJ aK; (try clear hb)) | ((with_reducible refine gate_dst (N := 3) rfl ?_); refine box_event ?hg (N := 3) ?hd (cs := #[.int .i64 0, .int .i64 0]) (t := 30) ?hr ?_; (case hd => rfl); (case hg => rfl); (case hr => first | (go_simp; done) | (go_simp; rfl)); intro al hg w7 hbox hb; have aJ := zK (blk_below (g := ag) (o := .cells #[.int .i64 a0_0, .slice ay ac.length ar] 24 (0, 0)) (zk ab) hb); have aK := zK (below_step (zb HB) hb); have a3 := zK (hbox); have a4 := zK ((by rw [hg]; exact (below_size (zb HB)) : w.heap.size ≤ al)); have b2 := zK ((by rw [hg]; exact (below_size (zb HB)) : w.heap.size ≤ al)); have b3 := zK ((by rw [hg]; exact Nat.ne_of_lt (blk_lt (g := ag) (o := .cells #[.int .i64 a0_0, .slice ay ac.length ar] 24 (0, 0)) (zk ab)) : ag ≠ al)); have b4 := zK ((by rw [hg]; exact Nat.ne_of_gt (blk_lt (g := ag) (o := .cells #[.int .i64 a0_0, .slice ay ac.length ar] 24 (0, 0)) (zk ab)) : al ≠ ag)); clear ab; clear HB; have ab := aJ; have HB := aK; have ae := a3; have GW122 := a4; have az := b2; have ah := b3; have an := b4; clear aJ aK a3 a4 b2 b3 b4; clear hb hbox hg; have hnb8 := an.out; have hnc8 := ah.out; have aS : w7.cell? ⟨al, 0, none⟩ = some (.int .i64 0) := (blk_cell ae.out 0).trans rfl; have aT : w7.cell? ⟨al, 1, none⟩ = some (.int .i64 0) := (blk_cell ae.out 1).trans rfl; have aU := blk_frozen ae.out 0; have aV := blk_frozen ae.out 1))
  go_loopg [4] k (fun kq v4 w' => ∃ (af : Int) (au : Int) (av : Int), v4 = .int .i64 af ∧ Aside0 (spec_NextOut.l0 kq af a0_0 ac au av = some r) ∧ Aside0 (kq ≤ k) ∧ Aside0 (w'.heap[ag]? = some (.cells #[.int .i64 a0_0, (.slice ay ac.length ar)] 24 (0, 0))) ∧ Aside0 (w'.heap[al]? = some (.cells #[.int .i64 au, .int .i64 av] 30 (0, 0))) ∧ Aside0 (Below w.heap.size w w'))
  case atStart => exact ⟨(0), (0), (100001), (by first | rfl | (simp; done) | (simp [*]; done)), H', ⟨Nat.le_refl _⟩, ⟨by (with_reducible repeat (first | refine zN ?_ _ | refine zD ?_ | refine zA ?_ _)); refine blk_far ?_ ah.out _; (with_reducible repeat (first | refine zN ?_ _ | refine zD ?_ | refine zA ?_ _)); refine blk_far ?_ ah.out _; (with_reducible repeat (first | refine zN ?_ _ | refine zD ?_ | refine zA ?_ _)); exact ab.out⟩, ⟨by (with_reducible repeat (first | refine zN ?_ _ | refine zD ?_ | refine zA ?_ _)); refine blk_put (cs := #[.int .i64 0, .int .i64 0]) ?_ 1 _ rfl; (with_reducible repeat (first | refine zN ?_ _ | refine zD ?_ | refine zA ?_ _)); refine blk_put (cs := #[.int .i64 0, .int .i64 0]) ?_ 0 _ rfl; (with_reducible repeat (first | refine zN ?_ _ | refine zD ?_ | refine zA ?_ _)); exact ae.out⟩, ⟨zb HB⟩⟩
  case round =>
   clear H'
   try clear c1
   try clear p2
   try clear c3
   try clear c8
   try clear aO
   try clear aP
   try clear aS
   try clear aT
   try clear aQ
   try clear aR
   try clear aU
   try clear aV
   obtain ⟨af, au, av, rfl, HA, a7, ab, ae, HB⟩ := hrel
   cases gk with
   | zero => exact absurd HA.out (by simp [spec_NextOut.l0])
   | succ k1 =>
    have H := HA.out; clear HA
    simp only [spec_NextOut.l0] at H
    by_cases c10 : af < (ac.length : Int)
    ·rw [if_pos c10] at H
     have a5 : decide (af < (ac.length : Int)) = true := decide_eq_true c10
     clear c10; have H' := zK H; clear H; have hnb11 := ah.out; have hnc11 := an.out
     have aW : wr.cell? ⟨ag, 0, none⟩ = some (.int .i64 a0_0) := (blk_cell ab.out 0).trans rfl
     have aX : wr.cell? ⟨ag, 1, none⟩ = some (.slice ay ac.length ar) := (blk_cell ab.out 1).trans rfl
     have aY := blk_frozen ab.out 0; have aZ := blk_frozen ab.out 1
     go_wp2
     go_loopg [5] k1 (fun kq v5 w' => ∃ (ak : Int) (ad : Int) (aa : Int), v5 = .int .i64 ak ∧ Aside0 (spec_NextOut.l1 kq af ak a0_0 ac ad aa = some r) ∧ Aside0 (kq ≤ k1) ∧ Aside0 (w'.heap[ag]? = some (.cells #[.int .i64 a0_0, (.slice ay ac.length ar)] 24 (0, 0))) ∧ Aside0 (w'.heap[al]? = some (.cells #[.int .i64 ad, .int .i64 aa] 30 (0, 0))) ∧ Aside0 (Below w.heap.size w w'))
     case atStart => exact ⟨(0), (au), (av), (by first | rfl | (simp; done) | (simp [*]; done)), H', ⟨Nat.le_refl _⟩, ⟨zk ab⟩, ⟨zk ae⟩, ⟨zb HB⟩⟩
     case round =>
      clear H'
      try clear c1
      try clear p2
      try clear c3
      try clear c8
      try clear c10
      try clear a5
      try clear c11
      try clear aW
      try clear aX
      try clear aO
      try clear aP
      try clear aS
      try clear aT
      try clear aY
      try clear aZ
      try clear aQ
      try clear aR
      try clear aU
      try clear aV
      try clear p2
      obtain ⟨ak, ad, aa, rfl, HA, a8, ab, ae, HB⟩ := hrel
      cases gk with
      | zero => exact absurd HA.out (by simp [spec_NextOut.l1])
      | succ k2 =>
       have H := HA.out; clear HA
       simp only [spec_NextOut.l1] at H
       by_cases b5 : 0 ≤ af
       ·rw [if_pos b5] at H
        have b6 : decide (0 ≤ af) = true := decide_eq_true b5
        clear b5
        by_cases b7 : af < (ac.length : Int)
        ·rw [if_pos b7] at H
         have b8 : decide (af < (ac.length : Int)) = true := decide_eq_true b7
         clear b7
         by_cases bV : ak < ((rd_L2 ac af).length : Int)
         ·rw [if_pos bV] at H
          have bR : decide (ak < ((rd_L2 ac af).length : Int)) = true := decide_eq_true bV
          clear bV
          by_cases b9 : 0 ≤ ak
          ·rw [if_pos b9] at H
           have ca : decide (0 ≤ ak) = true := decide_eq_true b9
           clear b9; have bW := zK H; clear H; have hnb18 := ah.out; have hnc18 := an.out
           have a9 : wr.cell? ⟨ag, 0, none⟩ = some (.int .i64 a0_0) := (blk_cell ab.out 0).trans rfl
           have ba : wr.cell? ⟨ag, 1, none⟩ = some (.slice ay ac.length ar) := (blk_cell ab.out 1).trans rfl
           have bb := blk_frozen ab.out 0; have bc := blk_frozen ab.out 1
           have aL : 0 ≤ (af : Int) := zd
           have aM : af < (ac.length : Int) := zd
           obtain ⟨aF, bX, bY, bZ, aq, aA, aB⟩ := at_L2 aI.out af aL aM
           cases bZ
           replace aq := (HB.out.cell (World.block_lt_of_cell? w _ aq)).trans aq
           have bd := zK aB; have be := zK aA; clear aB aA; replace aL := eq_true aL; replace aM := eq_true aM
           have bf : 0 ≤ (af : Int) := zd
           have bg : af < (ac.length : Int) := zd
           obtain ⟨cb, A124_0, c124_0, e124, aC, a0, a1⟩ := at_L2 aI.out af bf bg
           obtain rfl : aF = cb := (by injection e124)
           replace aC := (HB.out.cell (World.block_lt_of_cell? w _ aC)).trans aC
           have bh := zK a1; have HC124_0 := zK a0; clear a1 a0; replace bf := eq_true bf; replace bg := eq_true bg
           have ea_ := Option.some.inj (aq.symm.trans aC)
           injection ea_ with ea_ en_ ec_
           subst ea_; subst ec_; clear en_
           have bi : 0 ≤ (ak : Int) := zd
           have bj : ak < ((rd_L2 ac af).length : Int) := zd
           obtain ⟨ad125, e125, aD, aE⟩ := at_T30 bh.out ak bi bj
           cases e125
           replace aD := (HB.out.cell (World.block_lt_of_cell? w _ aD)).trans aD
           replace aE := (HB.out.cell (World.block_lt_of_cell? w _ aE)).trans aE
           replace bi := eq_true bi; replace bj := eq_true bj
           go_upto_region 11 with (first | ((with_reducible refine gate_dst (N := 6) rfl ?_); refine box_event ?hg (N := 6) ?hd (cs := #[.int .i64 0, .int .i64 0]) (t := 30) ?hr ?_; (case hd => rfl); (case hg => rfl); (case hr => first | (go_simp; done) | (go_simp; rfl)); intro ap hg a2 hbox hb; have aJ := zK (blk_below (g := ag) (o := .cells #[.int .i64 a0_0, .slice (some aF) ac.length ar] 24 (0, 0)) (zk ab) hb); have aK := zK (blk_below (g := al) (o := .cells #[.int .i64 ad, .int .i64 aa] 30 (0, 0)) (zk ae) hb); have a3 := zK (below_step (zb HB) hb); have a4 := zK (hbox); have b2 := zK ((by rw [hg]; exact (below_size (zb HB)) : w.heap.size ≤ ap)); have b3 := zK ((by rw [hg]; exact (below_size (zb HB)) : w.heap.size ≤ ap)); have b4 := zK ((by rw [hg]; exact Nat.ne_of_lt (blk_lt (g := ag) (o := .cells #[.int .i64 a0_0, .slice (some aF) ac.length ar] 24 (0, 0)) (zk ab)) : ag ≠ ap)); have n7_ := zK ((by rw [hg]; exact Nat.ne_of_gt (blk_lt (g := ag) (o := .cells #[.int .i64 a0_0, .slice (some aF) ac.length ar] 24 (0, 0)) (zk ab)) : ap ≠ ag)); have n8_ := zK ((by rw [hg]; exact Nat.ne_of_lt (blk_lt (g := al) (o := .cells #[.int .i64 ad, .int .i64 aa] 30 (0, 0)) (zk ae)) : al ≠ ap)); have n9_ := zK ((by rw [hg]; exact Nat.ne_of_gt (blk_lt (g := al) (o := .cells #[.int .i64 ad, .int .i64 aa] 30 (0, 0)) (zk ae)) : ap ≠ al)); clear ab; clear ae; clear HB; have ab := aJ; have ae := aK; have HB := a3; have am := a4; have GW126 := b2; have aN := b3; have ai := b4; have aw := n7_; have aj := n8_; have ax := n9_; clear aJ aK a3 a4 b2 b3 b4 n7_ n8_ n9_; clear hb hbox hg; have hnb21 := aw.out; have hnc21 := ai.out; have hnb22 := ax.out; have hnc22 := aj.out; have bk : a2.cell? ⟨ap, 0, none⟩ = some (.int .i64 0) := (blk_cell am.out 0).trans rfl; have bl : a2.cell? ⟨ap, 1, none⟩ = some (.int .i64 0) := (blk_cell am.out 1).trans rfl; have bm := blk_frozen am.out 0; have bn := blk_frozen am.out 1))
           (try simp only [Act.put, zp, zq, zr])
           go_cut [54] (fun v54 wc => ∃ (kq : Nat) (aH : Bool), v54 = .bool aH ∧ Aside0 (spec_NextOut.j2 kq af ak aH a0_0 ac ad aa ((rd_T30 (rd_L2 ac af) ak).f0) ((rd_T30 (rd_L2 ac af) ak).f1) = some r) ∧ Aside0 (kq ≤ k2) ∧ Aside0 (wc.heap[ag]? = some (.cells #[.int .i64 a0_0, (.slice (some aF) ac.length ar)] 24 (0, 0))) ∧ Aside0 (wc.heap[al]? = some (.cells #[.int .i64 ad, .int .i64 aa] 30 (0, 0))) ∧ Aside0 (wc.heap[ap]? = some (.cells #[.int .i64 ((rd_T30 (rd_L2 ac af) ak).f0), .int .i64 ((rd_T30 (rd_L2 ac af) ak).f1)] 30 (0, 0))) ∧ Aside0 (Below w.heap.size w wc))
           case first =>
            have H := bW.out; clear bW
            by_cases b0 : ((rd_T30 (rd_L2 ac af) ak).f1) < aa
            ·rw [if_pos b0] at H
             have aG : decide (((rd_T30 (rd_L2 ac af) ak).f1) < aa) = true := decide_eq_true b0
             clear b0
             (first | rw [aG] | (simp only [i64_w, i32_w]; rw [aG]) | skip)
             have H' := zK H; clear H; have hnb25 := aw.out; have hnc25 := ai.out; have hnb26 := ax.out; have hnc26 := aj.out
             have bo : a2.cell? ⟨ap, 0, none⟩ = some (.int .i64 0) := (blk_cell am.out 0).trans rfl
             have bp : a2.cell? ⟨ap, 1, none⟩ = some (.int .i64 0) := (blk_cell am.out 1).trans rfl
             have bq := blk_frozen am.out 0; have br := blk_frozen am.out 1; have hnb28 := an.out; have hnc28 := ah.out
             have bs : a2.cell? ⟨al, 0, none⟩ = some (.int .i64 ad) := (blk_cell ae.out 0).trans rfl
             have bt : a2.cell? ⟨al, 1, none⟩ = some (.int .i64 aa) := (blk_cell ae.out 1).trans rfl
             have bv := blk_frozen ae.out 0; have bw := blk_frozen ae.out 1
             go_wp2
             go_meet
             case rel => exact ⟨_, (true), (by first | rfl | (simp; done) | (simp [*]; done)), H', ⟨by have := a7.out; have := a8.out; first | omega | exact Nat.le_refl _⟩, ⟨by (with_reducible repeat (first | refine zN ?_ _ | refine zD ?_ | refine zA ?_ _)); refine blk_far ?_ ai.out _; (with_reducible repeat (first | refine zN ?_ _ | refine zD ?_ | refine zA ?_ _)); refine blk_far ?_ ai.out _; (with_reducible repeat (first | refine zN ?_ _ | refine zD ?_ | refine zA ?_ _)); exact ab.out⟩, ⟨by (with_reducible repeat (first | refine zN ?_ _ | refine zD ?_ | refine zA ?_ _)); refine blk_far ?_ aj.out _; (with_reducible repeat (first | refine zN ?_ _ | refine zD ?_ | refine zA ?_ _)); refine blk_far ?_ aj.out _; (with_reducible repeat (first | refine zN ?_ _ | refine zD ?_ | refine zA ?_ _)); exact ae.out⟩, ⟨by (with_reducible repeat (first | refine zN ?_ _ | refine zD ?_ | refine zA ?_ _)); refine blk_put (cs := #[.int .i64 ((rd_T30 (rd_L2 ac af) ak).f0), .int .i64 0]) ?_ 1 _ rfl; (with_reducible repeat (first | refine zN ?_ _ | refine zD ?_ | refine zA ?_ _)); refine blk_put (cs := #[.int .i64 0, .int .i64 0]) ?_ 0 _ rfl; (with_reducible repeat (first | refine zN ?_ _ | refine zD ?_ | refine zA ?_ _)); exact am.out⟩, ⟨zb HB⟩⟩
            ·rw [if_neg b0] at H
             have aG : decide (((rd_T30 (rd_L2 ac af) ak).f1) < aa) = false := decide_eq_false b0
             clear b0
             (first | rw [aG] | (simp only [i64_w, i32_w]; rw [aG]) | skip)
             by_cases bS : ((rd_T30 (rd_L2 ac af) ak).f1) = aa
             ·rw [if_pos bS] at H
              have bT : (((rd_T30 (rd_L2 ac af) ak).f1) == aa) = true := beq_iff_eq.mpr bS
              have bU : (((rd_T30 (rd_L2 ac af) ak).f1) != aa) = false := bne_eq_false_iff_eq.mpr bS
              clear bS; have H' := zK H; clear H; have hnb31 := aw.out; have hnc31 := ai.out; have hnb32 := ax.out; have hnc32 := aj.out
              have bx : a2.cell? ⟨ap, 0, none⟩ = some (.int .i64 0) := (blk_cell am.out 0).trans rfl
              have bz : a2.cell? ⟨ap, 1, none⟩ = some (.int .i64 0) := (blk_cell am.out 1).trans rfl
              have bA := blk_frozen am.out 0; have bB := blk_frozen am.out 1; have hnb34 := an.out; have hnc34 := ah.out
              have bC : a2.cell? ⟨al, 0, none⟩ = some (.int .i64 ad) := (blk_cell ae.out 0).trans rfl
              have bD : a2.cell? ⟨al, 1, none⟩ = some (.int .i64 aa) := (blk_cell ae.out 1).trans rfl
              have bE := blk_frozen ae.out 0; have bF := blk_frozen ae.out 1
              go_wp2
              go_meet
              case rel => exact ⟨_, (decide (((rd_T30 (rd_L2 ac af) ak).f0) < ad)), (by first | rfl | (simp; done) | (simp [*]; done)), H', ⟨by have := a7.out; have := a8.out; first | omega | exact Nat.le_refl _⟩, ⟨by (with_reducible repeat (first | refine zN ?_ _ | refine zD ?_ | refine zA ?_ _)); refine blk_far ?_ ai.out _; (with_reducible repeat (first | refine zN ?_ _ | refine zD ?_ | refine zA ?_ _)); refine blk_far ?_ ai.out _; (with_reducible repeat (first | refine zN ?_ _ | refine zD ?_ | refine zA ?_ _)); exact ab.out⟩, ⟨by (with_reducible repeat (first | refine zN ?_ _ | refine zD ?_ | refine zA ?_ _)); refine blk_far ?_ aj.out _; (with_reducible repeat (first | refine zN ?_ _ | refine zD ?_ | refine zA ?_ _)); refine blk_far ?_ aj.out _; (with_reducible repeat (first | refine zN ?_ _ | refine zD ?_ | refine zA ?_ _)); exact ae.out⟩, ⟨by (with_reducible repeat (first | refine zN ?_ _ | refine zD ?_ | refine zA ?_ _)); refine blk_put (cs := #[.int .i64 ((rd_T30 (rd_L2 ac af) ak).f0), .int .i64 0]) ?_ 1 _ rfl; (with_reducible repeat (first | refine zN ?_ _ | refine zD ?_ | refine zA ?_ _)); refine blk_put (cs := #[.int .i64 0, .int .i64 0]) ?_ 0 _ rfl; (with_reducible repeat (first | refine zN ?_ _ | refine zD ?_ | refine zA ?_ _)); exact am.out⟩, ⟨zb HB⟩⟩
             ·rw [if_neg bS] at H
              have bT : (((rd_T30 (rd_L2 ac af) ak).f1) == aa) = false := beq_eq_false_iff_ne.mpr bS
              have bU : (((rd_T30 (rd_L2 ac af) ak).f1) != aa) = true := bne_iff_ne.mpr bS
              have H' := zK H; clear H; have hnb36 := aw.out; have hnc36 := ai.out; have hnb37 := ax.out; have hnc37 := aj.out
              have bG : a2.cell? ⟨ap, 0, none⟩ = some (.int .i64 0) := (blk_cell am.out 0).trans rfl
              have bH : a2.cell? ⟨ap, 1, none⟩ = some (.int .i64 0) := (blk_cell am.out 1).trans rfl
              have bI := blk_frozen am.out 0; have bJ := blk_frozen am.out 1; have hnb39 := an.out; have hnc39 := ah.out
              have bK : a2.cell? ⟨al, 0, none⟩ = some (.int .i64 ad) := (blk_cell ae.out 0).trans rfl
              have bL : a2.cell? ⟨al, 1, none⟩ = some (.int .i64 aa) := (blk_cell ae.out 1).trans rfl
              have bM := blk_frozen ae.out 0; have bN := blk_frozen ae.out 1
              go_wp2
              go_meet
              case rel => exact ⟨_, (false), (by first | rfl | (simp; done) | (simp [*]; done)), H', ⟨by have := a7.out; have := a8.out; first | omega | exact Nat.le_refl _⟩, ⟨by (with_reducible repeat (first | refine zN ?_ _ | refine zD ?_ | refine zA ?_ _)); refine blk_far ?_ ai.out _; (with_reducible repeat (first | refine zN ?_ _ | refine zD ?_ | refine zA ?_ _)); refine blk_far ?_ ai.out _; (with_reducible repeat (first | refine zN ?_ _ | refine zD ?_ | refine zA ?_ _)); exact ab.out⟩, ⟨by (with_reducible repeat (first | refine zN ?_ _ | refine zD ?_ | refine zA ?_ _)); refine blk_far ?_ aj.out _; (with_reducible repeat (first | refine zN ?_ _ | refine zD ?_ | refine zA ?_ _)); refine blk_far ?_ aj.out _; (with_reducible repeat (first | refine zN ?_ _ | refine zD ?_ | refine zA ?_ _)); exact ae.out⟩, ⟨by (with_reducible repeat (first | refine zN ?_ _ | refine zD ?_ | refine zA ?_ _)); refine blk_put (cs := #[.int .i64 ((rd_T30 (rd_L2 ac af) ak).f0), .int .i64 0]) ?_ 1 _ rfl; (with_reducible repeat (first | refine zN ?_ _ | refine zD ?_ | refine zA ?_ _)); refine blk_put (cs := #[.int .i64 0, .int .i64 0]) ?_ 0 _ rfl; (with_reducible repeat (first | refine zN ?_ _ | refine zD ?_ | refine zA ?_ _)); exact am.out⟩, ⟨zb HB⟩⟩
           case rest =>
            clear bW
            try clear c1
            try clear p1
            try clear q1
            try clear hx1
            try clear c2
            try clear p2
            try clear c3
            try clear c8
            try clear c10
            try clear a5
            try clear c11
            try clear c12
            try clear p12
            try clear q12
            try clear hx12
            try clear b5
            try clear b6
            try clear b7
            try clear b8
            try clear bV
            try clear bR
            try clear b9
            try clear ca
            try clear c17
            try clear c18
            try clear c21
            try clear c22
            try clear b0
            try clear aG
            try clear c25
            try clear c26
            try clear c28
            try clear bS
            try clear bT
            try clear bU
            try clear c31
            try clear c32
            try clear c34
            try clear c36
            try clear c37
            try clear c39
            try clear aW
            try clear aX
            try clear a9
            try clear ba
            try clear bk
            try clear bl
            try clear bo
            try clear bp
            try clear bs
            try clear bt
            try clear bx
            try clear bz
            try clear bC
            try clear bD
            try clear bG
            try clear bH
            try clear bK
            try clear bL
            try clear aO
            try clear aP
            try clear aS
            try clear aT
            try clear aY
            try clear aZ
            try clear bb
            try clear bc
            try clear bm
            try clear bn
            try clear bq
            try clear br
            try clear bv
            try clear bw
            try clear bA
            try clear bB
            try clear bE
            try clear bF
            try clear bI
            try clear bJ
            try clear bM
            try clear bN
            try clear aQ
            try clear aR
            try clear aU
            try clear aV
            try clear aq
            try clear aC
            try clear aD
            try clear aE
            try clear aL
            try clear bf
            try clear bi
            try clear p2
            try clear aM
            try clear bg
            try clear bj
            obtain ⟨kq, aH, rfl, HA, bO, ab, ae, am, HB⟩ := hcut
            cases kq with
            | zero => exact absurd HA.out (by simp [spec_NextOut.j2])
            | succ kj16 =>
             have H := HA.out; clear HA
             simp only [spec_NextOut.j2] at H
             by_cases c41 : aH = true
             ·subst c41
              have H1 : (spec_NextOut.l1 kj16 af (wrap64 (ak + 1)) a0_0 ac ((rd_T30 (rd_L2 ac af) ak).f0) ((rd_T30 (rd_L2 ac af) ak).f1)) = some r := by rw [if_pos rfl] at H; exact H
              clear H; have H := H1; clear H1; have H' := zK H; clear H; have hnb42 := aw.out; have hnc42 := ai.out; have hnb43 := ax.out; have hnc43 := aj.out
              have hcz44_0 : wc.cell? ⟨ap, 0, none⟩ = some (.int .i64 ((rd_T30 (rd_L2 ac af) ak).f0)) := (blk_cell am.out 0).trans rfl
              have hcz44_1 : wc.cell? ⟨ap, 1, none⟩ = some (.int .i64 ((rd_T30 (rd_L2 ac af) ak).f1)) := (blk_cell am.out 1).trans rfl
              have hfz44_0 := blk_frozen am.out 0; have hfz44_1 := blk_frozen am.out 1; have hnb45 := an.out; have hnc45 := ah.out
              have hcz46_0 : wc.cell? ⟨al, 0, none⟩ = some (.int .i64 ad) := (blk_cell ae.out 0).trans rfl
              have hcz46_1 : wc.cell? ⟨al, 1, none⟩ = some (.int .i64 aa) := (blk_cell ae.out 1).trans rfl
              have hfz46_0 := blk_frozen ae.out 0; have hfz46_1 := blk_frozen ae.out 1
              go_wp2
              go_roundg kj16
              case measure => have := a7.out; have := a8.out; have := bO.out; omega
              case rel => exact ⟨(wrap64 (ak + 1)), (((rd_T30 (rd_L2 ac af) ak).f0)), (((rd_T30 (rd_L2 ac af) ak).f1)), (by first | rfl | (simp; done) | (simp [*]; done)), H', ⟨by have := a7.out; have := a8.out; have := bO.out; omega⟩, ⟨by (with_reducible repeat (first | refine zN ?_ _ | refine zD ?_ | refine zA ?_ _)); refine blk_far ?_ ah.out _; (with_reducible repeat (first | refine zN ?_ _ | refine zD ?_ | refine zA ?_ _)); refine blk_far ?_ ah.out _; (with_reducible repeat (first | refine zN ?_ _ | refine zD ?_ | refine zA ?_ _)); exact ab.out⟩, ⟨by (with_reducible repeat (first | refine zN ?_ _ | refine zD ?_ | refine zA ?_ _)); refine blk_put (cs := #[.int .i64 ((rd_T30 (rd_L2 ac af) ak).f0), .int .i64 aa]) ?_ 1 _ rfl; (with_reducible repeat (first | refine zN ?_ _ | refine zD ?_ | refine zA ?_ _)); refine blk_put (cs := #[.int .i64 ad, .int .i64 aa]) ?_ 0 _ rfl; (with_reducible repeat (first | refine zN ?_ _ | refine zD ?_ | refine zA ?_ _)); exact ae.out⟩, ⟨zb HB⟩⟩
             ·replace c41 := Bool.eq_false_iff.mpr c41
              subst c41
              have H1 : (spec_NextOut.l1 kj16 af (wrap64 (ak + 1)) a0_0 ac ad aa) = some r := by rw [if_neg (show ¬ (false = true) by decide)] at H; exact H
              clear H; have H := H1; clear H1; have H' := zK H; clear H
              go_wp2
              go_roundg kj16
              case measure => have := a7.out; have := a8.out; have := bO.out; omega
              case rel => exact ⟨(wrap64 (ak + 1)), (ad), (aa), (by first | rfl | (simp; done) | (simp [*]; done)), H', ⟨by have := a7.out; have := a8.out; have := bO.out; omega⟩, ⟨zk ab⟩, ⟨zk ae⟩, ⟨zb HB⟩⟩
          ·rw [if_neg b9] at H
           exact absurd H (by simp)
         ·rw [if_neg bV] at H
          have bR : decide (ak < ((rd_L2 ac af).length : Int)) = false := decide_eq_false bV
          clear bV; have H' := zK H; clear H; have hnb47 := ah.out; have hnc47 := an.out
          have hcz48_0 : wr.cell? ⟨ag, 0, none⟩ = some (.int .i64 a0_0) := (blk_cell ab.out 0).trans rfl
          have hcz48_1 : wr.cell? ⟨ag, 1, none⟩ = some (.slice ay ac.length ar) := (blk_cell ab.out 1).trans rfl
          have hfz48_0 := blk_frozen ab.out 0; have hfz48_1 := blk_frozen ab.out 1
          have aL : 0 ≤ (af : Int) := zd
          have aM : af < (ac.length : Int) := zd
          obtain ⟨aF, bX, bY, bZ, aq, aA, aB⟩ := at_L2 aI.out af aL aM
          cases bZ
          replace aq := (HB.out.cell (World.block_lt_of_cell? w _ aq)).trans aq
          have bd := zK aB; have be := zK aA; clear aB aA; replace aL := eq_true aL; replace aM := eq_true aM
          go_wp2
          go_roundg k2
          case measure => have := a7.out; have := a8.out; omega
          case rel => exact ⟨(wrap64 (af + 1)), (ad), (aa), (by first | rfl | (simp; done) | (simp [*]; done)), H', ⟨by have := a7.out; have := a8.out; omega⟩, ⟨zk ab⟩, ⟨zk ae⟩, ⟨zb HB⟩⟩
        ·rw [if_neg b7] at H
         exact absurd H (by simp)
       ·rw [if_neg b5] at H
        exact absurd H (by simp)
    ·rw [if_neg c10] at H
     have a5 : decide (af < (ac.length : Int)) = false := decide_eq_false c10
     clear c10; obtain rfl := Option.some.inj H; have hnb49 := ah.out; have hnc49 := an.out
     have hcz50_0 : wr.cell? ⟨ag, 0, none⟩ = some (.int .i64 a0_0) := (blk_cell ab.out 0).trans rfl
     have hcz50_1 : wr.cell? ⟨ag, 1, none⟩ = some (.slice ay ac.length ar) := (blk_cell ab.out 1).trans rfl
     have hfz50_0 := blk_frozen ab.out 0; have hfz50_1 := blk_frozen ab.out 1
     have hcz51_0 : wr.cell? ⟨al, 0, none⟩ = some (.int .i64 au) := (blk_cell ae.out 0).trans rfl
     have hcz51_1 : wr.cell? ⟨al, 1, none⟩ = some (.int .i64 av) := (blk_cell ae.out 1).trans rfl
     have hfz51_0 := blk_frozen ae.out 0; have hfz51_1 := blk_frozen ae.out 1
     go_wp2
     go_ret
     exact ⟨by first | rfl | (simp [errW_none, errW_some] <;> rfl) | (simp [*, errW_none, errW_some] <;> rfl), by repeat (first | (with_reducible first | exact HB.out | apply zB | apply zC | apply zE | refine zS ?_ ao.out | refine zS ?_ az.out) | exact HB.out)⟩
 ·replace c3 := Bool.eq_false_iff.mpr c3
  subst c3
  have H1 : (some 0) = some r := by rw [if_neg (show ¬ (false = true) by decide)] at H; exact H
  clear H; have H := H1; clear H1; obtain rfl := Option.some.inj H
  go_enter Try.func17, Try.ntmps17
  go_wp2_with (first | ((with_reducible refine gate_dst (N := 1) rfl ?_); refine box_event ?hg (N := 1) ?hd (cs := #[.int .i64 a0_0, .slice ay ac.length ar]) (t := 24) ?hr ?_; (case hd => rfl); (case hg => rfl); (case hr => first | (go_simp; done) | (go_simp; rfl)); intro ag hg w52 hbox hb; have aJ := zK (below_step (zb HB) hb); have aK := zK (hbox); have a3 := zK ((by rw [hg]; exact (below_size (zb HB)) : w.heap.size ≤ ag)); have a4 := zK ((by rw [hg]; exact (below_size (zb HB)) : w.heap.size ≤ ag)); clear HB; have HB := aJ; have ab := aK; have b1 := a3; have ao := a4; clear aJ aK a3 a4; clear hb hbox hg; have hcz53_0 : w52.cell? ⟨ag, 0, none⟩ = some (.int .i64 a0_0) := (blk_cell ab.out 0).trans rfl; have hcz53_1 : w52.cell? ⟨ag, 1, none⟩ = some (.slice ay ac.length ar) := (blk_cell ab.out 1).trans rfl; have hfz53_0 := blk_frozen ab.out 0; have hfz53_1 := blk_frozen ab.out 1) | ((with_reducible refine gate_callee (f := 15) rfl ?_); refine goesL_ (some 8) rfl rfl Try.func15 (by kernel_rfl) rfl #[.agg #[.int .i64 a0_0, .slice ay ac.length ar]] rfl (by (try simp only [List.map_toArray, List.map_cons, List.map_nil]); first | done | rfl | (simp only [List.length_drop, List.length_take]; rfl)) ?_; (with_reducible refine (spec_StoreOk.calls k a0_0 _ _ ac false _ ?side1 ?side2 A2.out).mono ?_); (case side1 => repeat (first | exact (Kd.C_below aI.out HB.out) | (with_reducible refine Kd.C_alloc ?_ _) | (with_reducible refine Kd.C_drewN ?_ _) | (with_reducible refine Kd.C_drew ?_))); (case side2 => exact bQ.out); rintro e w54 ⟨rfl, hb⟩; refine ⟨_, rfl, ?_⟩; have aJ := zK (blk_below (g := ag) (o := .cells #[.int .i64 a0_0, .slice ay ac.length ar] 24 (0, 0)) (zk ab) hb); have aK := zK (below_step (zb HB) hb); clear ab; clear HB; have ab := aJ; have HB := aK; clear aJ aK; (try clear hb)))
  go_ret
  exact ⟨by first | rfl | (simp [errW_none, errW_some] <;> rfl) | (simp [*, errW_none, errW_some] <;> rfl), by repeat (first | (with_reducible first | exact HB.out | apply zB | apply zC | apply zE | refine zS ?_ ao.out) | exact HB.out)⟩
mutual
def impl_nextOut.l0 : Nat → List (List (S30)) → Int → Int → Int → Int → Option (Int)
 | 0, _, _, _, _, _ => none
 | k + 1, x10, x11, x12, x146000, x146001 => if x12 < x11 then (if 0 ≤ x12 then (if x12 < (x10.length : Int) then (impl_nextOut.l1 k x10 x11 x12 (rd_L2 x10 x12) ((rd_L2 x10 x12).length : Int) 0 x146000 x146001) else (none)) else (none)) else (some x146000)
def impl_nextOut.l1 : Nat → List (List (S30)) → Int → Int → List (S30) → Int → Int → Int → Int → Option (Int)
 | 0, _, _, _, _, _, _, _, _ => none
 | k + 1, x10, x11, x12, x16, x17, x18, x146000, x146001 => if x18 < x17 then (if 0 ≤ x18 then (if x18 < (x16.length : Int) then (if x146000 = 0 then (impl_nextOut.j2 k x10 x11 x12 x16 x17 x18 true x146000 x146001 ((rd_T30 x16 x18).f0) ((rd_T30 x16 x18).f1)) else (if ((rd_T30 x16 x18).f1) < x146001 then (impl_nextOut.j2 k x10 x11 x12 x16 x17 x18 true x146000 x146001 ((rd_T30 x16 x18).f0) ((rd_T30 x16 x18).f1)) else (if ((rd_T30 x16 x18).f1) = x146001 then (impl_nextOut.j2 k x10 x11 x12 x16 x17 x18 (decide (((rd_T30 x16 x18).f0) < x146000)) x146000 x146001 ((rd_T30 x16 x18).f0) ((rd_T30 x16 x18).f1)) else (impl_nextOut.j2 k x10 x11 x12 x16 x17 x18 false x146000 x146001 ((rd_T30 x16 x18).f0) ((rd_T30 x16 x18).f1))))) else (none)) else (none)) else (impl_nextOut.l0 k x10 x11 (wrap64 (x12 + 1)) x146000 x146001)
def impl_nextOut.j2 : Nat → List (List (S30)) → Int → Int → List (S30) → Int → Int → Bool → Int → Int → Int → Int → Option (Int)
 | 0, _, _, _, _, _, _, _, _, _, _, _ => none
 | k + 1, x10, x11, x12, x16, x17, x18, x45, x146000, x146001, x149000, x149001 => if x45 = true then (impl_nextOut.l1 k x10 x11 x12 x16 x17 (wrap64 (x18 + 1)) x149000 x149001) else (impl_nextOut.l1 k x10 x11 x12 x16 x17 (wrap64 (x18 + 1)) x146000 x146001)
end
def impl_nextOut.f (k : Nat) (a0_0 : Int) (l0_1 : List (List (S30))) : Option (Int) := impl_nextOut.l0 k l0_1 (l0_1.length : Int) 0 0 0
set_option maxHeartbeats 8000000 in
set_option maxRecDepth 100000 in
theorem impl_nextOut.calls (k : Nat) (a0_0 : Int) (aE : Option Addr) (ay : Nat) (ad : List (List (S30))) (r : Int) (w : World) (bw : Kd.C (Kd.slice 30 k30) w aE ad.length ad) (hc0_1 : ad.length ≤ ay) (h : impl_nextOut.f k a0_0 ad = some r) :
  Calls Try.prog 60 #[.agg #[.int .i64 a0_0, .slice aE ad.length ay]] w fun e w' => e = .returned (.int .i64 r) ∧ Below w.heap.size w w' := by
 have hu24 := Try.underlying24; have hu30 := Try.underlying30; have bM := zK bw; have HC0_1 := zK hc0_1; clear bw hc0_1
 have HB := zK (Below.refl w.heap.size w)
 have H : (impl_nextOut.l0 k ad (ad.length : Int) 0 0 0) = some r := h
 clear h; have H' := zK H; clear H
 go_enter Try.func60, Try.ntmps60
 go_wp2_with (first | ((with_reducible refine gate_dst (N := 1) rfl ?_); refine box_event ?hg (N := 1) ?hd (cs := #[.int .i64 a0_0, .slice aE ad.length ay]) (t := 24) ?hr ?_; (case hd => rfl); (case hg => rfl); (case hr => first | (go_simp; done) | (go_simp; rfl)); intro an hg w2 hbox hb; have bx := zK (below_step (zb HB) hb); have bz := zK (hbox); have bA := zK ((by rw [hg]; exact (below_size (zb HB)) : w.heap.size ≤ an)); have bB := zK ((by rw [hg]; exact (below_size (zb HB)) : w.heap.size ≤ an)); clear HB; have HB := bx; have aj := bz; have GW144 := bA; have ap := bB; clear bx bz bA bB; clear hb hbox hg) | ((with_reducible refine gate_dst (N := 3) rfl ?_); refine box_event ?hg (N := 3) ?hd (cs := #[.int .i64 0, .int .i64 0]) (t := 30) ?hr ?_; (case hd => rfl); (case hg => rfl); (case hr => first | (go_simp; done) | (go_simp; rfl)); intro ak hg w3 hbox hb; have bx := zK (blk_below (g := an) (o := .cells #[.int .i64 a0_0, .slice aE ad.length ay] 24 (0, 0)) (zk aj) hb); have bz := zK (below_step (zb HB) hb); have bA := zK (hbox); have bB := zK ((by rw [hg]; exact (below_size (zb HB)) : w.heap.size ≤ ak)); have bN := zK ((by rw [hg]; exact (below_size (zb HB)) : w.heap.size ≤ ak)); have bO := zK ((by rw [hg]; exact Nat.ne_of_lt (blk_lt (g := an) (o := .cells #[.int .i64 a0_0, .slice aE ad.length ay] 24 (0, 0)) (zk aj)) : an ≠ ak)); have bP := zK ((by rw [hg]; exact Nat.ne_of_gt (blk_lt (g := an) (o := .cells #[.int .i64 a0_0, .slice aE ad.length ay] 24 (0, 0)) (zk aj)) : ak ≠ an)); clear aj; clear HB; have aj := bx; have HB := bz; have ae := bA; have GW145 := bB; have ar := bN; have ai := bO; have am := bP; clear bx bz bA bB bN bO bP; clear hb hbox hg; have hnb4 := am.out; have hnc4 := ai.out; have aH : w3.cell? ⟨ak, 0, none⟩ = some (.int .i64 0) := (blk_cell ae.out 0).trans rfl; have aI : w3.cell? ⟨ak, 1, none⟩ = some (.int .i64 0) := (blk_cell ae.out 1).trans rfl; have aJ := blk_frozen ae.out 0; have aK := blk_frozen ae.out 1; have aL : w3.cell? ⟨an, 0, none⟩ = some (.int .i64 a0_0) := (blk_cell aj.out 0).trans rfl; have aM : w3.cell? ⟨an, 1, none⟩ = some (.slice aE ad.length ay) := (blk_cell aj.out 1).trans rfl; have aN := blk_frozen aj.out 0; have aO := blk_frozen aj.out 1))
 go_loopg [12] k (fun kq v12 w' => ∃ (ab : Int) (au : Int) (av : Int), v12 = .int .i64 ab ∧ Aside0 (impl_nextOut.l0 kq ad (ad.length : Int) ab au av = some r) ∧ Aside0 (kq ≤ k) ∧ Aside0 (w'.heap[an]? = some (.cells #[.int .i64 a0_0, (.slice aE ad.length ay)] 24 (0, 0))) ∧ Aside0 (w'.heap[ak]? = some (.cells #[.int .i64 au, .int .i64 av] 30 (0, 0))) ∧ Aside0 (Below w.heap.size w w'))
 case atStart => exact ⟨(0), (0), (0), (by first | rfl | (simp; done) | (simp [*]; done)), H', ⟨Nat.le_refl _⟩, ⟨by (with_reducible repeat (first | refine zN ?_ _ | refine zD ?_ | refine zA ?_ _)); refine blk_far ?_ ai.out _; (with_reducible repeat (first | refine zN ?_ _ | refine zD ?_ | refine zA ?_ _)); refine blk_far ?_ ai.out _; (with_reducible repeat (first | refine zN ?_ _ | refine zD ?_ | refine zA ?_ _)); exact aj.out⟩, ⟨by (with_reducible repeat (first | refine zN ?_ _ | refine zD ?_ | refine zA ?_ _)); refine blk_put (cs := #[.int .i64 0, .int .i64 0]) ?_ 1 _ rfl; (with_reducible repeat (first | refine zN ?_ _ | refine zD ?_ | refine zA ?_ _)); refine blk_put (cs := #[.int .i64 0, .int .i64 0]) ?_ 0 _ rfl; (with_reducible repeat (first | refine zN ?_ _ | refine zD ?_ | refine zA ?_ _)); exact ae.out⟩, ⟨zb HB⟩⟩
 case round =>
  clear H'
  try clear p2
  try clear c4
  try clear c6
  try clear aH
  try clear aI
  try clear aL
  try clear aM
  try clear aJ
  try clear aK
  try clear aN
  try clear aO
  obtain ⟨ab, au, av, rfl, HA, aT, aj, ae, HB⟩ := hrel
  cases gk with
  | zero => exact absurd HA.out (by simp [impl_nextOut.l0])
  | succ k1 =>
   have H := HA.out; clear HA
   simp only [impl_nextOut.l0] at H
   by_cases c7 : ab < (ad.length : Int)
   ·rw [if_pos c7] at H
    have bJ : decide (ab < (ad.length : Int)) = true := decide_eq_true c7
    clear c7
    by_cases c8 : 0 ≤ ab
    ·rw [if_pos c8] at H
     have bQ : decide (0 ≤ ab) = true := decide_eq_true c8
     clear c8
     by_cases c9 : ab < (ad.length : Int)
     ·rw [if_pos c9] at H
      have bR : decide (ab < (ad.length : Int)) = true := decide_eq_true c9
      clear c9; have H' := zK H; clear H
      have aR : 0 ≤ (ab : Int) := zd
      have aS : ab < (ad.length : Int) := zd
      obtain ⟨aF, A146_0, c146_0, e146, ax, aP, aQ⟩ := at_L2 bM.out ab aR aS
      cases e146
      replace ax := (HB.out.cell (World.block_lt_of_cell? w _ ax)).trans ax
      have aV := zK aQ; have HC146_0 := zK aP; clear aQ aP; replace aR := eq_true aR; replace aS := eq_true aS
      go_wp2
      go_loopg [18] k1 (fun kq v18 w' => ∃ (af : Int) (ac : Int) (aa : Int), v18 = .int .i64 af ∧ Aside0 (impl_nextOut.l1 kq ad (ad.length : Int) ab (rd_L2 ad ab) ((rd_L2 ad ab).length : Int) af ac aa = some r) ∧ Aside0 (kq ≤ k1) ∧ Aside0 (w'.heap[an]? = some (.cells #[.int .i64 a0_0, (.slice (some aF) ad.length ay)] 24 (0, 0))) ∧ Aside0 (w'.heap[ak]? = some (.cells #[.int .i64 ac, .int .i64 aa] 30 (0, 0))) ∧ Aside0 (Below w.heap.size w w'))
      case atStart => exact ⟨(0), (au), (av), (by first | rfl | (simp; done) | (simp [*]; done)), H', ⟨Nat.le_refl _⟩, ⟨zk aj⟩, ⟨zk ae⟩, ⟨zb HB⟩⟩
      case round =>
       clear H'
       try clear c1
       try clear p1
       try clear q1
       try clear hx1
       try clear p2
       try clear c4
       try clear c6
       try clear c7
       try clear bJ
       try clear c8
       try clear bQ
       try clear c9
       try clear bR
       try clear aH
       try clear aI
       try clear aL
       try clear aM
       try clear aJ
       try clear aK
       try clear aN
       try clear aO
       try clear ax
       try clear aR
       try clear p2
       try clear aS
       obtain ⟨af, ac, aa, rfl, HA, aU, aj, ae, HB⟩ := hrel
       cases gk with
       | zero => exact absurd HA.out (by simp [impl_nextOut.l1])
       | succ k2 =>
        have H := HA.out; clear HA
        simp only [impl_nextOut.l1] at H
        by_cases c10 : af < ((rd_L2 ad ab).length : Int)
        ·rw [if_pos c10] at H
         have bC : decide (af < ((rd_L2 ad ab).length : Int)) = true := decide_eq_true c10
         clear c10
         by_cases bS : 0 ≤ af
         ·rw [if_pos bS] at H
          have bT : decide (0 ≤ af) = true := decide_eq_true bS
          clear bS
          by_cases bU : af < ((rd_L2 ad ab).length : Int)
          ·rw [if_pos bU] at H
           have bV : decide (af < ((rd_L2 ad ab).length : Int)) = true := decide_eq_true bU
           clear bU; have bK := zK H; clear H
           have aW : 0 ≤ (af : Int) := zd
           have aX : af < ((rd_L2 ad ab).length : Int) := zd
           obtain ⟨ad147, e147, az, aA⟩ := at_T30 aV.out af aW aX
           cases e147
           replace az := (HB.out.cell (World.block_lt_of_cell? w _ az)).trans az
           replace aA := (HB.out.cell (World.block_lt_of_cell? w _ aA)).trans aA
           replace aW := eq_true aW; replace aX := eq_true aX
           go_upto_region 8 with (first | ((with_reducible refine gate_dst (N := 7) rfl ?_); refine box_event ?hg (N := 7) ?hd (cs := #[.int .i64 0, .int .i64 0]) (t := 30) ?hr ?_; (case hd => rfl); (case hg => rfl); (case hr => first | (go_simp; done) | (go_simp; rfl)); intro ao hg aG hbox hb; have bx := zK (blk_below (g := an) (o := .cells #[.int .i64 a0_0, .slice (some aF) ad.length ay] 24 (0, 0)) (zk aj) hb); have bz := zK (blk_below (g := ak) (o := .cells #[.int .i64 ac, .int .i64 aa] 30 (0, 0)) (zk ae) hb); have bA := zK (below_step (zb HB) hb); have bB := zK (hbox); have bN := zK ((by rw [hg]; exact (below_size (zb HB)) : w.heap.size ≤ ao)); have bO := zK ((by rw [hg]; exact (below_size (zb HB)) : w.heap.size ≤ ao)); have bP := zK ((by rw [hg]; exact Nat.ne_of_lt (blk_lt (g := an) (o := .cells #[.int .i64 a0_0, .slice (some aF) ad.length ay] 24 (0, 0)) (zk aj)) : an ≠ ao)); have n7_ := zK ((by rw [hg]; exact Nat.ne_of_gt (blk_lt (g := an) (o := .cells #[.int .i64 a0_0, .slice (some aF) ad.length ay] 24 (0, 0)) (zk aj)) : ao ≠ an)); have n8_ := zK ((by rw [hg]; exact Nat.ne_of_lt (blk_lt (g := ak) (o := .cells #[.int .i64 ac, .int .i64 aa] 30 (0, 0)) (zk ae)) : ak ≠ ao)); have n9_ := zK ((by rw [hg]; exact Nat.ne_of_gt (blk_lt (g := ak) (o := .cells #[.int .i64 ac, .int .i64 aa] 30 (0, 0)) (zk ae)) : ao ≠ ak)); clear aj; clear ae; clear HB; have aj := bx; have ae := bz; have HB := bA; have al := bB; have GW148 := bN; have aB := bO; have ah := bP; have aw := n7_; have ag := n8_; have aq := n9_; clear bx bz bA bB bN bO bP n7_ n8_ n9_; clear hb hbox hg; have hnb15 := aw.out; have hnc15 := ah.out; have hnb16 := aq.out; have hnc16 := ag.out; have aY : aG.cell? ⟨ao, 0, none⟩ = some (.int .i64 0) := (blk_cell al.out 0).trans rfl; have aZ : aG.cell? ⟨ao, 1, none⟩ = some (.int .i64 0) := (blk_cell al.out 1).trans rfl; have a0 := blk_frozen al.out 0; have a1 := blk_frozen al.out 1))
           (try simp only [Act.put, zp, zq, zr])
           go_cut [45] (fun v45 wc => ∃ (kq : Nat) (aD : Bool), v45 = .bool aD ∧ Aside0 (impl_nextOut.j2 kq ad (ad.length : Int) ab (rd_L2 ad ab) ((rd_L2 ad ab).length : Int) af aD ac aa ((rd_T30 (rd_L2 ad ab) af).f0) ((rd_T30 (rd_L2 ad ab) af).f1) = some r) ∧ Aside0 (kq ≤ k2) ∧ Aside0 (wc.heap[an]? = some (.cells #[.int .i64 a0_0, (.slice (some aF) ad.length ay)] 24 (0, 0))) ∧ Aside0 (wc.heap[ak]? = some (.cells #[.int .i64 ac, .int .i64 aa] 30 (0, 0))) ∧ Aside0 (wc.heap[ao]? = some (.cells #[.int .i64 ((rd_T30 (rd_L2 ad ab) af).f0), .int .i64 ((rd_T30 (rd_L2 ad ab) af).f1)] 30 (0, 0))) ∧ Aside0 (Below w.heap.size w wc))
           case first =>
            have H := bK.out; clear bK
            by_cases bD : ac = 0
            ·rw [if_pos bD] at H
             have aC : (ac == 0) = true := beq_iff_eq.mpr bD
             have bE : (ac != 0) = false := bne_eq_false_iff_eq.mpr bD
             clear bD
             (first | rw [aC] | (simp only [i64_w, i32_w]; rw [aC]) | skip)
             have H' := zK H; clear H; have hnb19 := am.out; have hnc19 := ai.out; have hnb20 := ag.out; have hnc20 := aq.out
             have a2 : aG.cell? ⟨ak, 0, none⟩ = some (.int .i64 ac) := (blk_cell ae.out 0).trans rfl
             have a3 : aG.cell? ⟨ak, 1, none⟩ = some (.int .i64 aa) := (blk_cell ae.out 1).trans rfl
             have a4 := blk_frozen ae.out 0; have a5 := blk_frozen ae.out 1
             go_wp2
             go_meet
             case rel => exact ⟨_, (true), (by first | rfl | (simp; done) | (simp [*]; done)), H', ⟨by have := aT.out; have := aU.out; first | omega | exact Nat.le_refl _⟩, ⟨by (with_reducible repeat (first | refine zN ?_ _ | refine zD ?_ | refine zA ?_ _)); refine blk_far ?_ ah.out _; (with_reducible repeat (first | refine zN ?_ _ | refine zD ?_ | refine zA ?_ _)); refine blk_far ?_ ah.out _; (with_reducible repeat (first | refine zN ?_ _ | refine zD ?_ | refine zA ?_ _)); exact aj.out⟩, ⟨by (with_reducible repeat (first | refine zN ?_ _ | refine zD ?_ | refine zA ?_ _)); refine blk_far ?_ ag.out _; (with_reducible repeat (first | refine zN ?_ _ | refine zD ?_ | refine zA ?_ _)); refine blk_far ?_ ag.out _; (with_reducible repeat (first | refine zN ?_ _ | refine zD ?_ | refine zA ?_ _)); exact ae.out⟩, ⟨by (with_reducible repeat (first | refine zN ?_ _ | refine zD ?_ | refine zA ?_ _)); refine blk_put (cs := #[.int .i64 ((rd_T30 (rd_L2 ad ab) af).f0), .int .i64 0]) ?_ 1 _ rfl; (with_reducible repeat (first | refine zN ?_ _ | refine zD ?_ | refine zA ?_ _)); refine blk_put (cs := #[.int .i64 0, .int .i64 0]) ?_ 0 _ rfl; (with_reducible repeat (first | refine zN ?_ _ | refine zD ?_ | refine zA ?_ _)); exact al.out⟩, ⟨zb HB⟩⟩
            ·rw [if_neg bD] at H
             have aC : (ac == 0) = false := beq_eq_false_iff_ne.mpr bD
             have bE : (ac != 0) = true := bne_iff_ne.mpr bD
             (first | rw [aC] | (simp only [i64_w, i32_w]; rw [aC]) | skip)
             by_cases bL : ((rd_T30 (rd_L2 ad ab) af).f1) < aa
             ·rw [if_pos bL] at H
              have bF : decide (((rd_T30 (rd_L2 ad ab) af).f1) < aa) = true := decide_eq_true bL
              clear bL; have H' := zK H; clear H; have hnb23 := am.out; have hnc23 := ai.out; have hnb24 := ag.out; have hnc24 := aq.out
              have a6 : aG.cell? ⟨ak, 0, none⟩ = some (.int .i64 ac) := (blk_cell ae.out 0).trans rfl
              have a7 : aG.cell? ⟨ak, 1, none⟩ = some (.int .i64 aa) := (blk_cell ae.out 1).trans rfl
              have a8 := blk_frozen ae.out 0; have a9 := blk_frozen ae.out 1; have hnb26 := aw.out; have hnc26 := ah.out
              have ba : aG.cell? ⟨ao, 0, none⟩ = some (.int .i64 0) := (blk_cell al.out 0).trans rfl
              have bb : aG.cell? ⟨ao, 1, none⟩ = some (.int .i64 0) := (blk_cell al.out 1).trans rfl
              have bc := blk_frozen al.out 0; have bd := blk_frozen al.out 1
              go_wp2
              go_meet
              case rel => exact ⟨_, (true), (by first | rfl | (simp; done) | (simp [*]; done)), H', ⟨by have := aT.out; have := aU.out; first | omega | exact Nat.le_refl _⟩, ⟨by (with_reducible repeat (first | refine zN ?_ _ | refine zD ?_ | refine zA ?_ _)); refine blk_far ?_ ah.out _; (with_reducible repeat (first | refine zN ?_ _ | refine zD ?_ | refine zA ?_ _)); refine blk_far ?_ ah.out _; (with_reducible repeat (first | refine zN ?_ _ | refine zD ?_ | refine zA ?_ _)); exact aj.out⟩, ⟨by (with_reducible repeat (first | refine zN ?_ _ | refine zD ?_ | refine zA ?_ _)); refine blk_far ?_ ag.out _; (with_reducible repeat (first | refine zN ?_ _ | refine zD ?_ | refine zA ?_ _)); refine blk_far ?_ ag.out _; (with_reducible repeat (first | refine zN ?_ _ | refine zD ?_ | refine zA ?_ _)); exact ae.out⟩, ⟨by (with_reducible repeat (first | refine zN ?_ _ | refine zD ?_ | refine zA ?_ _)); refine blk_put (cs := #[.int .i64 ((rd_T30 (rd_L2 ad ab) af).f0), .int .i64 0]) ?_ 1 _ rfl; (with_reducible repeat (first | refine zN ?_ _ | refine zD ?_ | refine zA ?_ _)); refine blk_put (cs := #[.int .i64 0, .int .i64 0]) ?_ 0 _ rfl; (with_reducible repeat (first | refine zN ?_ _ | refine zD ?_ | refine zA ?_ _)); exact al.out⟩, ⟨zb HB⟩⟩
             ·rw [if_neg bL] at H
              have bF : decide (((rd_T30 (rd_L2 ad ab) af).f1) < aa) = false := decide_eq_false bL
              clear bL
              by_cases bG : ((rd_T30 (rd_L2 ad ab) af).f1) = aa
              ·rw [if_pos bG] at H
               have bH : (((rd_T30 (rd_L2 ad ab) af).f1) == aa) = true := beq_iff_eq.mpr bG
               have bI : (((rd_T30 (rd_L2 ad ab) af).f1) != aa) = false := bne_eq_false_iff_eq.mpr bG
               clear bG; have H' := zK H; clear H; have hnb29 := am.out; have hnc29 := ai.out; have hnb30 := ag.out; have hnc30 := aq.out
               have be : aG.cell? ⟨ak, 0, none⟩ = some (.int .i64 ac) := (blk_cell ae.out 0).trans rfl
               have bf : aG.cell? ⟨ak, 1, none⟩ = some (.int .i64 aa) := (blk_cell ae.out 1).trans rfl
               have bg := blk_frozen ae.out 0; have bh := blk_frozen ae.out 1; have hnb32 := aw.out; have hnc32 := ah.out
               have bi : aG.cell? ⟨ao, 0, none⟩ = some (.int .i64 0) := (blk_cell al.out 0).trans rfl
               have bj : aG.cell? ⟨ao, 1, none⟩ = some (.int .i64 0) := (blk_cell al.out 1).trans rfl
               have bk := blk_frozen al.out 0; have bl := blk_frozen al.out 1
               go_wp2
               go_meet
               case rel => exact ⟨_, (decide (((rd_T30 (rd_L2 ad ab) af).f0) < ac)), (by first | rfl | (simp; done) | (simp [*]; done)), H', ⟨by have := aT.out; have := aU.out; first | omega | exact Nat.le_refl _⟩, ⟨by (with_reducible repeat (first | refine zN ?_ _ | refine zD ?_ | refine zA ?_ _)); refine blk_far ?_ ah.out _; (with_reducible repeat (first | refine zN ?_ _ | refine zD ?_ | refine zA ?_ _)); refine blk_far ?_ ah.out _; (with_reducible repeat (first | refine zN ?_ _ | refine zD ?_ | refine zA ?_ _)); exact aj.out⟩, ⟨by (with_reducible repeat (first | refine zN ?_ _ | refine zD ?_ | refine zA ?_ _)); refine blk_far ?_ ag.out _; (with_reducible repeat (first | refine zN ?_ _ | refine zD ?_ | refine zA ?_ _)); refine blk_far ?_ ag.out _; (with_reducible repeat (first | refine zN ?_ _ | refine zD ?_ | refine zA ?_ _)); exact ae.out⟩, ⟨by (with_reducible repeat (first | refine zN ?_ _ | refine zD ?_ | refine zA ?_ _)); refine blk_put (cs := #[.int .i64 ((rd_T30 (rd_L2 ad ab) af).f0), .int .i64 0]) ?_ 1 _ rfl; (with_reducible repeat (first | refine zN ?_ _ | refine zD ?_ | refine zA ?_ _)); refine blk_put (cs := #[.int .i64 0, .int .i64 0]) ?_ 0 _ rfl; (with_reducible repeat (first | refine zN ?_ _ | refine zD ?_ | refine zA ?_ _)); exact al.out⟩, ⟨zb HB⟩⟩
              ·rw [if_neg bG] at H
               have bH : (((rd_T30 (rd_L2 ad ab) af).f1) == aa) = false := beq_eq_false_iff_ne.mpr bG
               have bI : (((rd_T30 (rd_L2 ad ab) af).f1) != aa) = true := bne_iff_ne.mpr bG
               have H' := zK H; clear H; have hnb34 := am.out; have hnc34 := ai.out; have hnb35 := ag.out; have hnc35 := aq.out
               have bm : aG.cell? ⟨ak, 0, none⟩ = some (.int .i64 ac) := (blk_cell ae.out 0).trans rfl
               have bn : aG.cell? ⟨ak, 1, none⟩ = some (.int .i64 aa) := (blk_cell ae.out 1).trans rfl
               have bo := blk_frozen ae.out 0; have bp := blk_frozen ae.out 1; have hnb37 := aw.out; have hnc37 := ah.out
               have bq : aG.cell? ⟨ao, 0, none⟩ = some (.int .i64 0) := (blk_cell al.out 0).trans rfl
               have br : aG.cell? ⟨ao, 1, none⟩ = some (.int .i64 0) := (blk_cell al.out 1).trans rfl
               have bs := blk_frozen al.out 0; have bt := blk_frozen al.out 1
               go_wp2
               go_meet
               case rel => exact ⟨_, (false), (by first | rfl | (simp; done) | (simp [*]; done)), H', ⟨by have := aT.out; have := aU.out; first | omega | exact Nat.le_refl _⟩, ⟨by (with_reducible repeat (first | refine zN ?_ _ | refine zD ?_ | refine zA ?_ _)); refine blk_far ?_ ah.out _; (with_reducible repeat (first | refine zN ?_ _ | refine zD ?_ | refine zA ?_ _)); refine blk_far ?_ ah.out _; (with_reducible repeat (first | refine zN ?_ _ | refine zD ?_ | refine zA ?_ _)); exact aj.out⟩, ⟨by (with_reducible repeat (first | refine zN ?_ _ | refine zD ?_ | refine zA ?_ _)); refine blk_far ?_ ag.out _; (with_reducible repeat (first | refine zN ?_ _ | refine zD ?_ | refine zA ?_ _)); refine blk_far ?_ ag.out _; (with_reducible repeat (first | refine zN ?_ _ | refine zD ?_ | refine zA ?_ _)); exact ae.out⟩, ⟨by (with_reducible repeat (first | refine zN ?_ _ | refine zD ?_ | refine zA ?_ _)); refine blk_put (cs := #[.int .i64 ((rd_T30 (rd_L2 ad ab) af).f0), .int .i64 0]) ?_ 1 _ rfl; (with_reducible repeat (first | refine zN ?_ _ | refine zD ?_ | refine zA ?_ _)); refine blk_put (cs := #[.int .i64 0, .int .i64 0]) ?_ 0 _ rfl; (with_reducible repeat (first | refine zN ?_ _ | refine zD ?_ | refine zA ?_ _)); exact al.out⟩, ⟨zb HB⟩⟩
           case rest =>
            clear bK
            try clear c1
            try clear p1
            try clear q1
            try clear hx1
            try clear c2
            try clear p2
            try clear c3
            try clear c4
            try clear c6
            try clear c7
            try clear bJ
            try clear c8
            try clear bQ
            try clear c9
            try clear bR
            try clear c10
            try clear bC
            try clear bS
            try clear bT
            try clear bU
            try clear bV
            try clear c14
            try clear p14
            try clear q14
            try clear hx14
            try clear c15
            try clear c16
            try clear bD
            try clear aC
            try clear bE
            try clear c19
            try clear c20
            try clear bL
            try clear bF
            try clear c23
            try clear c24
            try clear c26
            try clear bG
            try clear bH
            try clear bI
            try clear c29
            try clear c30
            try clear c32
            try clear c34
            try clear c35
            try clear c37
            try clear aY
            try clear aZ
            try clear a2
            try clear a3
            try clear a6
            try clear a7
            try clear ba
            try clear bb
            try clear be
            try clear bf
            try clear bi
            try clear bj
            try clear bm
            try clear bn
            try clear bq
            try clear br
            try clear aH
            try clear aI
            try clear aL
            try clear aM
            try clear a0
            try clear a1
            try clear a4
            try clear a5
            try clear a8
            try clear a9
            try clear bc
            try clear bd
            try clear bg
            try clear bh
            try clear bk
            try clear bl
            try clear bo
            try clear bp
            try clear bs
            try clear bt
            try clear aJ
            try clear aK
            try clear aN
            try clear aO
            try clear ax
            try clear az
            try clear aA
            try clear p1
            try clear aR
            try clear aW
            try clear p2
            try clear q1
            try clear aS
            try clear aX
            obtain ⟨kq, aD, rfl, HA, bv, aj, ae, al, HB⟩ := hcut
            cases kq with
            | zero => exact absurd HA.out (by simp [impl_nextOut.j2])
            | succ kj12 =>
             have H := HA.out; clear HA
             simp only [impl_nextOut.j2] at H
             by_cases c39 : aD = true
             ·subst c39
              have H1 : (impl_nextOut.l1 kj12 ad (ad.length : Int) ab (rd_L2 ad ab) ((rd_L2 ad ab).length : Int) (wrap64 (af + 1)) ((rd_T30 (rd_L2 ad ab) af).f0) ((rd_T30 (rd_L2 ad ab) af).f1)) = some r := by rw [if_pos rfl] at H; exact H
              clear H; have H := H1; clear H1; have H' := zK H; clear H; have hnb40 := aw.out; have hnc40 := ah.out; have hnb41 := aq.out; have hnc41 := ag.out
              have hcz42_0 : wc.cell? ⟨ao, 0, none⟩ = some (.int .i64 ((rd_T30 (rd_L2 ad ab) af).f0)) := (blk_cell al.out 0).trans rfl
              have hcz42_1 : wc.cell? ⟨ao, 1, none⟩ = some (.int .i64 ((rd_T30 (rd_L2 ad ab) af).f1)) := (blk_cell al.out 1).trans rfl
              have hfz42_0 := blk_frozen al.out 0; have hfz42_1 := blk_frozen al.out 1; have hnb43 := am.out; have hnc43 := ai.out
              have hcz44_0 : wc.cell? ⟨ak, 0, none⟩ = some (.int .i64 ac) := (blk_cell ae.out 0).trans rfl
              have hcz44_1 : wc.cell? ⟨ak, 1, none⟩ = some (.int .i64 aa) := (blk_cell ae.out 1).trans rfl
              have hfz44_0 := blk_frozen ae.out 0; have hfz44_1 := blk_frozen ae.out 1
              go_wp2
              go_roundg kj12
              case measure => have := aT.out; have := aU.out; have := bv.out; omega
              case rel => exact ⟨(wrap64 (af + 1)), (((rd_T30 (rd_L2 ad ab) af).f0)), (((rd_T30 (rd_L2 ad ab) af).f1)), (by first | rfl | (simp; done) | (simp [*]; done)), H', ⟨by have := aT.out; have := aU.out; have := bv.out; omega⟩, ⟨by (with_reducible repeat (first | refine zN ?_ _ | refine zD ?_ | refine zA ?_ _)); refine blk_far ?_ ai.out _; (with_reducible repeat (first | refine zN ?_ _ | refine zD ?_ | refine zA ?_ _)); refine blk_far ?_ ai.out _; (with_reducible repeat (first | refine zN ?_ _ | refine zD ?_ | refine zA ?_ _)); exact aj.out⟩, ⟨by (with_reducible repeat (first | refine zN ?_ _ | refine zD ?_ | refine zA ?_ _)); refine blk_put (cs := #[.int .i64 ((rd_T30 (rd_L2 ad ab) af).f0), .int .i64 aa]) ?_ 1 _ rfl; (with_reducible repeat (first | refine zN ?_ _ | refine zD ?_ | refine zA ?_ _)); refine blk_put (cs := #[.int .i64 ac, .int .i64 aa]) ?_ 0 _ rfl; (with_reducible repeat (first | refine zN ?_ _ | refine zD ?_ | refine zA ?_ _)); exact ae.out⟩, ⟨zb HB⟩⟩
             ·replace c39 := Bool.eq_false_iff.mpr c39
              subst c39
              have H1 : (impl_nextOut.l1 kj12 ad (ad.length : Int) ab (rd_L2 ad ab) ((rd_L2 ad ab).length : Int) (wrap64 (af + 1)) ac aa) = some r := by rw [if_neg (show ¬ (false = true) by decide)] at H; exact H
              clear H; have H := H1; clear H1; have H' := zK H; clear H
              go_wp2
              go_roundg kj12
              case measure => have := aT.out; have := aU.out; have := bv.out; omega
              case rel => exact ⟨(wrap64 (af + 1)), (ac), (aa), (by first | rfl | (simp; done) | (simp [*]; done)), H', ⟨by have := aT.out; have := aU.out; have := bv.out; omega⟩, ⟨zk aj⟩, ⟨zk ae⟩, ⟨zb HB⟩⟩
          ·rw [if_neg bU] at H
           exact absurd H (by simp)
         ·rw [if_neg bS] at H
          exact absurd H (by simp)
        ·rw [if_neg c10] at H
         have bC : decide (af < ((rd_L2 ad ab).length : Int)) = false := decide_eq_false c10
         clear c10; have H' := zK H; clear H
         go_wp2
         go_roundg k2
         case measure => have := aT.out; have := aU.out; omega
         case rel => exact ⟨(wrap64 (ab + 1)), (ac), (aa), (by first | rfl | (simp; done) | (simp [*]; done)), H', ⟨by have := aT.out; have := aU.out; omega⟩, ⟨zk aj⟩, ⟨zk ae⟩, ⟨zb HB⟩⟩
     ·rw [if_neg c9] at H
      exact absurd H (by simp)
    ·rw [if_neg c8] at H
     exact absurd H (by simp)
   ·rw [if_neg c7] at H
    have bJ : decide (ab < (ad.length : Int)) = false := decide_eq_false c7
    clear c7; obtain rfl := Option.some.inj H; have hnb45 := am.out; have hnc45 := ai.out
    have hcz46_0 : wr.cell? ⟨ak, 0, none⟩ = some (.int .i64 au) := (blk_cell ae.out 0).trans rfl
    have hcz46_1 : wr.cell? ⟨ak, 1, none⟩ = some (.int .i64 av) := (blk_cell ae.out 1).trans rfl
    have hfz46_0 := blk_frozen ae.out 0; have hfz46_1 := blk_frozen ae.out 1
    go_wp2
    go_ret
    exact ⟨by first | rfl | (simp [errW_none, errW_some] <;> rfl) | (simp [*, errW_none, errW_some] <;> rfl), by repeat (first | (with_reducible first | exact HB.out | apply zB | apply zC | apply zE | refine zS ?_ ap.out | refine zS ?_ ar.out) | exact HB.out)⟩
end Go.Proofs.Ytheckjlldkkceaa.Px
