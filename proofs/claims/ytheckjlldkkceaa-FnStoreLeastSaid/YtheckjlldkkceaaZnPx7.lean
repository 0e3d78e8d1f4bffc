import Derived.Test.YtheckjlldkkceaaZnPx0
namespace Go.Proofs.Ytheckjlldkkceaa.Px
open Go.RowKit Go.Proofs.YtheckjlldkkceaaW.PrintWords Go.Proofs.YtheckjlldkkceaaW.PrintLast Go.Proofs.YtheckjlldkkceaaW.PrintMore
attribute [local go_sem] max2_int min2_int max_two min_two max_three min_three max_four min_four   
set_option linter.unusedVariables false
set_option linter.unusedSimpArgs false
def impl_leastTime.l0 : Nat → Int → List (S30) → Int → Int → Option (Int)
 | 0, _, _, _, _ => none
 | k + 1, x3, x6, x7, x8 => if x8 < x7 then (if 0 ≤ x8 then (if x8 < (x6.length : Int) then (impl_leastTime.l0 k (mn x3 ((rd_T30 x6 x8).f1)) x6 x7 (wrap64 (x8 + 1))) else (none)) else (none)) else (some x3)
def impl_leastTime.f (k : Nat) (l0 : List (S30)) : Option (Int) := impl_leastTime.l0 k 100000 l0 (l0.length : Int) 0
set_option maxHeartbeats 8000000 in
set_option maxRecDepth 100000 in
theorem impl_leastTime.calls (k : Nat) (A0 : Option Addr) (c0 : Nat) (l0 : List (S30)) (r : Int) (w : World) (hr0 : Kd.C k30 w A0 l0.length l0) (hc0 : l0.length ≤ c0) (h : impl_leastTime.f k l0 = some r) :
  Calls Try.prog 87 #[.slice A0 l0.length c0] w fun e w' => e = .returned (.int .i64 r) ∧ Below w.heap.size w w' := by
 have hu30 := Try.underlying30; have HR0 := zK hr0; have HC0 := zK hc0; clear hr0 hc0
 have HB := zK (Below.refl w.heap.size w)
 have H : (impl_leastTime.l0 k 100000 l0 (l0.length : Int) 0) = some r := h
 clear h; have H' := zK H; clear H
 go_enter Try.func87, Try.ntmps87
 go_wp2
 go_loopg [3, 8] k (fun kq v3 v8 w' => ∃ (af : Int) (aa : Int), v3 = .int .i64 af ∧ v8 = .int .i64 aa ∧ Aside0 (impl_leastTime.l0 kq af l0 (l0.length : Int) aa = some r) ∧ Aside0 (kq ≤ k) ∧ Aside0 (Below w.heap.size w w'))
 case atStart => exact ⟨(100000), (0), (by first | rfl | (simp; done) | (simp [*]; done)), (by first | rfl | (simp; done) | (simp [*]; done)), H', ⟨Nat.le_refl _⟩, ⟨zb HB⟩⟩
 case round =>
  clear H'
  obtain ⟨af, aa, rfl, rfl, HA, HK1, HB⟩ := hrel
  cases gk with
  | zero => exact absurd HA.out (by simp [impl_leastTime.l0])
  | succ k1 =>
   have H := HA.out; clear HA
   simp only [impl_leastTime.l0] at H
   by_cases c2 : aa < (l0.length : Int)
   ·rw [if_pos c2] at H
    have c2b0 : decide (aa < (l0.length : Int)) = true := decide_eq_true c2
    clear c2
    by_cases c3 : 0 ≤ aa
    ·rw [if_pos c3] at H
     have c3b0 : decide (0 ≤ aa) = true := decide_eq_true c3
     clear c3
     by_cases c4 : aa < (l0.length : Int)
     ·rw [if_pos c4] at H
      have c4b0 : decide (aa < (l0.length : Int)) = true := decide_eq_true c4
      clear c4
      obtain ⟨ji5, ag⟩ : ∃ j_ : Int, (mn af ((rd_T30 l0 aa).f1)) = j_ := ⟨_, rfl⟩
      replace H : (impl_leastTime.l0 k1 ji5 l0 (l0.length : Int) (wrap64 (aa + 1))) = some r := by first | (rw [ag] at H; exact H) | (simp only [ag] at H ⊢; exact H)
      have hji5_ : (if ((rd_T30 l0 aa).f1) < af then ((rd_T30 l0 aa).f1) else af) = ji5 := ag
      have H' := zK H; clear H
      have ah : 0 ≤ (aa : Int) := zd
      have ai : aa < (l0.length : Int) := zd
      obtain ⟨ad378, e378, ab, ac⟩ := at_T30 HR0.out aa ah ai
      cases e378
      replace ab := (HB.out.cell (World.block_lt_of_cell? w _ ab)).trans ab
      replace ac := (HB.out.cell (World.block_lt_of_cell? w _ ac)).trans ac
      replace ah := eq_true ah; replace ai := eq_true ai
      go_wp2_with (first | ((with_reducible refine gate_dst (N := 5) rfl ?_); refine box_event ?hg (N := 5) ?hd (cs := #[.int .i64 0, .int .i64 0]) (t := 30) ?hr ?_; (case hd => rfl); (case hg => rfl); (case hr => first | (go_simp; done) | (go_simp; rfl)); intro ad hg w6 hbox hb; have n0_ := zK (below_step (zb HB) hb); have n1_ := zK (hbox); have n2_ := zK ((by rw [hg]; exact (below_size (zb HB)) : w.heap.size ≤ ad)); have n3_ := zK ((by rw [hg]; exact (below_size (zb HB)) : w.heap.size ≤ ad)); clear HB; have HB := n0_; have ae := n1_; have GW379 := n2_; have aj := n3_; clear n0_ n1_ n2_ n3_; clear hb hbox hg; have hcz7_0 : w6.cell? ⟨ad, 0, none⟩ = some (.int .i64 0) := (blk_cell ae.out 0).trans rfl; have hcz7_1 : w6.cell? ⟨ad, 1, none⟩ = some (.int .i64 0) := (blk_cell ae.out 1).trans rfl; have hfz7_0 := blk_frozen ae.out 0; have hfz7_1 := blk_frozen ae.out 1))
      go_roundg k1
      case measure => have := HK1.out; omega
      case rel => exact ⟨(ji5), (wrap64 (aa + 1)), (by first | rfl | (simp; done) | (simp only [← ag] <;> (first | rfl | simp)) | (simp [*]; done)), (by first | rfl | (simp; done) | (simp [*]; done)), H', ⟨by have := HK1.out; omega⟩, ⟨zb HB⟩⟩
     ·rw [if_neg c4] at H
      exact absurd H (by simp)
    ·rw [if_neg c3] at H
     exact absurd H (by simp)
   ·rw [if_neg c2] at H
    have c2b0 : decide (aa < (l0.length : Int)) = false := decide_eq_false c2
    clear c2; obtain rfl := Option.some.inj H
    go_wp2
    go_ret
    exact ⟨by first | rfl | (simp [errW_none, errW_some] <;> rfl) | (simp [*, errW_none, errW_some] <;> rfl), by repeat (first | (with_reducible first | exact HB.out | apply zB | apply zC | apply zE) | exact HB.out)⟩
mutual
def impl_laneFor.l0 : Nat → Int → Int → Int → Int → Int → List (List (S30)) → Int → Int → Int → List (List (S30)) → Option (Int)
 | 0, _, _, _, _, _, _, _, _, _, _ => none
 | k + 1, x1, x2, x7, x8, x9, x14, x15, x16, x381000, x381001 => if x16 < x15 then (if 0 ≤ x16 then (if x16 < (x14.length : Int) then ((impl_leastTime.f k (rd_L2 x14 x16)).bind fun t382 => (if ((rd_L2 x14 x16).length : Int) = x381000 then (impl_laneFor.j1 k x1 x2 x7 x8 x9 x16 (rd_L2 x14 x16) t382 x14 x15 x16 true x381000 x381001) else (impl_laneFor.j1 k x1 x2 x7 x8 x9 x16 (rd_L2 x14 x16) t382 x14 x15 x16 (x16 == x2) x381000 x381001))) else (none)) else (none)) else (if x7 ≥ 0 then (some x7) else (if x8 ≥ 0 then (some x8) else (some x9)))
def impl_laneFor.j1 : Nat → Int → Int → Int → Int → Int → Int → List (S30) → Int → List (List (S30)) → Int → Int → Bool → Int → List (List (S30)) → Option (Int)
 | 0, _, _, _, _, _, _, _, _, _, _, _, _, _, _ => none
 | k + 1, x1, x2, x7, x8, x9, x10, x11, x12, x14, x15, x16, x23, x381000, x381001 => if x23 = true then (impl_laneFor.l0 k x1 x2 x7 x8 x9 x14 x15 (wrap64 (x16 + 1)) x381000 x381001) else (if (x11.length : Int) = 0 then (if x8 < 0 then (impl_laneFor.l0 k x1 x2 x7 x10 x9 x14 x15 (wrap64 (x16 + 1)) x381000 x381001) else (impl_laneFor.l0 k x1 x2 x7 x8 x9 x14 x15 (wrap64 (x16 + 1)) x381000 x381001)) else (if x12 ≥ x1 then (if x7 < 0 then (impl_laneFor.l0 k x1 x2 x10 x8 x9 x14 x15 (wrap64 (x16 + 1)) x381000 x381001) else (if 0 ≤ x7 then (if x7 < (x381001.length : Int) then ((impl_leastTime.f k (rd_L2 x381001 x7)).bind fun t384 => (if x12 < t384 then (impl_laneFor.l0 k x1 x2 x10 x8 x9 x14 x15 (wrap64 (x16 + 1)) x381000 x381001) else (impl_laneFor.l0 k x1 x2 x7 x8 x9 x14 x15 (wrap64 (x16 + 1)) x381000 x381001))) else (none)) else (none))) else (if x9 < 0 then (impl_laneFor.l0 k x1 x2 x7 x8 x10 x14 x15 (wrap64 (x16 + 1)) x381000 x381001) else (if 0 ≤ x9 then (if x9 < (x381001.length : Int) then ((impl_leastTime.f k (rd_L2 x381001 x9)).bind fun t386 => (if x12 > t386 then (impl_laneFor.l0 k x1 x2 x7 x8 x10 x14 x15 (wrap64 (x16 + 1)) x381000 x381001) else (impl_laneFor.l0 k x1 x2 x7 x8 x9 x14 x15 (wrap64 (x16 + 1)) x381000 x381001))) else (none)) else (none)))))
end
def impl_laneFor.f (k : Nat) (a0_0 : Int) (l0_1 : List (List (S30))) (a1 : Int) (a2 : Int) : Option (Int) := impl_laneFor.l0 k a1 a2 (-1) (-1) (-1) l0_1 (l0_1.length : Int) 0 a0_0 l0_1
set_option maxHeartbeats 8000000 in
set_option maxRecDepth 100000 in
theorem impl_laneFor.calls (k : Nat) (a0_0 : Int) (aN : Option Addr) (am : Nat) (aa : List (List (S30))) (a1 : Int) (a2 : Int) (r : Int) (w : World) (a8 : Kd.C (Kd.slice 30 k30) w aN aa.length aa) (hc0_1 : aa.length ≤ am) (h : impl_laneFor.f k a0_0 aa a1 a2 = some r) :
  Calls Try.prog 62 #[.agg #[.int .i64 a0_0, .slice aN aa.length am], .int .i64 a1, .int .i64 a2] w fun e w' => e = .returned (.int .i64 r) ∧ Below w.heap.size w w' := by
 have hu24 := Try.underlying24; have aB := zK a8; have HC0_1 := zK hc0_1; clear a8 hc0_1
 have HB := zK (Below.refl w.heap.size w)
 have H : (impl_laneFor.l0 k a1 a2 (-1) (-1) (-1) aa (aa.length : Int) 0 a0_0 aa) = some r := h
 clear h; have H' := zK H; clear H
 go_enter Try.func62, Try.ntmps62
 go_wp2_with (first | ((with_reducible refine gate_dst (N := 3) rfl ?_); refine box_event ?hg (N := 3) ?hd (cs := #[.int .i64 a0_0, .slice aN aa.length am]) (t := 24) ?hr ?_; (case hd => rfl); (case hg => rfl); (case hr => first | (go_simp; done) | (go_simp; rfl)); intro af hg w4 hbox hb; have aC := zK (below_step (zb HB) hb); have aD := zK (hbox); have n2_ := zK ((by rw [hg]; exact (below_size (zb HB)) : w.heap.size ≤ af)); have n3_ := zK ((by rw [hg]; exact (below_size (zb HB)) : w.heap.size ≤ af)); clear HB; have HB := aC; have ac := aD; have GW380 := n2_; have ah := n3_; clear aC aD n2_ n3_; clear hb hbox hg; have aO : w4.cell? ⟨af, 0, none⟩ = some (.int .i64 a0_0) := (blk_cell ac.out 0).trans rfl; have aP : w4.cell? ⟨af, 1, none⟩ = some (.slice aN aa.length am) := (blk_cell ac.out 1).trans rfl; have aQ := blk_frozen ac.out 0; have aR := blk_frozen ac.out 1))
 go_loopg [7, 8, 9, 16] k (fun kq v7 v8 v9 v16 w' => ∃ (ad : Int) (ag : Int) (ae : Int) (ab : Int), v7 = .int .i64 ad ∧ v8 = .int .i64 ag ∧ v9 = .int .i64 ae ∧ v16 = .int .i64 ab ∧ Aside0 (impl_laneFor.l0 kq a1 a2 ad ag ae aa (aa.length : Int) ab a0_0 aa = some r) ∧ Aside0 (kq ≤ k) ∧ Aside0 (w'.heap[af]? = some (.cells #[.int .i64 a0_0, (.slice aN aa.length am)] 24 (0, 0))) ∧ Aside0 (Below w.heap.size w w'))
 case atStart => exact ⟨((-1)), ((-1)), ((-1)), (0), (by first | rfl | (simp; done) | (simp [*]; done)), (by first | rfl | (simp; done) | (simp [*]; done)), (by first | rfl | (simp; done) | (simp [*]; done)), (by first | rfl | (simp; done) | (simp [*]; done)), H', ⟨Nat.le_refl _⟩, ⟨zk ac⟩, ⟨zb HB⟩⟩
 case round =>
  clear H'
  try clear p2
  try clear aO
  try clear aP
  try clear aQ
  try clear aR
  obtain ⟨ad, ag, ae, ab, rfl, rfl, rfl, rfl, HA, au, ac, HB⟩ := hrel
  cases gk with
  | zero => exact absurd HA.out (by simp [impl_laneFor.l0])
  | succ k1 =>
   have H := HA.out; clear HA
   simp only [impl_laneFor.l0] at H
   by_cases c6 : ab < (aa.length : Int)
   ·rw [if_pos c6] at H
    have bt : decide (ab < (aa.length : Int)) = true := decide_eq_true c6
    clear c6
    by_cases c7 : 0 ≤ ab
    ·rw [if_pos c7] at H
     have c7b0 : decide (0 ≤ ab) = true := decide_eq_true c7
     clear c7
     by_cases c8 : ab < (aa.length : Int)
     ·rw [if_pos c8] at H
      have c8b0 : decide (ab < (aa.length : Int)) = true := decide_eq_true c8
      clear c8; replace H := Option.bind_eq_some_iff.mp H
      obtain ⟨al, A90, H⟩ := H
      replace H : (if ((rd_L2 aa ab).length : Int) = a0_0 then (impl_laneFor.j1 k1 a1 a2 ad ag ae ab (rd_L2 aa ab) al aa (aa.length : Int) ab true a0_0 aa) else (impl_laneFor.j1 k1 a1 a2 ad ag ae ab (rd_L2 aa ab) al aa (aa.length : Int) ab (ab == a2) a0_0 aa)) = some r := H
      have A9 := zK A90; clear A90; have bc := zK H; clear H
      have aU : 0 ≤ (ab : Int) := zd
      have aV : ab < (aa.length : Int) := zd
      obtain ⟨ai, bd, be, e381, ar, aK, aL⟩ := at_L2 aB.out ab aU aV
      cases e381
      replace ar := (HB.out.cell (World.block_lt_of_cell? w _ ar)).trans ar
      have aW := zK aL; have aX := zK aK; clear aL aK; replace aU := eq_true aU; replace aV := eq_true aV
      go_upto_region 6 with (first | ((with_reducible refine gate_callee (f := 87) rfl ?_); refine goesL_ (some 22) rfl rfl Try.func87 (by kernel_rfl) rfl #[.slice bd (rd_L2 aa ab).length be] rfl (by (try simp only [List.map_toArray, List.map_cons, List.map_nil]); first | done | rfl | (simp only [List.length_drop, List.length_take]; rfl)) ?_; (with_reducible refine (impl_leastTime.calls k1 _ _ (rd_L2 aa ab) al _ ?side1 ?side2 A9.out).mono ?_); (case side1 => repeat (first | exact (Kd.C_below aW.out HB.out) | (with_reducible refine Kd.C_alloc ?_ _) | (with_reducible refine Kd.C_drewN ?_ _) | (with_reducible refine Kd.C_drew ?_))); (case side2 => exact aX.out); rintro e w11 ⟨rfl, hb⟩; refine ⟨_, rfl, ?_⟩; have aC := zK (blk_below (g := af) (o := .cells #[.int .i64 a0_0, .slice (some ai) aa.length am] 24 (0, 0)) (zk ac) hb); have aD := zK (below_step (zb HB) hb); clear ac; clear HB; have ac := aC; have HB := aD; clear aC aD; (try clear hb)))
      (try simp only [Act.put, zp, zq, zr])
      go_cut [23] (fun v23 wc => ∃ (kq : Nat) (aM : Bool), v23 = .bool aM ∧ Aside0 (impl_laneFor.j1 kq a1 a2 ad ag ae ab (rd_L2 aa ab) al aa (aa.length : Int) ab aM a0_0 aa = some r) ∧ Aside0 (kq ≤ k1) ∧ Aside0 (wc.heap[af]? = some (.cells #[.int .i64 a0_0, (.slice (some ai) aa.length am)] 24 (0, 0))) ∧ Aside0 (Below w.heap.size w wc))
      case first =>
       have H := bc.out; clear bc
       by_cases a9 : ((rd_L2 aa ab).length : Int) = a0_0
       ·rw [if_pos a9] at H
        have av : (((rd_L2 aa ab).length : Int) == a0_0) = true := beq_iff_eq.mpr a9
        have ba : (((rd_L2 aa ab).length : Int) != a0_0) = false := bne_eq_false_iff_eq.mpr a9
        clear a9
        (first | rw [av] | (simp only [i64_w, i32_w]; rw [av]) | skip)
        have H' := zK H; clear H
        have aY : w11.cell? ⟨af, 0, none⟩ = some (.int .i64 a0_0) := (blk_cell ac.out 0).trans rfl
        have aZ : w11.cell? ⟨af, 1, none⟩ = some (.slice (some ai) aa.length am) := (blk_cell ac.out 1).trans rfl
        have a0 := blk_frozen ac.out 0; have a3 := blk_frozen ac.out 1
        go_wp2
        go_meet
        case rel => exact ⟨_, (true), (by first | rfl | (simp; done) | (simp [*]; done)), H', ⟨by have := au.out; first | omega | exact Nat.le_refl _⟩, ⟨zk ac⟩, ⟨zb HB⟩⟩
       ·rw [if_neg a9] at H
        have av : (((rd_L2 aa ab).length : Int) == a0_0) = false := beq_eq_false_iff_ne.mpr a9
        have ba : (((rd_L2 aa ab).length : Int) != a0_0) = true := bne_iff_ne.mpr a9
        (first | rw [av] | (simp only [i64_w, i32_w]; rw [av]) | skip)
        have H' := zK H; clear H
        have a4 : w11.cell? ⟨af, 0, none⟩ = some (.int .i64 a0_0) := (blk_cell ac.out 0).trans rfl
        have a5 : w11.cell? ⟨af, 1, none⟩ = some (.slice (some ai) aa.length am) := (blk_cell ac.out 1).trans rfl
        have a6 := blk_frozen ac.out 0; have a7 := blk_frozen ac.out 1
        go_wp2
        go_meet
        case rel => exact ⟨_, ((ab == a2)), (by first | rfl | (simp; done) | (simp [*]; done)), H', ⟨by have := au.out; first | omega | exact Nat.le_refl _⟩, ⟨zk ac⟩, ⟨zb HB⟩⟩
      case rest =>
       clear bc
       try clear c1
       try clear p2
       try clear c3
       try clear p3
       try clear q3
       try clear hx3
       try clear c6
       try clear bt
       try clear c7
       try clear c7b0
       try clear c8
       try clear c8b0
       try clear a9
       try clear av
       try clear ba
       try clear aY
       try clear aZ
       try clear a4
       try clear a5
       try clear aO
       try clear aP
       try clear a0
       try clear a3
       try clear a6
       try clear a7
       try clear aQ
       try clear aR
       try clear ar
       try clear p2
       try clear aU
       try clear aV
       obtain ⟨kq, aM, rfl, HA, aA, ac, HB⟩ := hcut
       cases kq with
       | zero => exact absurd HA.out (by simp [impl_laneFor.j1])
       | succ kj9 =>
        have H := HA.out; clear HA
        simp only [impl_laneFor.j1] at H
        by_cases c15 : aM = true
        ·subst c15
         have H1 : (impl_laneFor.l0 kj9 a1 a2 ad ag ae aa (aa.length : Int) (wrap64 (ab + 1)) a0_0 aa) = some r := by rw [if_pos rfl] at H; exact H
         clear H; have H := H1; clear H1; have H' := zK H; clear H
         go_wp2
         go_roundg kj9
         case measure => have := au.out; have := aA.out; omega
         case rel => exact ⟨(ad), (ag), (ae), (wrap64 (ab + 1)), (by first | rfl | (simp; done) | (simp [*]; done)), (by first | rfl | (simp; done) | (simp [*]; done)), (by first | rfl | (simp; done) | (simp [*]; done)), (by first | rfl | (simp; done) | (simp [*]; done)), H', ⟨by have := au.out; have := aA.out; omega⟩, ⟨zk ac⟩, ⟨zb HB⟩⟩
        ·replace c15 := Bool.eq_false_iff.mpr c15
         subst c15
         have H1 : (if ((rd_L2 aa ab).length : Int) = 0 then (if ag < 0 then (impl_laneFor.l0 kj9 a1 a2 ad ab ae aa (aa.length : Int) (wrap64 (ab + 1)) a0_0 aa) else (impl_laneFor.l0 kj9 a1 a2 ad ag ae aa (aa.length : Int) (wrap64 (ab + 1)) a0_0 aa)) else (if al ≥ a1 then (if ad < 0 then (impl_laneFor.l0 kj9 a1 a2 ab ag ae aa (aa.length : Int) (wrap64 (ab + 1)) a0_0 aa) else (if 0 ≤ ad then (if ad < (aa.length : Int) then ((impl_leastTime.f kj9 (rd_L2 aa ad)).bind fun aE => (if al < aE then (impl_laneFor.l0 kj9 a1 a2 ab ag ae aa (aa.length : Int) (wrap64 (ab + 1)) a0_0 aa) else (impl_laneFor.l0 kj9 a1 a2 ad ag ae aa (aa.length : Int) (wrap64 (ab + 1)) a0_0 aa))) else (none)) else (none))) else (if ae < 0 then (impl_laneFor.l0 kj9 a1 a2 ad ag ab aa (aa.length : Int) (wrap64 (ab + 1)) a0_0 aa) else (if 0 ≤ ae then (if ae < (aa.length : Int) then ((impl_leastTime.f kj9 (rd_L2 aa ae)).bind fun aF => (if al > aF then (impl_laneFor.l0 kj9 a1 a2 ad ag ab aa (aa.length : Int) (wrap64 (ab + 1)) a0_0 aa) else (impl_laneFor.l0 kj9 a1 a2 ad ag ae aa (aa.length : Int) (wrap64 (ab + 1)) a0_0 aa))) else (none)) else (none))))) = some r := by rw [if_neg (show ¬ (false = true) by decide)] at H; exact H
         clear H; have H := H1; clear H1
         by_cases bb : ((rd_L2 aa ab).length : Int) = 0
         ·rw [if_pos bb] at H
          have bv : (((rd_L2 aa ab).length : Int) == 0) = true := beq_iff_eq.mpr bb
          have bw : (((rd_L2 aa ab).length : Int) != 0) = false := bne_eq_false_iff_eq.mpr bb
          clear bb
          by_cases bl : ag < 0
          ·rw [if_pos bl] at H
           have bx : decide (ag < 0) = true := decide_eq_true bl
           clear bl; have H' := zK H; clear H
           go_wp2
           go_roundg kj9
           case measure => have := au.out; have := aA.out; omega
           case rel => exact ⟨(ad), (ab), (ae), (wrap64 (ab + 1)), (by first | rfl | (simp; done) | (simp [*]; done)), (by first | rfl | (simp; done) | (simp [*]; done)), (by first | rfl | (simp; done) | (simp [*]; done)), (by first | rfl | (simp; done) | (simp [*]; done)), H', ⟨by have := au.out; have := aA.out; omega⟩, ⟨zk ac⟩, ⟨zb HB⟩⟩
          ·rw [if_neg bl] at H
           have bx : decide (ag < 0) = false := decide_eq_false bl
           clear bl; have H' := zK H; clear H
           go_wp2
           go_roundg kj9
           case measure => have := au.out; have := aA.out; omega
           case rel => exact ⟨(ad), (ag), (ae), (wrap64 (ab + 1)), (by first | rfl | (simp; done) | (simp [*]; done)), (by first | rfl | (simp; done) | (simp [*]; done)), (by first | rfl | (simp; done) | (simp [*]; done)), (by first | rfl | (simp; done) | (simp [*]; done)), H', ⟨by have := au.out; have := aA.out; omega⟩, ⟨zk ac⟩, ⟨zb HB⟩⟩
         ·rw [if_neg bb] at H
          have bv : (((rd_L2 aa ab).length : Int) == 0) = false := beq_eq_false_iff_ne.mpr bb
          have bw : (((rd_L2 aa ab).length : Int) != 0) = true := bne_iff_ne.mpr bb
          have c16b2 : ¬ ((rd_L2 aa ab) = []) := fun h_ => bb (by rw [h_]; rfl)
          by_cases bm : al ≥ a1
          ·rw [if_pos bm] at H
           have bz : decide (a1 ≤ al) = true := decide_eq_true bm
           clear bm
           by_cases bn : ad < 0
           ·rw [if_pos bn] at H
            have bA : decide (ad < 0) = true := decide_eq_true bn
            clear bn; have H' := zK H; clear H
            go_wp2
            go_roundg kj9
            case measure => have := au.out; have := aA.out; omega
            case rel => exact ⟨(ab), (ag), (ae), (wrap64 (ab + 1)), (by first | rfl | (simp; done) | (simp [*]; done)), (by first | rfl | (simp; done) | (simp [*]; done)), (by first | rfl | (simp; done) | (simp [*]; done)), (by first | rfl | (simp; done) | (simp [*]; done)), H', ⟨by have := au.out; have := aA.out; omega⟩, ⟨zk ac⟩, ⟨zb HB⟩⟩
           ·rw [if_neg bn] at H
            have bA : decide (ad < 0) = false := decide_eq_false bn
            clear bn
            by_cases c20 : 0 ≤ ad
            ·rw [if_pos c20] at H
             have c20b0 : decide (0 ≤ ad) = true := decide_eq_true c20
             clear c20
             by_cases c21 : ad < (aa.length : Int)
             ·rw [if_pos c21] at H
              have c21b0 : decide (ad < (aa.length : Int)) = true := decide_eq_true c21
              clear c21; replace H := Option.bind_eq_some_iff.mp H
              obtain ⟨aE, bB, H⟩ := H
              replace H : (if al < aE then (impl_laneFor.l0 kj9 a1 a2 ab ag ae aa (aa.length : Int) (wrap64 (ab + 1)) a0_0 aa) else (impl_laneFor.l0 kj9 a1 a2 ad ag ae aa (aa.length : Int) (wrap64 (ab + 1)) a0_0 aa)) = some r := H
              have A22 := zK bB; clear bB
              by_cases bo : al < aE
              ·rw [if_pos bo] at H
               have bC : decide (al < aE) = true := decide_eq_true bo
               clear bo; have H' := zK H; clear H
               have hcz24_0 : wc.cell? ⟨af, 0, none⟩ = some (.int .i64 a0_0) := (blk_cell ac.out 0).trans rfl
               have hcz24_1 : wc.cell? ⟨af, 1, none⟩ = some (.slice (some ai) aa.length am) := (blk_cell ac.out 1).trans rfl
               have hfz24_0 := blk_frozen ac.out 0; have hfz24_1 := blk_frozen ac.out 1
               have aG : 0 ≤ (ad : Int) := zd
               have aH : ad < (aa.length : Int) := zd
               obtain ⟨aS, bf, bg, bh, aj, an, ao⟩ := at_L2 aB.out ad aG aH
               obtain rfl : ai = aS := (by injection bh)
               replace aj := (HB.out.cell (World.block_lt_of_cell? w _ aj)).trans aj
               have aw := zK ao; have ax := zK an; clear ao an; replace aG := eq_true aG; replace aH := eq_true aH
               go_wp2_with (first | (go_at_call 87; (with_reducible refine (impl_leastTime.calls kj9 _ _ (rd_L2 aa ad) aE _ ?side1 ?side2 A22.out).mono ?_); (case side1 => repeat (first | exact (Kd.C_below aw.out HB.out) | (with_reducible refine Kd.C_alloc ?_ _) | (with_reducible refine Kd.C_drewN ?_ _) | (with_reducible refine Kd.C_drew ?_))); (case side2 => exact ax.out); rintro e w25 ⟨rfl, hb⟩; have aC := zK (blk_below (g := af) (o := .cells #[.int .i64 a0_0, .slice (some ai) aa.length am] 24 (0, 0)) (zk ac) hb); have aD := zK (below_step (zb HB) hb); clear ac; clear HB; have ac := aC; have HB := aD; clear aC aD; (try clear hb)))
               go_roundg kj9
               case measure => have := au.out; have := aA.out; omega
               case rel => exact ⟨(ab), (ag), (ae), (wrap64 (ab + 1)), (by first | rfl | (simp; done) | (simp [*]; done)), (by first | rfl | (simp; done) | (simp [*]; done)), (by first | rfl | (simp; done) | (simp [*]; done)), (by first | rfl | (simp; done) | (simp [*]; done)), H', ⟨by have := au.out; have := aA.out; omega⟩, ⟨zk ac⟩, ⟨zb HB⟩⟩
              ·rw [if_neg bo] at H
               have bC : decide (al < aE) = false := decide_eq_false bo
               clear bo; have H' := zK H; clear H
               have hcz26_0 : wc.cell? ⟨af, 0, none⟩ = some (.int .i64 a0_0) := (blk_cell ac.out 0).trans rfl
               have hcz26_1 : wc.cell? ⟨af, 1, none⟩ = some (.slice (some ai) aa.length am) := (blk_cell ac.out 1).trans rfl
               have hfz26_0 := blk_frozen ac.out 0; have hfz26_1 := blk_frozen ac.out 1
               have aG : 0 ≤ (ad : Int) := zd
               have aH : ad < (aa.length : Int) := zd
               obtain ⟨aS, bf, bg, bh, aj, an, ao⟩ := at_L2 aB.out ad aG aH
               obtain rfl : ai = aS := (by injection bh)
               replace aj := (HB.out.cell (World.block_lt_of_cell? w _ aj)).trans aj
               have aw := zK ao; have ax := zK an; clear ao an; replace aG := eq_true aG; replace aH := eq_true aH
               go_wp2_with (first | (go_at_call 87; (with_reducible refine (impl_leastTime.calls kj9 _ _ (rd_L2 aa ad) aE _ ?side1 ?side2 A22.out).mono ?_); (case side1 => repeat (first | exact (Kd.C_below aw.out HB.out) | (with_reducible refine Kd.C_alloc ?_ _) | (with_reducible refine Kd.C_drewN ?_ _) | (with_reducible refine Kd.C_drew ?_))); (case side2 => exact ax.out); rintro e w27 ⟨rfl, hb⟩; have aC := zK (blk_below (g := af) (o := .cells #[.int .i64 a0_0, .slice (some ai) aa.length am] 24 (0, 0)) (zk ac) hb); have aD := zK (below_step (zb HB) hb); clear ac; clear HB; have ac := aC; have HB := aD; clear aC aD; (try clear hb)))
               go_roundg kj9
               case measure => have := au.out; have := aA.out; omega
               case rel => exact ⟨(ad), (ag), (ae), (wrap64 (ab + 1)), (by first | rfl | (simp; done) | (simp [*]; done)), (by first | rfl | (simp; done) | (simp [*]; done)), (by first | rfl | (simp; done) | (simp [*]; done)), (by first | rfl | (simp; done) | (simp [*]; done)), H', ⟨by have := au.out; have := aA.out; omega⟩, ⟨zk ac⟩, ⟨zb HB⟩⟩
             ·rw [if_neg c21] at H
              exact absurd H (by simp)
            ·rw [if_neg c20] at H
             exact absurd H (by simp)
          ·rw [if_neg bm] at H
           have bz : decide (a1 ≤ al) = false := decide_eq_false bm
           clear bm
           by_cases bp : ae < 0
           ·rw [if_pos bp] at H
            have bD : decide (ae < 0) = true := decide_eq_true bp
            clear bp; have H' := zK H; clear H
            go_wp2
            go_roundg kj9
            case measure => have := au.out; have := aA.out; omega
            case rel => exact ⟨(ad), (ag), (ab), (wrap64 (ab + 1)), (by first | rfl | (simp; done) | (simp [*]; done)), (by first | rfl | (simp; done) | (simp [*]; done)), (by first | rfl | (simp; done) | (simp [*]; done)), (by first | rfl | (simp; done) | (simp [*]; done)), H', ⟨by have := au.out; have := aA.out; omega⟩, ⟨zk ac⟩, ⟨zb HB⟩⟩
           ·rw [if_neg bp] at H
            have bD : decide (ae < 0) = false := decide_eq_false bp
            clear bp
            by_cases c29 : 0 ≤ ae
            ·rw [if_pos c29] at H
             have c29b0 : decide (0 ≤ ae) = true := decide_eq_true c29
             clear c29
             by_cases c30 : ae < (aa.length : Int)
             ·rw [if_pos c30] at H
              have c30b0 : decide (ae < (aa.length : Int)) = true := decide_eq_true c30
              clear c30; replace H := Option.bind_eq_some_iff.mp H
              obtain ⟨aF, bE, H⟩ := H
              replace H : (if al > aF then (impl_laneFor.l0 kj9 a1 a2 ad ag ab aa (aa.length : Int) (wrap64 (ab + 1)) a0_0 aa) else (impl_laneFor.l0 kj9 a1 a2 ad ag ae aa (aa.length : Int) (wrap64 (ab + 1)) a0_0 aa)) = some r := H
              have A31 := zK bE; clear bE
              by_cases bq : al > aF
              ·rw [if_pos bq] at H
               have bF : decide (aF < al) = true := decide_eq_true bq
               clear bq; have H' := zK H; clear H
               have hcz33_0 : wc.cell? ⟨af, 0, none⟩ = some (.int .i64 a0_0) := (blk_cell ac.out 0).trans rfl
               have hcz33_1 : wc.cell? ⟨af, 1, none⟩ = some (.slice (some ai) aa.length am) := (blk_cell ac.out 1).trans rfl
               have hfz33_0 := blk_frozen ac.out 0; have hfz33_1 := blk_frozen ac.out 1
               have aI : 0 ≤ (ae : Int) := zd
               have aJ : ae < (aa.length : Int) := zd
               obtain ⟨aT, bi, bj, bk, ak, ap, aq⟩ := at_L2 aB.out ae aI aJ
               obtain rfl : ai = aT := (by injection bk)
               replace ak := (HB.out.cell (World.block_lt_of_cell? w _ ak)).trans ak
               have ay := zK aq; have az := zK ap; clear aq ap; replace aI := eq_true aI; replace aJ := eq_true aJ
               go_wp2_with (first | (go_at_call 87; (with_reducible refine (impl_leastTime.calls kj9 _ _ (rd_L2 aa ae) aF _ ?side1 ?side2 A31.out).mono ?_); (case side1 => repeat (first | exact (Kd.C_below ay.out HB.out) | (with_reducible refine Kd.C_alloc ?_ _) | (with_reducible refine Kd.C_drewN ?_ _) | (with_reducible refine Kd.C_drew ?_))); (case side2 => exact az.out); rintro e w34 ⟨rfl, hb⟩; have aC := zK (blk_below (g := af) (o := .cells #[.int .i64 a0_0, .slice (some ai) aa.length am] 24 (0, 0)) (zk ac) hb); have aD := zK (below_step (zb HB) hb); clear ac; clear HB; have ac := aC; have HB := aD; clear aC aD; (try clear hb)))
               go_roundg kj9
               case measure => have := au.out; have := aA.out; omega
               case rel => exact ⟨(ad), (ag), (ab), (wrap64 (ab + 1)), (by first | rfl | (simp; done) | (simp [*]; done)), (by first | rfl | (simp; done) | (simp [*]; done)), (by first | rfl | (simp; done) | (simp [*]; done)), (by first | rfl | (simp; done) | (simp [*]; done)), H', ⟨by have := au.out; have := aA.out; omega⟩, ⟨zk ac⟩, ⟨zb HB⟩⟩
              ·rw [if_neg bq] at H
               have bF : decide (aF < al) = false := decide_eq_false bq
               clear bq; have H' := zK H; clear H
               have hcz35_0 : wc.cell? ⟨af, 0, none⟩ = some (.int .i64 a0_0) := (blk_cell ac.out 0).trans rfl
               have hcz35_1 : wc.cell? ⟨af, 1, none⟩ = some (.slice (some ai) aa.length am) := (blk_cell ac.out 1).trans rfl
               have hfz35_0 := blk_frozen ac.out 0; have hfz35_1 := blk_frozen ac.out 1
               have aI : 0 ≤ (ae : Int) := zd
               have aJ : ae < (aa.length : Int) := zd
               obtain ⟨aT, bi, bj, bk, ak, ap, aq⟩ := at_L2 aB.out ae aI aJ
               obtain rfl : ai = aT := (by injection bk)
               replace ak := (HB.out.cell (World.block_lt_of_cell? w _ ak)).trans ak
               have ay := zK aq; have az := zK ap; clear aq ap; replace aI := eq_true aI; replace aJ := eq_true aJ
               go_wp2_with (first | (go_at_call 87; (with_reducible refine (impl_leastTime.calls kj9 _ _ (rd_L2 aa ae) aF _ ?side1 ?side2 A31.out).mono ?_); (case side1 => repeat (first | exact (Kd.C_below ay.out HB.out) | (with_reducible refine Kd.C_alloc ?_ _) | (with_reducible refine Kd.C_drewN ?_ _) | (with_reducible refine Kd.C_drew ?_))); (case side2 => exact az.out); rintro e w36 ⟨rfl, hb⟩; have aC := zK (blk_below (g := af) (o := .cells #[.int .i64 a0_0, .slice (some ai) aa.length am] 24 (0, 0)) (zk ac) hb); have aD := zK (below_step (zb HB) hb); clear ac; clear HB; have ac := aC; have HB := aD; clear aC aD; (try clear hb)))
               go_roundg kj9
               case measure => have := au.out; have := aA.out; omega
               case rel => exact ⟨(ad), (ag), (ae), (wrap64 (ab + 1)), (by first | rfl | (simp; done) | (simp [*]; done)), (by first | rfl | (simp; done) | (simp [*]; done)), (by first | rfl | (simp; done) | (simp [*]; done)), (by first | rfl | (simp; done) | (simp [*]; done)), H', ⟨by have := au.out; have := aA.out; omega⟩, ⟨zk ac⟩, ⟨zb HB⟩⟩
             ·rw [if_neg c30] at H
              exact absurd H (by simp)
            ·rw [if_neg c29] at H
             exact absurd H (by simp)
     ·rw [if_neg c8] at H
      exact absurd H (by simp)
    ·rw [if_neg c7] at H
     exact absurd H (by simp)
   ·rw [if_neg c6] at H
    have bt : decide (ab < (aa.length : Int)) = false := decide_eq_false c6
    clear c6
    by_cases br : ad ≥ 0
    ·rw [if_pos br] at H
     have bG : decide (0 ≤ ad) = true := decide_eq_true br
     clear br; obtain rfl := Option.some.inj H
     go_wp2
     go_ret
     exact ⟨by first | rfl | (simp [errW_none, errW_some] <;> rfl) | (simp [*, errW_none, errW_some] <;> rfl), by repeat (first | (with_reducible first | exact HB.out | apply zB | apply zC | apply zE | refine zS ?_ ah.out) | exact HB.out)⟩
    ·rw [if_neg br] at H
     have bG : decide (0 ≤ ad) = false := decide_eq_false br
     clear br
     by_cases bs : ag ≥ 0
     ·rw [if_pos bs] at H
      have bH : decide (0 ≤ ag) = true := decide_eq_true bs
      clear bs; obtain rfl := Option.some.inj H
      go_wp2
      go_ret
      exact ⟨by first | rfl | (simp [errW_none, errW_some] <;> rfl) | (simp [*, errW_none, errW_some] <;> rfl), by repeat (first | (with_reducible first | exact HB.out | apply zB | apply zC | apply zE | refine zS ?_ ah.out) | exact HB.out)⟩
     ·rw [if_neg bs] at H
      have bH : decide (0 ≤ ag) = false := decide_eq_false bs
      clear bs; obtain rfl := Option.some.inj H
      go_wp2
      go_ret
      exact ⟨by first | rfl | (simp [errW_none, errW_some] <;> rfl) | (simp [*, errW_none, errW_some] <;> rfl), by repeat (first | (with_reducible first | exact HB.out | apply zB | apply zC | apply zE | refine zS ?_ ah.out) | exact HB.out)⟩
end Go.Proofs.Ytheckjlldkkceaa.Px
