import Derived.Test.YtheckjlldkkceaaZqPx0
import Derived.Test.YtheckjlldkkceaaZqPx3
import Derived.Test.YtheckjlldkkceaaZqPx6
namespace Go.Proofs.Ytheckjlldkkceaa.Px
open Go.RowKit Go.Proofs.YtheckjlldkkceaaW.PrintWords Go.Proofs.YtheckjlldkkceaaW.PrintLast Go.Proofs.YtheckjlldkkceaaW.PrintMore
attribute [local go_sem] max2_int min2_int max_two min_two max_three min_three max_four min_four   
set_option linter.unusedVariables false
set_option linter.unusedSimpArgs false
mutual
def spec_LaneFor.j0 : Nat → Int → Int → Bool → Int → List (List (S30)) → Option (Int)
 | 0, _, _, _, _, _ => none
 | k + 1, x1, x2, x19, x368000, x368001 => if x19 = true then (some (-1)) else (spec_LaneFor.l0 k x1 x2 (-1) (-1) (-1) 0 x368000 x368001)
def spec_LaneFor.l0 : Nat → Int → Int → Int → Int → Int → Int → Int → List (List (S30)) → Option (Int)
 | 0, _, _, _, _, _, _, _, _ => none
 | k + 1, x1, x2, x7, x8, x9, x10, x368000, x368001 => if x10 < (x368001.length : Int) then (if 0 ≤ x10 then (if x10 = x2 then (spec_LaneFor.j2 k x1 x2 x7 x8 x9 x10 (rd_L2 x368001 x10) true x368000 x368001) else (spec_LaneFor.j2 k x1 x2 x7 x8 x9 x10 (rd_L2 x368001 x10) (decide (((rd_L2 x368001 x10).length : Int) ≥ x368000)) x368000 x368001)) else (none)) else (if x7 ≥ 0 then (some x7) else (if x8 ≥ 0 then (some x8) else (some x9)))
def spec_LaneFor.j2 : Nat → Int → Int → Int → Int → Int → Int → List (S30) → Bool → Int → List (List (S30)) → Option (Int)
 | 0, _, _, _, _, _, _, _, _, _, _ => none
 | k + 1, x1, x2, x7, x8, x9, x10, x11, x41, x368000, x368001 => if x41 = true then (spec_LaneFor.l0 k x1 x2 x7 x8 x9 (wrap64 (x10 + 1)) x368000 x368001) else (if (x11.length : Int) = 0 then (if x8 < 0 then (spec_LaneFor.l0 k x1 x2 x7 x10 x9 (wrap64 (x10 + 1)) x368000 x368001) else (spec_LaneFor.l0 k x1 x2 x7 x8 x9 (wrap64 (x10 + 1)) x368000 x368001)) else ((spec_l06Least.f k x11).bind fun t371 => (if t371 ≥ x1 then (if x7 < 0 then (spec_LaneFor.j3 k x1 x2 x7 x8 x9 x10 x11 true x368000 x368001) else ((spec_l06Least.f k x11).bind fun t372 => (if 0 ≤ x7 then (if x7 < (x368001.length : Int) then ((spec_l06Least.f k (rd_L2 x368001 x7)).bind fun t374 => (spec_LaneFor.j3 k x1 x2 x7 x8 x9 x10 x11 (decide (t372 < t374)) x368000 x368001)) else (none)) else (none)))) else (spec_LaneFor.j3 k x1 x2 x7 x8 x9 x10 x11 false x368000 x368001))))
def spec_LaneFor.j3 : Nat → Int → Int → Int → Int → Int → Int → List (S30) → Bool → Int → List (List (S30)) → Option (Int)
 | 0, _, _, _, _, _, _, _, _, _, _ => none
 | k + 1, x1, x2, x7, x8, x9, x10, x11, x66, x368000, x368001 => if x66 = true then (spec_LaneFor.j4 k x1 x2 x10 x8 x9 x10 x11 x368000 x368001) else (spec_LaneFor.j4 k x1 x2 x7 x8 x9 x10 x11 x368000 x368001)
def spec_LaneFor.j4 : Nat → Int → Int → Int → Int → Int → Int → List (S30) → Int → List (List (S30)) → Option (Int)
 | 0, _, _, _, _, _, _, _, _, _ => none
 | k + 1, x1, x2, x7, x8, x9, x10, x11, x368000, x368001 => if x9 < 0 then (spec_LaneFor.l0 k x1 x2 x7 x8 x10 (wrap64 (x10 + 1)) x368000 x368001) else ((spec_l06Least.f k x11).bind fun t375 => (if 0 ≤ x9 then (if x9 < (x368001.length : Int) then ((spec_l06Least.f k (rd_L2 x368001 x9)).bind fun t377 => (if t375 > t377 then (spec_LaneFor.l0 k x1 x2 x7 x8 x10 (wrap64 (x10 + 1)) x368000 x368001) else (spec_LaneFor.l0 k x1 x2 x7 x8 x9 (wrap64 (x10 + 1)) x368000 x368001))) else (none)) else (none)))
end
def spec_LaneFor.f (k : Nat) (a0_0 : Int) (l0_1 : List (List (S30))) (a1 : Int) (a2 : Int) : Option (Int) := (spec_StoreOk.f k a0_0 l0_1).bind fun t368 => (if t368 = true then ((spec_l01In.f a1 0 100000).bind fun t369 => (spec_LaneFor.j0 k a1 a2 (!t369) a0_0 l0_1)) else (spec_LaneFor.j0 k a1 a2 true a0_0 l0_1))
def spec_LaneFor.T14 : Bool × List (List Nat × List Nat) := (true, [([], []), ([0], [0]), ([], []), ([1, 2], [1, 2]), ([3, 1], [3]), ([4], [4]), ([5, 4], [4, 5]), ([6, 4, 4], [4, 6]), ([7], [7]), ([8, 7, 7], [7, 8]), ([7], [7]), ([10, 7], [7, 10]), ([7], [7]), ([11, 12, 7], [7, 11, 12]), ([13, 7], [7, 13]), ([14, 9, 7], [7, 14]), ([9, 15, 7], [7, 9, 15]), ([7, 16, 4], [4, 7, 16]), ([4, 17], [4, 17])])
def spec_LaneFor.B14 : List Nat := [0, 1, 0, 7, 15, 31, 63, 127, 255, 511, 255, 1279, 255, 7423, 15615, 32767, 65535, 131071, 262143]
theorem spec_LaneFor.tab14 : rtab .any (opsOf Try.f26 14) = spec_LaneFor.T14 := by kernel_rfl
theorem spec_LaneFor.bits14 : waitsOk spec_LaneFor.T14.2 spec_LaneFor.B14 = true := by kernel_rfl
def spec_LaneFor.T16 : Bool × List (List Nat × List Nat) := (true, [([], []), ([0], [0]), ([1], [1]), ([2], [2]), ([3, 2, 2], [2, 3]), ([2], [2]), ([5, 2], [2, 5]), ([2], [2]), ([6, 7, 2], [2, 6, 7]), ([8, 2], [2, 8]), ([9, 4, 2], [2, 9]), ([4, 10, 2], [2, 4, 10]), ([2, 11], [2, 11])])
def spec_LaneFor.B16 : List Nat := [0, 1, 3, 7, 15, 7, 39, 7, 231, 487, 1023, 2047, 4095]
theorem spec_LaneFor.tab16 : rtab .any (opsOf Try.f26 16) = spec_LaneFor.T16 := by kernel_rfl
theorem spec_LaneFor.bits16 : waitsOk spec_LaneFor.T16.2 spec_LaneFor.B16 = true := by kernel_rfl
set_option maxHeartbeats 8000000 in
set_option maxRecDepth 100000 in
theorem spec_LaneFor.calls (k : Nat) (a0_0 : Int) (aw : Option Addr) (ak : Nat) (ab : List (List (S30))) (a1 : Int) (a2 : Int) (r : Int) (w : World) (bB : Kd.C (Kd.slice 30 k30) w aw ab.length ab) (hc0_1 : ab.length ≤ ak) (h : spec_LaneFor.f k a0_0 ab a1 a2 = some r) :
  Calls Try.prog 26 #[.agg #[.int .i64 a0_0, .slice aw ab.length ak], .int .i64 a1, .int .i64 a2] w fun e w' => e = .returned (.int .i64 r) ∧ Below w.heap.size w w' := by
 have hu24 := Try.underlying24; have aG := zK bB; have bC := zK hc0_1; clear bB hc0_1
 have HB := zK (Below.refl w.heap.size w)
 have H : ((spec_StoreOk.f k a0_0 ab).bind fun bn => (if bn = true then ((spec_l01In.f a1 0 100000).bind fun aI => (spec_LaneFor.j0 k a1 a2 (!aI) a0_0 ab)) else (spec_LaneFor.j0 k a1 a2 true a0_0 ab))) = some r := h
 clear h; have HC4 := zK H; clear H
 go_enter Try.func26, Try.ntmps26
 go_upto_region 1 with (first | ((with_reducible refine gate_dst (N := 3) rfl ?_); (try (refine gate_guard (by rfl) ?_; dsimp only)); refine box_event ?hg (N := 3) ?hd (cs := #[.int .i64 a0_0, .slice aw ab.length ak]) (t := 24) ?hr ?_; (case hd => rfl); (case hg => rfl); (case hr => first | (go_simp; done) | (go_simp; rfl)); intro ad hg w5 hbox hb; have am := zK (below_step (zb HB) hb); have an := zK (hbox); have n2_ := zK ((by rw [hg]; exact (below_size (zb HB)) : w.heap.size ≤ ad)); have n3_ := zK ((by rw [hg]; exact (below_size (zb HB)) : w.heap.size ≤ ad)); clear HB; have HB := am; have aa := an; have GW367 := n2_; have ag := n3_; clear am an n2_ n3_; clear hb hbox hg))
 (try simp only [Act.put, zp, zq, zr])
 go_cut [19] (fun v19 wc => ∃ (kq : Nat) (a6 : Bool), v19 = .bool a6 ∧ Aside0 (spec_LaneFor.j0 kq a1 a2 a6 a0_0 ab = some r) ∧ Aside0 (kq ≤ k) ∧ Aside0 (wc.heap[ad]? = some (.cells #[.int .i64 a0_0, (.slice aw ab.length ak)] 24 (0, 0))) ∧ Aside0 (Below w.heap.size w wc))
 case first =>
  have H := HC4.out; clear HC4; replace H := Option.bind_eq_some_iff.mp H
  obtain ⟨bn, A60, H⟩ := H
  replace H : (if bn = true then ((spec_l01In.f a1 0 100000).bind fun aI => (spec_LaneFor.j0 k a1 a2 (!aI) a0_0 ab)) else (spec_LaneFor.j0 k a1 a2 true a0_0 ab)) = some r := H
  have A6 := zK A60; clear A60
  by_cases c7 : bn = true
  ·subst c7
   have H1 : ((spec_l01In.f a1 0 100000).bind fun aI => (spec_LaneFor.j0 k a1 a2 (!aI) a0_0 ab)) = some r := by rw [if_pos rfl] at H; exact H
   clear H; have H := H1; clear H1; replace H := Option.bind_eq_some_iff.mp H
   obtain ⟨aI, A80, H⟩ := H
   replace H : (spec_LaneFor.j0 k a1 a2 (!aI) a0_0 ab) = some r := H
   have A8 := zK A80; clear A80; have H' := zK H; clear H
   have aX : w5.cell? ⟨ad, 0, none⟩ = some (.int .i64 a0_0) := (blk_cell aa.out 0).trans rfl
   have aY : w5.cell? ⟨ad, 1, none⟩ = some (.slice aw ab.length ak) := (blk_cell aa.out 1).trans rfl
   have aZ := blk_frozen aa.out 0; have a0 := blk_frozen aa.out 1
   go_wp2_with (first | ((with_reducible refine gate_callee (f := 15) rfl ?_); refine goesL_ (some 13) rfl rfl Try.func15 (by kernel_rfl) rfl #[.agg #[.int .i64 a0_0, .slice aw ab.length ak]] rfl (by (try simp only [List.map_toArray, List.map_cons, List.map_nil]); first | done | rfl | (simp only [List.length_drop, List.length_take]; rfl)) ?_; (with_reducible refine (spec_StoreOk.calls k a0_0 _ _ ab true _ ?side1 ?side2 A6.out).mono ?_); (case side1 => repeat (first | exact (Kd.C_below aG.out HB.out) | (with_reducible refine Kd.C_alloc ?_ _) | (with_reducible refine Kd.C_drewN ?_ _) | (with_reducible refine Kd.C_drew ?_))); (case side2 => exact bC.out); rintro e w10 ⟨rfl, hb⟩; refine ⟨_, rfl, ?_⟩; have am := zK (blk_below (g := ad) (o := .cells #[.int .i64 a0_0, .slice aw ab.length ak] 24 (0, 0)) (zk aa) hb); have an := zK (below_step (zb HB) hb); clear aa; clear HB; have aa := am; have HB := an; clear am an; (try clear hb)) | (go_at_call 48; (with_reducible refine (spec_l01In.calls a1 0 100000 aI _ A8.out).mono ?_); rintro e w' ⟨rfl, ⟨nd, rfl⟩⟩))
   go_meet
   case rel => exact ⟨_, (!aI), (by first | rfl | (simp; done) | (simp [*]; done)), H', ⟨by first | omega | exact Nat.le_refl _⟩, ⟨zk aa⟩, ⟨zb HB⟩⟩
  ·replace c7 := Bool.eq_false_iff.mpr c7
   subst c7
   have H1 : (spec_LaneFor.j0 k a1 a2 true a0_0 ab) = some r := by rw [if_neg (show ¬ (false = true) by decide)] at H; exact H
   clear H; have H := H1; clear H1; have H' := zK H; clear H
   have aJ : w5.cell? ⟨ad, 0, none⟩ = some (.int .i64 a0_0) := (blk_cell aa.out 0).trans rfl
   have aK : w5.cell? ⟨ad, 1, none⟩ = some (.slice aw ab.length ak) := (blk_cell aa.out 1).trans rfl
   have aL := blk_frozen aa.out 0; have aM := blk_frozen aa.out 1
   go_wp2_with (first | ((with_reducible refine gate_callee (f := 15) rfl ?_); refine goesL_ (some 13) rfl rfl Try.func15 (by kernel_rfl) rfl #[.agg #[.int .i64 a0_0, .slice aw ab.length ak]] rfl (by (try simp only [List.map_toArray, List.map_cons, List.map_nil]); first | done | rfl | (simp only [List.length_drop, List.length_take]; rfl)) ?_; (with_reducible refine (spec_StoreOk.calls k a0_0 _ _ ab false _ ?side1 ?side2 A6.out).mono ?_); (case side1 => repeat (first | exact (Kd.C_below aG.out HB.out) | (with_reducible refine Kd.C_alloc ?_ _) | (with_reducible refine Kd.C_drewN ?_ _) | (with_reducible refine Kd.C_drew ?_))); (case side2 => exact bC.out); rintro e w12 ⟨rfl, hb⟩; refine ⟨_, rfl, ?_⟩; have am := zK (blk_below (g := ad) (o := .cells #[.int .i64 a0_0, .slice aw ab.length ak] 24 (0, 0)) (zk aa) hb); have an := zK (below_step (zb HB) hb); clear aa; clear HB; have aa := am; have HB := an; clear am an; (try clear hb)))
   go_meet
   case rel => exact ⟨_, (true), (by first | rfl | (simp; done) | (simp [*]; done)), H', ⟨by first | omega | exact Nat.le_refl _⟩, ⟨zk aa⟩, ⟨zb HB⟩⟩
 case rest =>
  clear HC4
  try clear c1
  try clear c2
  try clear p2
  try clear c7
  try clear aJ
  try clear aK
  try clear aX
  try clear aY
  try clear aL
  try clear aM
  try clear aZ
  try clear a0
  obtain ⟨kq, a6, rfl, HA, aN, aa, HB⟩ := hcut
  cases kq with
  | zero => exact absurd HA.out (by simp [spec_LaneFor.j0])
  | succ kj3 =>
   have H := HA.out; clear HA
   simp only [spec_LaneFor.j0] at H
   by_cases bR : a6 = true
   ·subst bR
    have H1 : (some (-1)) = some r := by rw [if_pos rfl] at H; exact H
    clear H; have H := H1; clear H1; obtain rfl := Option.some.inj H
    go_wp2
    go_ret
    exact ⟨by first | rfl | (simp [errW_none, errW_some] <;> rfl) | (simp [*, errW_none, errW_some] <;> rfl), by repeat (first | (with_reducible first | exact HB.out | apply zB | apply zC | apply zE | refine zS ?_ ag.out) | exact HB.out)⟩
   ·replace bR := Bool.eq_false_iff.mpr bR
    subst bR
    have H1 : (spec_LaneFor.l0 kj3 a1 a2 (-1) (-1) (-1) 0 a0_0 ab) = some r := by rw [if_neg (show ¬ (false = true) by decide)] at H; exact H
    clear H; have H := H1; clear H1; have H' := zK H; clear H
    go_wp2
    go_loopg [7, 8, 9, 10] kj3 (fun kq v7 v8 v9 v10 w' => ∃ (ae : Int) (ah : Int) (af : Int) (ac : Int), v7 = .int .i64 ae ∧ v8 = .int .i64 ah ∧ v9 = .int .i64 af ∧ v10 = .int .i64 ac ∧ Aside0 (spec_LaneFor.l0 kq a1 a2 ae ah af ac a0_0 ab = some r) ∧ Aside0 (kq ≤ kj3) ∧ Aside0 (w'.heap[ad]? = some (.cells #[.int .i64 a0_0, (.slice aw ab.length ak)] 24 (0, 0))) ∧ Aside0 (Below w.heap.size w w'))
    case atStart => exact ⟨((-1)), ((-1)), ((-1)), (0), (by first | rfl | (simp; done) | (simp [*]; done)), (by first | rfl | (simp; done) | (simp [*]; done)), (by first | rfl | (simp; done) | (simp [*]; done)), (by first | rfl | (simp; done) | (simp [*]; done)), H', ⟨Nat.le_refl _⟩, ⟨zk aa⟩, ⟨zb HB⟩⟩
    case round =>
     clear H'
     try clear c1
     try clear c2
     try clear p2
     try clear c7
     try clear bR
     try clear aJ
     try clear aK
     try clear aX
     try clear aY
     try clear aL
     try clear aM
     try clear aZ
     try clear a0
     try clear p2
     obtain ⟨ae, ah, af, ac, rfl, rfl, rfl, rfl, HA, aO, aa, HB⟩ := hrel
     cases gk with
     | zero => exact absurd HA.out (by simp [spec_LaneFor.l0])
     | succ k2 =>
      have H := HA.out; clear HA
      simp only [spec_LaneFor.l0] at H
      by_cases bM : ac < (ab.length : Int)
      ·rw [if_pos bM] at H
       have bD : decide (ac < (ab.length : Int)) = true := decide_eq_true bM
       clear bM
       by_cases bZ : 0 ≤ ac
       ·rw [if_pos bZ] at H
        have b0 : decide (0 ≤ ac) = true := decide_eq_true bZ
        clear bZ; have bN := zK H; clear H
        have bo : wr.cell? ⟨ad, 0, none⟩ = some (.int .i64 a0_0) := (blk_cell aa.out 0).trans rfl
        have bp : wr.cell? ⟨ad, 1, none⟩ = some (.slice aw ab.length ak) := (blk_cell aa.out 1).trans rfl
        have bq := blk_frozen aa.out 0; have br := blk_frozen aa.out 1
        have bs : 0 ≤ (ac : Int) := zd
        have bt : ac < (ab.length : Int) := zd
        obtain ⟨aj, aA, aB, e370, aC, a7, a8⟩ := at_L2 aG.out ac bs bt
        cases e370
        replace aC := (HB.out.cell (World.block_lt_of_cell? w _ aC)).trans aC
        have ar := zK a8; have au := zK a7; clear a8 a7; replace bs := eq_true bs; replace bt := eq_true bt
        go_upto_region 10 with (fail)
        go_cut [41] (fun v41 wc => ∃ (kq : Nat) (aP : Bool), v41 = .bool aP ∧ Aside0 (spec_LaneFor.j2 kq a1 a2 ae ah af ac (rd_L2 ab ac) aP a0_0 ab = some r) ∧ Aside0 (kq ≤ k2) ∧ Aside0 (wc.heap[ad]? = some (.cells #[.int .i64 a0_0, (.slice (some aj) ab.length ak)] 24 (0, 0))) ∧ Aside0 (Below w.heap.size w wc))
        case first =>
         have H := bN.out; clear bN
         by_cases bE : ac = a2
         ·rw [if_pos bE] at H
          have aH : (ac == a2) = true := beq_iff_eq.mpr bE
          have bF : (ac != a2) = false := bne_eq_false_iff_eq.mpr bE
          clear bE
          (first | rw [aH] | (simp only [i64_w, i32_w]; rw [aH]) | skip)
          have H' := zK H; clear H
          go_wp2
          go_meet
          case rel => exact ⟨_, (true), (by first | rfl | (simp; done) | (simp [*]; done)), H', ⟨by have := aN.out; have := aO.out; first | omega | exact Nat.le_refl _⟩, ⟨zk aa⟩, ⟨zb HB⟩⟩
         ·rw [if_neg bE] at H
          have aH : (ac == a2) = false := beq_eq_false_iff_ne.mpr bE
          have bF : (ac != a2) = true := bne_iff_ne.mpr bE
          (first | rw [aH] | (simp only [i64_w, i32_w]; rw [aH]) | skip)
          have H' := zK H; clear H
          have bv : wr.cell? ⟨ad, 0, none⟩ = some (.int .i64 a0_0) := (blk_cell aa.out 0).trans rfl
          have bw : wr.cell? ⟨ad, 1, none⟩ = some (.slice (some aj) ab.length ak) := (blk_cell aa.out 1).trans rfl
          have bx := blk_frozen aa.out 0; have bz := blk_frozen aa.out 1
          go_wp2
          go_meet
          case rel => exact ⟨_, (decide (((rd_L2 ab ac).length : Int) ≥ a0_0)), (by first | rfl | (simp; done) | (simp [*]; done)), H', ⟨by have := aN.out; have := aO.out; first | omega | exact Nat.le_refl _⟩, ⟨zk aa⟩, ⟨zb HB⟩⟩
        case rest =>
         clear bN
         try clear c1
         try clear c2
         try clear p2
         try clear c3
         try clear p3
         try clear q3
         try clear hx3
         try clear c7
         try clear bR
         try clear bM
         try clear bD
         try clear bZ
         try clear b0
         try clear bE
         try clear aH
         try clear bF
         try clear aJ
         try clear aK
         try clear bo
         try clear bp
         try clear bv
         try clear bw
         try clear aX
         try clear aY
         try clear aL
         try clear aM
         try clear bq
         try clear br
         try clear bx
         try clear bz
         try clear aZ
         try clear a0
         try clear aC
         try clear p2
         try clear bs
         try clear bt
         obtain ⟨kq, aP, rfl, HA, aq, aa, HB⟩ := hcut
         cases kq with
         | zero => exact absurd HA.out (by simp [spec_LaneFor.j2])
         | succ kj15 =>
          have H := HA.out; clear HA
          simp only [spec_LaneFor.j2] at H
          by_cases bS : aP = true
          ·subst bS
           have H1 : (spec_LaneFor.l0 kj15 a1 a2 ae ah af (wrap64 (ac + 1)) a0_0 ab) = some r := by rw [if_pos rfl] at H; exact H
           clear H; have H := H1; clear H1; have H' := zK H; clear H
           go_wp2
           go_roundg kj15
           case measure => have := aN.out; have := aO.out; have := aq.out; omega
           case rel => exact ⟨(ae), (ah), (af), (wrap64 (ac + 1)), (by first | rfl | (simp; done) | (simp [*]; done)), (by first | rfl | (simp; done) | (simp [*]; done)), (by first | rfl | (simp; done) | (simp [*]; done)), (by first | rfl | (simp; done) | (simp [*]; done)), H', ⟨by have := aN.out; have := aO.out; have := aq.out; omega⟩, ⟨zk aa⟩, ⟨zb HB⟩⟩
          ·replace bS := Bool.eq_false_iff.mpr bS
           subst bS
           have H1 : (if ((rd_L2 ab ac).length : Int) = 0 then (if ah < 0 then (spec_LaneFor.l0 kj15 a1 a2 ae ac af (wrap64 (ac + 1)) a0_0 ab) else (spec_LaneFor.l0 kj15 a1 a2 ae ah af (wrap64 (ac + 1)) a0_0 ab)) else ((spec_l06Least.f kj15 (rd_L2 ab ac)).bind fun aQ => (if aQ ≥ a1 then (if ae < 0 then (spec_LaneFor.j3 kj15 a1 a2 ae ah af ac (rd_L2 ab ac) true a0_0 ab) else ((spec_l06Least.f kj15 (rd_L2 ab ac)).bind fun aU => (if 0 ≤ ae then (if ae < (ab.length : Int) then ((spec_l06Least.f kj15 (rd_L2 ab ae)).bind fun aR => (spec_LaneFor.j3 kj15 a1 a2 ae ah af ac (rd_L2 ab ac) (decide (aU < aR)) a0_0 ab)) else (none)) else (none)))) else (spec_LaneFor.j3 kj15 a1 a2 ae ah af ac (rd_L2 ab ac) false a0_0 ab)))) = some r := by rw [if_neg (show ¬ (false = true) by decide)] at H; exact H
           clear H; have H := H1; clear H1
           by_cases bm : ((rd_L2 ab ac).length : Int) = 0
           ·rw [if_pos bm] at H
            have bd : (((rd_L2 ab ac).length : Int) == 0) = true := beq_iff_eq.mpr bm
            have be : (((rd_L2 ab ac).length : Int) != 0) = false := bne_eq_false_iff_eq.mpr bm
            clear bm
            by_cases bG : ah < 0
            ·rw [if_pos bG] at H
             have bf : decide (ah < 0) = true := decide_eq_true bG
             clear bG; have H' := zK H; clear H
             go_wp2
             go_roundg kj15
             case measure => have := aN.out; have := aO.out; have := aq.out; omega
             case rel => exact ⟨(ae), (ac), (af), (wrap64 (ac + 1)), (by first | rfl | (simp; done) | (simp [*]; done)), (by first | rfl | (simp; done) | (simp [*]; done)), (by first | rfl | (simp; done) | (simp [*]; done)), (by first | rfl | (simp; done) | (simp [*]; done)), H', ⟨by have := aN.out; have := aO.out; have := aq.out; omega⟩, ⟨zk aa⟩, ⟨zb HB⟩⟩
            ·rw [if_neg bG] at H
             have bf : decide (ah < 0) = false := decide_eq_false bG
             clear bG; have H' := zK H; clear H
             go_wp2
             go_roundg kj15
             case measure => have := aN.out; have := aO.out; have := aq.out; omega
             case rel => exact ⟨(ae), (ah), (af), (wrap64 (ac + 1)), (by first | rfl | (simp; done) | (simp [*]; done)), (by first | rfl | (simp; done) | (simp [*]; done)), (by first | rfl | (simp; done) | (simp [*]; done)), (by first | rfl | (simp; done) | (simp [*]; done)), H', ⟨by have := aN.out; have := aO.out; have := aq.out; omega⟩, ⟨zk aa⟩, ⟨zb HB⟩⟩
           ·rw [if_neg bm] at H
            have bd : (((rd_L2 ab ac).length : Int) == 0) = false := beq_eq_false_iff_ne.mpr bm
            have be : (((rd_L2 ab ac).length : Int) != 0) = true := bne_iff_ne.mpr bm
            have bH : ¬ ((rd_L2 ab ac) = []) := fun h_ => bm (by rw [h_]; rfl)
            have bO := zK H; clear H
            go_upto_region 14 with (fail)
            go_cut [66] (fun v66 wc => ∃ (kq : Nat) (aS : Bool), v66 = .bool aS ∧ Aside0 (spec_LaneFor.j3 kq a1 a2 ae ah af ac (rd_L2 ab ac) aS a0_0 ab = some r) ∧ Aside0 (kq ≤ kj15) ∧ Aside0 (wc.heap[ad]? = some (.cells #[.int .i64 a0_0, (.slice (some aj) ab.length ak)] 24 (0, 0))) ∧ Aside0 (Below w.heap.size w wc))
            case first =>
             have H := bO.out; clear bO; replace H := Option.bind_eq_some_iff.mp H
             obtain ⟨aQ, b1, H⟩ := H
             replace H : (if aQ ≥ a1 then (if ae < 0 then (spec_LaneFor.j3 kj15 a1 a2 ae ah af ac (rd_L2 ab ac) true a0_0 ab) else ((spec_l06Least.f kj15 (rd_L2 ab ac)).bind fun aU => (if 0 ≤ ae then (if ae < (ab.length : Int) then ((spec_l06Least.f kj15 (rd_L2 ab ae)).bind fun aR => (spec_LaneFor.j3 kj15 a1 a2 ae ah af ac (rd_L2 ab ac) (decide (aU < aR)) a0_0 ab)) else (none)) else (none)))) else (spec_LaneFor.j3 kj15 a1 a2 ae ah af ac (rd_L2 ab ac) false a0_0 ab)) = some r := H
             have A24 := zK b1; clear b1
             by_cases bI : aQ ≥ a1
             ·rw [if_pos bI] at H
              have aD : decide (a1 ≤ aQ) = true := decide_eq_true bI
              clear bI
              (first | rw [aD] | (simp only [i64_w, i32_w]; rw [aD]) | skip)
              by_cases bJ : ae < 0
              ·rw [if_pos bJ] at H
               have bg : decide (ae < 0) = true := decide_eq_true bJ
               clear bJ; have H' := zK H; clear H
               try go_wp2
               have am := zK (zD aa.out)
               have an := zK (zE HB.out)
               clear aa HB; have aa := am; have HB := an; clear am an
               refine start_ (n := 19) (S := fun w' => True) (ds := []) #[ff, ff, ff, ff, ff, ff, ff, ff, ff, ff, ff, ff, ff, ff, ff, ff, ff, ff, ff] (by kernel_rfl) rfl rfl trivial (fun hHeld => ?_); refine with_tabW spec_LaneFor.tab14 spec_LaneFor.bits14 (fun HT_ HW_ => ?_)
               generalize wc.drew = w27 at aa HB hHeld ⊢
               refine zu 0 (some 48) #[tt, ff, ff, ff, ff, ff, ff, ff, ff, ff, ff, ff, ff, ff, ff, ff, ff, ff, ff] (any_of HT_.out (by kernel_rfl)) ?_
               refine zu 2 (some 50) #[tt, ff, tt, ff, ff, ff, ff, ff, ff, ff, ff, ff, ff, ff, ff, ff, ff, ff, ff] (any_of HT_.out (by kernel_rfl)) ?_
               refine one_ (i := 1) (N := some 49) #[tt, tt, tt, ff, ff, ff, ff, ff, ff, ff, ff, ff, ff, ff, ff, ff, ff, ff, ff] rfl rfl (one_of HT_.out (by kernel_rfl)) (by decide) (fun K hK => ?_)
               refine goes_ Try.func61 (by kernel_rfl) rfl #[.slice aA (rd_L2 ab ac).length aB] (by rfl) rfl rfl (by (try simp only [List.map_toArray, List.map_cons, List.map_nil]); first | done | rfl | (simp only [List.length_drop, List.length_take]; rfl)) ?_
               with_reducible refine (spec_l06Least.calls kj15 _ _ (rd_L2 ab ac) aQ _ ?side1 ?side2 A24.out).mono ?_
               (case side1 => repeat (first | exact (Kd.C_below ar.out HB.out) | (with_reducible refine Kd.C_alloc ?_ _) | (with_reducible refine Kd.C_drewN ?_ _) | (with_reducible refine Kd.C_drew ?_)))
               (case side2 => exact au.out)
               rintro e w28 ⟨rfl, hb⟩
               refine ⟨_, rfl, ?_⟩
               have am := zK (blk_below (g := ad) (o := .cells #[.int .i64 a0_0, .slice (some aj) ab.length ak] 24 (0, 0)) (zk aa) hb)
               have an := zK (below_step (zb HB) hb)
               clear aa HB; have aa := am; have HB := an; clear am an; (try clear hb); (try clear hb2); (try clear hk); (try clear hi)
               refine hK.out _ _ trivial (fun hHeld => ?_)
               clear hK K
               refine norm_ (a' := ?_) ?_ ?_
               rotate_left
               ·show Act.put _ (some 49) _ = _
                simp only [Act.put, zp, zq, zr, i64_w, i32_w]
                rfl
               refine zu 3 (some 51) #[tt, tt, tt, tt, ff, ff, ff, ff, ff, ff, ff, ff, ff, ff, ff, ff, ff, ff, ff] (any_of HT_.out (by kernel_rfl)) ?_
               refine zu 4 (some 52) #[tt, tt, tt, tt, tt, ff, ff, ff, ff, ff, ff, ff, ff, ff, ff, ff, ff, ff, ff] (any_of HT_.out (by kernel_rfl)) ?_
               refine zu 5 (some 53) #[tt, tt, tt, tt, tt, tt, ff, ff, ff, ff, ff, ff, ff, ff, ff, ff, ff, ff, ff] (any_of HT_.out (by kernel_rfl)) ?_
               refine zu 6 (some 54) #[tt, tt, tt, tt, tt, tt, tt, ff, ff, ff, ff, ff, ff, ff, ff, ff, ff, ff, ff] (any_of HT_.out (by kernel_rfl)) ?_
               refine zu 7 (some 55) #[tt, tt, tt, tt, tt, tt, tt, tt, ff, ff, ff, ff, ff, ff, ff, ff, ff, ff, ff] (any_of HT_.out (by kernel_rfl)) ?_
               refine pure_ (i := 8) (N := some 56) (v := undef) (a' := ?_) #[tt, tt, tt, tt, tt, tt, tt, tt, tt, ff, ff, ff, ff, ff, ff, ff, ff, ff, ff] rfl rfl (any_of HT_.out (by kernel_rfl)) (fun _ _ _ h => h) (Or.inr ⟨by rfl, rfl⟩) ?_ ?_
               rotate_left
               ·simp only [Act.put, zp, zq, zr, i64_w, i32_w]
                rfl
               refine pure_ (i := 9) (N := some 57) (v := undef) (a' := ?_) #[tt, tt, tt, tt, tt, tt, tt, tt, tt, tt, ff, ff, ff, ff, ff, ff, ff, ff, ff] rfl rfl (any_of HT_.out (by kernel_rfl)) (fun _ _ _ h => h) (Or.inr ⟨by rfl, rfl⟩) ?_ ?_
               rotate_left
               ·simp only [Act.put, zp, zq, zr, i64_w, i32_w]
                rfl
               refine pure_ (i := 10) (N := some 58) (v := undef) (a' := ?_) #[tt, tt, tt, tt, tt, tt, tt, tt, tt, tt, tt, ff, ff, ff, ff, ff, ff, ff, ff] rfl rfl (any_of HT_.out (by kernel_rfl)) (fun _ _ _ h => h) (Or.inr ⟨by rfl, rfl⟩) ?_ ?_
               rotate_left
               ·simp only [Act.put, zp, zq, zr, i64_w, i32_w]
                rfl
               refine pure_ (i := 11) (N := some 59) (v := undef) (a' := ?_) #[tt, tt, tt, tt, tt, tt, tt, tt, tt, tt, tt, tt, ff, ff, ff, ff, ff, ff, ff] rfl rfl (any_of HT_.out (by kernel_rfl)) (fun _ _ _ h => h) (Or.inr ⟨by rfl, rfl⟩) ?_ ?_
               rotate_left
               ·simp only [Act.put, zp, zq, zr, i64_w, i32_w]
                rfl
               refine pure_ (i := 12) (N := some 60) (v := undef) (a' := ?_) #[tt, tt, tt, tt, tt, tt, tt, tt, tt, tt, tt, tt, tt, ff, ff, ff, ff, ff, ff] rfl rfl (any_of HT_.out (by kernel_rfl)) (fun _ _ _ h => h) (Or.inr ⟨by rfl, rfl⟩) ?_ ?_
               rotate_left
               ·simp only [Act.put, zp, zq, zr, i64_w, i32_w]
                rfl
               refine pure_ (i := 13) (N := some 61) (v := undef) (a' := ?_) #[tt, tt, tt, tt, tt, tt, tt, tt, tt, tt, tt, tt, tt, tt, ff, ff, ff, ff, ff] rfl rfl (any_of HT_.out (by kernel_rfl)) (fun _ _ _ h => h) (Or.inr ⟨by rfl, rfl⟩) ?_ ?_
               rotate_left
               ·simp only [Act.put, zp, zq, zr, i64_w, i32_w]
                rfl
               refine pure_ (i := 14) (N := some 62) (v := undef) (a' := ?_) #[tt, tt, tt, tt, tt, tt, tt, tt, tt, tt, tt, tt, tt, tt, tt, ff, ff, ff, ff] rfl rfl (any_of HT_.out (by kernel_rfl)) (fun _ _ _ h => h) (Or.inr ⟨by rfl, rfl⟩) ?_ ?_
               rotate_left
               ·simp only [Act.put, zp, zq, zr, i64_w, i32_w]
                rfl
               refine pure_ (i := 15) (N := some 63) (v := undef) (a' := ?_) #[tt, tt, tt, tt, tt, tt, tt, tt, tt, tt, tt, tt, tt, tt, tt, tt, ff, ff, ff] rfl rfl (any_of HT_.out (by kernel_rfl)) (fun _ _ _ h => h) (Or.inr ⟨by rfl, rfl⟩) ?_ ?_
               rotate_left
               ·simp only [Act.put, zp, zq, zr, i64_w, i32_w]
                rfl
               refine pure_ (i := 16) (N := some 64) (v := undef) (a' := ?_) #[tt, tt, tt, tt, tt, tt, tt, tt, tt, tt, tt, tt, tt, tt, tt, tt, tt, ff, ff] rfl rfl (any_of HT_.out (by kernel_rfl)) (fun _ _ _ h => h) (Or.inr ⟨by rfl, rfl⟩) ?_ ?_
               rotate_left
               ·simp only [Act.put, zp, zq, zr, i64_w, i32_w]
                rfl
               refine zu 17 (some 65) #[tt, tt, tt, tt, tt, tt, tt, tt, tt, tt, tt, tt, tt, tt, tt, tt, tt, tt, ff] (any_of HT_.out (by kernel_rfl)) ?_
               refine zu 18 (some 66) #[tt, tt, tt, tt, tt, tt, tt, tt, tt, tt, tt, tt, tt, tt, tt, tt, tt, tt, tt] (any_of HT_.out (by kernel_rfl)) ?_
               refine done_ (done_of HT_.out (by kernel_rfl)) ?_
               try go_wp2
               go_meet
               case rel => exact ⟨_, (true), (by first | rfl | (simp; done) | (simp [*]; done)), H', ⟨by have := aN.out; have := aO.out; have := aq.out; first | omega | exact Nat.le_refl _⟩, ⟨zk aa⟩, ⟨zb HB⟩⟩
              ·rw [if_neg bJ] at H
               have bg : decide (ae < 0) = false := decide_eq_false bJ
               clear bJ; replace H := Option.bind_eq_some_iff.mp H
               obtain ⟨aU, b2, H⟩ := H
               replace H : (if 0 ≤ ae then (if ae < (ab.length : Int) then ((spec_l06Least.f kj15 (rd_L2 ab ae)).bind fun aR => (spec_LaneFor.j3 kj15 a1 a2 ae ah af ac (rd_L2 ab ac) (decide (aU < aR)) a0_0 ab)) else (none)) else (none)) = some r := H
               have A29 := zK b2; clear b2
               by_cases bT : 0 ≤ ae
               ·rw [if_pos bT] at H
                have bK : decide (0 ≤ ae) = true := decide_eq_true bT
                clear bT
                by_cases bU : ae < (ab.length : Int)
                ·rw [if_pos bU] at H
                 have bL : decide (ae < (ab.length : Int)) = true := decide_eq_true bU
                 clear bU; replace H := Option.bind_eq_some_iff.mp H
                 obtain ⟨aR, b3, H⟩ := H
                 replace H : (spec_LaneFor.j3 kj15 a1 a2 ae ah af ac (rd_L2 ab ac) (decide (aU < aR)) a0_0 ab) = some r := H
                 have A32 := zK b3; clear b3; have H' := zK H; clear H
                 try go_wp2
                 have am := zK (zD aa.out)
                 have an := zK (zE HB.out)
                 clear aa HB; have aa := am; have HB := an; clear am an
                 have bh : 0 ≤ (ae : Int) := zd
                 have bi : ae < (ab.length : Int) := zd
                 obtain ⟨b4, bj, bk, e373, ap, a9, ba⟩ := at_L2 aG.out ae bh bi
                 have ao := ap
                 obtain rfl : aj = b4 := (by injection e373)
                 replace ap := (HB.out.cell (World.block_lt_of_cell? w _ ap)).trans ap
                 have bb := zK ba; have bA := zK a9; clear ba a9; replace bh := eq_true bh; replace bi := eq_true bi
                 refine start_ (n := 19) (S := fun w' => w'.cell? ⟨ad, 0, none⟩ = some (.int .i64 a0_0) ∧ w'.cell? ⟨ad, 1, none⟩ = some (.slice (some aj) ab.length ak) ∧ w'.cell? (aj.add (ae).toNat) = some (.slice bj (rd_L2 ab ae).length bk)) (ds := []) #[ff, ff, ff, ff, ff, ff, ff, ff, ff, ff, ff, ff, ff, ff, ff, ff, ff, ff, ff] (by kernel_rfl) rfl rfl ⟨(blk_cell aa.out 0).trans rfl, (blk_cell aa.out 1).trans rfl, ((HB.out.cell (World.block_lt_of_cell? w _ ao)).trans ao)⟩ (fun hHeld => ?_); refine with_tabW spec_LaneFor.tab14 spec_LaneFor.bits14 (fun HT_ HW_ => ?_)
                 generalize wc.drew = w33 at aa HB bb ap hHeld ⊢
                 refine zu 0 (some 48) #[tt, ff, ff, ff, ff, ff, ff, ff, ff, ff, ff, ff, ff, ff, ff, ff, ff, ff, ff] (any_of HT_.out (by kernel_rfl)) ?_
                 refine zu 2 (some 50) #[tt, ff, tt, ff, ff, ff, ff, ff, ff, ff, ff, ff, ff, ff, ff, ff, ff, ff, ff] (any_of HT_.out (by kernel_rfl)) ?_
                 refine one_ (i := 1) (N := some 49) #[tt, tt, tt, ff, ff, ff, ff, ff, ff, ff, ff, ff, ff, ff, ff, ff, ff, ff, ff] rfl rfl (one_of HT_.out (by kernel_rfl)) (by decide) (fun K hK => ?_)
                 refine goes_ Try.func61 (by kernel_rfl) rfl #[.slice aA (rd_L2 ab ac).length aB] (by rfl) rfl rfl (by (try simp only [List.map_toArray, List.map_cons, List.map_nil]); first | done | rfl | (simp only [List.length_drop, List.length_take]; rfl)) ?_
                 with_reducible refine (spec_l06Least.calls kj15 _ _ (rd_L2 ab ac) aQ _ ?side1 ?side2 A24.out).mono ?_
                 (case side1 => repeat (first | exact (Kd.C_below ar.out HB.out) | (with_reducible refine Kd.C_alloc ?_ _) | (with_reducible refine Kd.C_drewN ?_ _) | (with_reducible refine Kd.C_drew ?_)))
                 (case side2 => exact au.out)
                 rintro e w34 ⟨rfl, hb⟩
                 refine ⟨_, rfl, ?_⟩
                 have am := zK (blk_below (g := ad) (o := .cells #[.int .i64 a0_0, .slice (some aj) ab.length ak] 24 (0, 0)) (zk aa) hb)
                 have an := zK (below_step (zb HB) hb)
                 clear aa HB; have aa := am; have HB := an; clear am an; (try clear hb); (try clear hb2); (try clear hk); (try clear hi)
                 refine hK.out _ _ ⟨(blk_cell aa.out 0).trans rfl, (blk_cell aa.out 1).trans rfl, ((HB.out.cell (World.block_lt_of_cell? w _ ao)).trans ao)⟩ (fun hHeld => ?_)
                 clear hK K
                 refine norm_ (a' := ?_) ?_ ?_
                 rotate_left
                 ·show Act.put _ (some 49) _ = _
                  simp only [Act.put, zp, zq, zr, i64_w, i32_w]
                  rfl
                 refine zu 3 (some 51) #[tt, tt, tt, tt, ff, ff, ff, ff, ff, ff, ff, ff, ff, ff, ff, ff, ff, ff, ff] (any_of HT_.out (by kernel_rfl)) ?_
                 refine zu 4 (some 52) #[tt, tt, tt, tt, tt, ff, ff, ff, ff, ff, ff, ff, ff, ff, ff, ff, ff, ff, ff] (any_of HT_.out (by kernel_rfl)) ?_
                 refine zu 5 (some 53) #[tt, tt, tt, tt, tt, tt, ff, ff, ff, ff, ff, ff, ff, ff, ff, ff, ff, ff, ff] (any_of HT_.out (by kernel_rfl)) ?_
                 refine zu 6 (some 54) #[tt, tt, tt, tt, tt, tt, tt, ff, ff, ff, ff, ff, ff, ff, ff, ff, ff, ff, ff] (any_of HT_.out (by kernel_rfl)) ?_
                 refine zu 7 (some 55) #[tt, tt, tt, tt, tt, tt, tt, tt, ff, ff, ff, ff, ff, ff, ff, ff, ff, ff, ff] (any_of HT_.out (by kernel_rfl)) ?_
                 refine zu 8 (some 56) #[tt, tt, tt, tt, tt, tt, tt, tt, tt, ff, ff, ff, ff, ff, ff, ff, ff, ff, ff] (any_of HT_.out (by kernel_rfl)) ?_
                 refine zu 10 (some 58) #[tt, tt, tt, tt, tt, tt, tt, tt, tt, ff, tt, ff, ff, ff, ff, ff, ff, ff, ff] (any_of HT_.out (by kernel_rfl)) ?_
                 refine zu 12 (some 60) #[tt, tt, tt, tt, tt, tt, tt, tt, tt, ff, tt, ff, tt, ff, ff, ff, ff, ff, ff] (any_of HT_.out (by kernel_rfl)) ?_
                 refine zt 11 (some 59) #[tt, tt, tt, tt, tt, tt, tt, tt, tt, ff, tt, tt, tt, ff, ff, ff, ff, ff, ff] (take_ofW HT_.out HW_.out (by kernel_rfl)) hHeld ?_
                 refine zu 13 (some 61) #[tt, tt, tt, tt, tt, tt, tt, tt, tt, ff, tt, tt, tt, tt, ff, ff, ff, ff, ff] (any_of HT_.out (by kernel_rfl)) ?_
                 refine zt 14 (some 62) #[tt, tt, tt, tt, tt, tt, tt, tt, tt, ff, tt, tt, tt, tt, tt, ff, ff, ff, ff] (take_ofW HT_.out HW_.out (by kernel_rfl)) hHeld ?_
                 refine one_ (i := 9) (N := some 57) #[tt, tt, tt, tt, tt, tt, tt, tt, tt, tt, tt, tt, tt, tt, tt, ff, ff, ff, ff] rfl rfl (one_of HT_.out (by kernel_rfl)) (by decide) (fun K hK => ?_)
                 refine goes_ Try.func61 (by kernel_rfl) rfl #[.slice aA (rd_L2 ab ac).length aB] (by rfl) rfl rfl (by (try simp only [List.map_toArray, List.map_cons, List.map_nil]); first | done | rfl | (simp only [List.length_drop, List.length_take]; rfl)) ?_
                 with_reducible refine (spec_l06Least.calls kj15 _ _ (rd_L2 ab ac) aU _ ?side1 ?side2 A29.out).mono ?_
                 (case side1 => repeat (first | exact (Kd.C_below ar.out HB.out) | (with_reducible refine Kd.C_alloc ?_ _) | (with_reducible refine Kd.C_drewN ?_ _) | (with_reducible refine Kd.C_drew ?_)))
                 (case side2 => exact au.out)
                 rintro e w35 ⟨rfl, hb⟩
                 refine ⟨_, rfl, ?_⟩
                 have am := zK (blk_below (g := ad) (o := .cells #[.int .i64 a0_0, .slice (some aj) ab.length ak] 24 (0, 0)) (zk aa) hb)
                 have an := zK (below_step (zb HB) hb)
                 clear aa HB; have aa := am; have HB := an; clear am an; (try clear hb); (try clear hb2); (try clear hk); (try clear hi)
                 refine hK.out _ _ ⟨(blk_cell aa.out 0).trans rfl, (blk_cell aa.out 1).trans rfl, ((HB.out.cell (World.block_lt_of_cell? w _ ao)).trans ao)⟩ (fun hHeld => ?_)
                 clear hK K
                 refine norm_ (a' := ?_) ?_ ?_
                 rotate_left
                 ·show Act.put _ (some 57) _ = _
                  simp only [Act.put, zp, zq, zr, i64_w, i32_w]
                  rfl
                 refine one_ (i := 15) (N := some 63) #[tt, tt, tt, tt, tt, tt, tt, tt, tt, tt, tt, tt, tt, tt, tt, tt, ff, ff, ff] rfl rfl (one_of HT_.out (by kernel_rfl)) (by decide) (fun K hK => ?_)
                 refine goes_ Try.func61 (by kernel_rfl) rfl #[.slice bj (rd_L2 ab ae).length bk] (by rfl) rfl rfl (by (try simp only [List.map_toArray, List.map_cons, List.map_nil]); first | done | rfl | (simp only [List.length_drop, List.length_take]; rfl)) ?_
                 with_reducible refine (spec_l06Least.calls kj15 _ _ (rd_L2 ab ae) aR _ ?side1 ?side2 A32.out).mono ?_
                 (case side1 => repeat (first | exact (Kd.C_below bb.out HB.out) | (with_reducible refine Kd.C_alloc ?_ _) | (with_reducible refine Kd.C_drewN ?_ _) | (with_reducible refine Kd.C_drew ?_)))
                 (case side2 => exact bA.out)
                 rintro e w36 ⟨rfl, hb⟩
                 refine ⟨_, rfl, ?_⟩
                 have am := zK (blk_below (g := ad) (o := .cells #[.int .i64 a0_0, .slice (some aj) ab.length ak] 24 (0, 0)) (zk aa) hb)
                 have an := zK (below_step (zb HB) hb)
                 clear aa HB; have aa := am; have HB := an; clear am an; (try clear hb); (try clear hb2); (try clear hk); (try clear hi)
                 refine hK.out _ _ ⟨(blk_cell aa.out 0).trans rfl, (blk_cell aa.out 1).trans rfl, ((HB.out.cell (World.block_lt_of_cell? w _ ao)).trans ao)⟩ (fun hHeld => ?_)
                 clear hK K
                 refine norm_ (a' := ?_) ?_ ?_
                 rotate_left
                 ·show Act.put _ (some 63) _ = _
                  simp only [Act.put, zp, zq, zr, i64_w, i32_w]
                  rfl
                 refine zu 16 (some 64) #[tt, tt, tt, tt, tt, tt, tt, tt, tt, tt, tt, tt, tt, tt, tt, tt, tt, ff, ff] (any_of HT_.out (by kernel_rfl)) ?_
                 refine zu 17 (some 65) #[tt, tt, tt, tt, tt, tt, tt, tt, tt, tt, tt, tt, tt, tt, tt, tt, tt, tt, ff] (any_of HT_.out (by kernel_rfl)) ?_
                 refine zu 18 (some 66) #[tt, tt, tt, tt, tt, tt, tt, tt, tt, tt, tt, tt, tt, tt, tt, tt, tt, tt, tt] (any_of HT_.out (by kernel_rfl)) ?_
                 refine done_ (done_of HT_.out (by kernel_rfl)) ?_
                 try go_wp2
                 go_meet
                 case rel => exact ⟨_, (decide (aU < aR)), (by first | rfl | (simp; done) | (simp [*]; done)), H', ⟨by have := aN.out; have := aO.out; have := aq.out; first | omega | exact Nat.le_refl _⟩, ⟨zk aa⟩, ⟨zb HB⟩⟩
                ·rw [if_neg bU] at H
                 exact absurd H (by simp)
               ·rw [if_neg bT] at H
                exact absurd H (by simp)
             ·rw [if_neg bI] at H
              have aD : decide (a1 ≤ aQ) = false := decide_eq_false bI
              clear bI
              (first | rw [aD] | (simp only [i64_w, i32_w]; rw [aD]) | skip)
              have H' := zK H; clear H
              try go_wp2
              have am := zK (zD aa.out)
              have an := zK (zE HB.out)
              clear aa HB; have aa := am; have HB := an; clear am an
              refine start_ (n := 19) (S := fun w' => True) (ds := []) #[ff, ff, ff, ff, ff, ff, ff, ff, ff, ff, ff, ff, ff, ff, ff, ff, ff, ff, ff] (by kernel_rfl) rfl rfl trivial (fun hHeld => ?_); refine with_tabW spec_LaneFor.tab14 spec_LaneFor.bits14 (fun HT_ HW_ => ?_)
              generalize wc.drew = w37 at aa HB hHeld ⊢
              refine zu 0 (some 48) #[tt, ff, ff, ff, ff, ff, ff, ff, ff, ff, ff, ff, ff, ff, ff, ff, ff, ff, ff] (any_of HT_.out (by kernel_rfl)) ?_
              refine zu 2 (some 50) #[tt, ff, tt, ff, ff, ff, ff, ff, ff, ff, ff, ff, ff, ff, ff, ff, ff, ff, ff] (any_of HT_.out (by kernel_rfl)) ?_
              refine one_ (i := 1) (N := some 49) #[tt, tt, tt, ff, ff, ff, ff, ff, ff, ff, ff, ff, ff, ff, ff, ff, ff, ff, ff] rfl rfl (one_of HT_.out (by kernel_rfl)) (by decide) (fun K hK => ?_)
              refine goes_ Try.func61 (by kernel_rfl) rfl #[.slice aA (rd_L2 ab ac).length aB] (by rfl) rfl rfl (by (try simp only [List.map_toArray, List.map_cons, List.map_nil]); first | done | rfl | (simp only [List.length_drop, List.length_take]; rfl)) ?_
              with_reducible refine (spec_l06Least.calls kj15 _ _ (rd_L2 ab ac) aQ _ ?side1 ?side2 A24.out).mono ?_
              (case side1 => repeat (first | exact (Kd.C_below ar.out HB.out) | (with_reducible refine Kd.C_alloc ?_ _) | (with_reducible refine Kd.C_drewN ?_ _) | (with_reducible refine Kd.C_drew ?_)))
              (case side2 => exact au.out)
              rintro e w38 ⟨rfl, hb⟩
              refine ⟨_, rfl, ?_⟩
              have am := zK (blk_below (g := ad) (o := .cells #[.int .i64 a0_0, .slice (some aj) ab.length ak] 24 (0, 0)) (zk aa) hb)
              have an := zK (below_step (zb HB) hb)
              clear aa HB; have aa := am; have HB := an; clear am an; (try clear hb); (try clear hb2); (try clear hk); (try clear hi)
              refine hK.out _ _ trivial (fun hHeld => ?_)
              clear hK K
              refine norm_ (a' := ?_) ?_ ?_
              rotate_left
              ·show Act.put _ (some 49) _ = _
               simp only [Act.put, zp, zq, zr, i64_w, i32_w]
               rfl
              refine zu 3 (some 51) #[tt, tt, tt, tt, ff, ff, ff, ff, ff, ff, ff, ff, ff, ff, ff, ff, ff, ff, ff] (any_of HT_.out (by kernel_rfl)) ?_
              refine zu 4 (some 52) #[tt, tt, tt, tt, tt, ff, ff, ff, ff, ff, ff, ff, ff, ff, ff, ff, ff, ff, ff] (any_of HT_.out (by kernel_rfl)) ?_
              refine pure_ (i := 5) (N := some 53) (v := undef) (a' := ?_) #[tt, tt, tt, tt, tt, tt, ff, ff, ff, ff, ff, ff, ff, ff, ff, ff, ff, ff, ff] rfl rfl (any_of HT_.out (by kernel_rfl)) (fun _ _ _ h => h) (Or.inr ⟨by rfl, rfl⟩) ?_ ?_
              rotate_left
              ·simp only [Act.put, zp, zq, zr, i64_w, i32_w]
               rfl
              refine pure_ (i := 6) (N := some 54) (v := undef) (a' := ?_) #[tt, tt, tt, tt, tt, tt, tt, ff, ff, ff, ff, ff, ff, ff, ff, ff, ff, ff, ff] rfl rfl (any_of HT_.out (by kernel_rfl)) (fun _ _ _ h => h) (Or.inr ⟨by rfl, rfl⟩) ?_ ?_
              rotate_left
              ·simp only [Act.put, zp, zq, zr, i64_w, i32_w]
               rfl
              refine pure_ (i := 7) (N := some 55) (v := undef) (a' := ?_) #[tt, tt, tt, tt, tt, tt, tt, tt, ff, ff, ff, ff, ff, ff, ff, ff, ff, ff, ff] rfl rfl (any_of HT_.out (by kernel_rfl)) (fun _ _ _ h => h) (Or.inr ⟨by rfl, rfl⟩) ?_ ?_
              rotate_left
              ·simp only [Act.put, zp, zq, zr, i64_w, i32_w]
               rfl
              refine pure_ (i := 8) (N := some 56) (v := undef) (a' := ?_) #[tt, tt, tt, tt, tt, tt, tt, tt, tt, ff, ff, ff, ff, ff, ff, ff, ff, ff, ff] rfl rfl (any_of HT_.out (by kernel_rfl)) (fun _ _ _ h => h) (Or.inr ⟨by rfl, rfl⟩) ?_ ?_
              rotate_left
              ·simp only [Act.put, zp, zq, zr, i64_w, i32_w]
               rfl
              refine pure_ (i := 9) (N := some 57) (v := undef) (a' := ?_) #[tt, tt, tt, tt, tt, tt, tt, tt, tt, tt, ff, ff, ff, ff, ff, ff, ff, ff, ff] rfl rfl (any_of HT_.out (by kernel_rfl)) (fun _ _ _ h => h) (Or.inr ⟨by rfl, rfl⟩) ?_ ?_
              rotate_left
              ·simp only [Act.put, zp, zq, zr, i64_w, i32_w]
               rfl
              refine pure_ (i := 10) (N := some 58) (v := undef) (a' := ?_) #[tt, tt, tt, tt, tt, tt, tt, tt, tt, tt, tt, ff, ff, ff, ff, ff, ff, ff, ff] rfl rfl (any_of HT_.out (by kernel_rfl)) (fun _ _ _ h => h) (Or.inr ⟨by rfl, rfl⟩) ?_ ?_
              rotate_left
              ·simp only [Act.put, zp, zq, zr, i64_w, i32_w]
               rfl
              refine pure_ (i := 11) (N := some 59) (v := undef) (a' := ?_) #[tt, tt, tt, tt, tt, tt, tt, tt, tt, tt, tt, tt, ff, ff, ff, ff, ff, ff, ff] rfl rfl (any_of HT_.out (by kernel_rfl)) (fun _ _ _ h => h) (Or.inr ⟨by rfl, rfl⟩) ?_ ?_
              rotate_left
              ·simp only [Act.put, zp, zq, zr, i64_w, i32_w]
               rfl
              refine pure_ (i := 12) (N := some 60) (v := undef) (a' := ?_) #[tt, tt, tt, tt, tt, tt, tt, tt, tt, tt, tt, tt, tt, ff, ff, ff, ff, ff, ff] rfl rfl (any_of HT_.out (by kernel_rfl)) (fun _ _ _ h => h) (Or.inr ⟨by rfl, rfl⟩) ?_ ?_
              rotate_left
              ·simp only [Act.put, zp, zq, zr, i64_w, i32_w]
               rfl
              refine pure_ (i := 13) (N := some 61) (v := undef) (a' := ?_) #[tt, tt, tt, tt, tt, tt, tt, tt, tt, tt, tt, tt, tt, tt, ff, ff, ff, ff, ff] rfl rfl (any_of HT_.out (by kernel_rfl)) (fun _ _ _ h => h) (Or.inr ⟨by rfl, rfl⟩) ?_ ?_
              rotate_left
              ·simp only [Act.put, zp, zq, zr, i64_w, i32_w]
               rfl
              refine pure_ (i := 14) (N := some 62) (v := undef) (a' := ?_) #[tt, tt, tt, tt, tt, tt, tt, tt, tt, tt, tt, tt, tt, tt, tt, ff, ff, ff, ff] rfl rfl (any_of HT_.out (by kernel_rfl)) (fun _ _ _ h => h) (Or.inr ⟨by rfl, rfl⟩) ?_ ?_
              rotate_left
              ·simp only [Act.put, zp, zq, zr, i64_w, i32_w]
               rfl
              refine pure_ (i := 15) (N := some 63) (v := undef) (a' := ?_) #[tt, tt, tt, tt, tt, tt, tt, tt, tt, tt, tt, tt, tt, tt, tt, tt, ff, ff, ff] rfl rfl (any_of HT_.out (by kernel_rfl)) (fun _ _ _ h => h) (Or.inr ⟨by rfl, rfl⟩) ?_ ?_
              rotate_left
              ·simp only [Act.put, zp, zq, zr, i64_w, i32_w]
               rfl
              refine pure_ (i := 16) (N := some 64) (v := undef) (a' := ?_) #[tt, tt, tt, tt, tt, tt, tt, tt, tt, tt, tt, tt, tt, tt, tt, tt, tt, ff, ff] rfl rfl (any_of HT_.out (by kernel_rfl)) (fun _ _ _ h => h) (Or.inr ⟨by rfl, rfl⟩) ?_ ?_
              rotate_left
              ·simp only [Act.put, zp, zq, zr, i64_w, i32_w]
               rfl
              refine pure_ (i := 17) (N := some 65) (v := undef) (a' := ?_) #[tt, tt, tt, tt, tt, tt, tt, tt, tt, tt, tt, tt, tt, tt, tt, tt, tt, tt, ff] rfl rfl (any_of HT_.out (by kernel_rfl)) (fun _ _ _ h => h) (Or.inr ⟨by rfl, rfl⟩) ?_ ?_
              rotate_left
              ·simp only [Act.put, zp, zq, zr, i64_w, i32_w]
               rfl
              refine zu 18 (some 66) #[tt, tt, tt, tt, tt, tt, tt, tt, tt, tt, tt, tt, tt, tt, tt, tt, tt, tt, tt] (any_of HT_.out (by kernel_rfl)) ?_
              refine done_ (done_of HT_.out (by kernel_rfl)) ?_
              try go_wp2
              go_meet
              case rel => exact ⟨_, (false), (by first | rfl | (simp; done) | (simp [*]; done)), H', ⟨by have := aN.out; have := aO.out; have := aq.out; first | omega | exact Nat.le_refl _⟩, ⟨zk aa⟩, ⟨zb HB⟩⟩
            case rest =>
             clear bO
             try clear c2
             try clear p2
             try clear c3
             try clear p3
             try clear q3
             try clear hx3
             try clear c6
             try clear p6
             try clear bS
             try clear bm
             try clear bd
             try clear be
             try clear bH
             try clear bG
             try clear bf
             try clear bI
             try clear aD
             try clear bJ
             try clear bg
             try clear bT
             try clear bK
             try clear bU
             try clear bL
             try clear c37
             try clear p37
             try clear q37
             try clear hx37
             try clear ap
             try clear bh
             try clear bi
             obtain ⟨kq, aS, rfl, HA, aV, aa, HB⟩ := hcut
             cases kq with
             | zero => exact absurd HA.out (by simp [spec_LaneFor.j3])
             | succ kj22 =>
              have H := HA.out; clear HA
              simp only [spec_LaneFor.j3] at H
              have bP := zK H; clear H
              go_upto_if 66 with (fail)
              go_cut [7] (fun v7 wc => ∃ (kq : Nat) (av : Int), v7 = .int .i64 av ∧ Aside0 (spec_LaneFor.j4 kq a1 a2 av ah af ac (rd_L2 ab ac) a0_0 ab = some r) ∧ Aside0 (kq ≤ kj22) ∧ Aside0 (wc.heap[ad]? = some (.cells #[.int .i64 a0_0, (.slice (some aj) ab.length ak)] 24 (0, 0))) ∧ Aside0 (Below w.heap.size w wc))
              case first =>
               have H := bP.out; clear bP
               by_cases b5 : aS = true
               ·subst b5
                have H1 : (spec_LaneFor.j4 kj22 a1 a2 ac ah af ac (rd_L2 ab ac) a0_0 ab) = some r := by rw [if_pos rfl] at H; exact H
                clear H; have H := H1; clear H1; have H' := zK H; clear H
                go_wp2
                go_meet
                case rel => exact ⟨_, (ac), (by first | rfl | (simp; done) | (simp [*]; done)), H', ⟨by have := aN.out; have := aO.out; have := aq.out; have := aV.out; first | omega | exact Nat.le_refl _⟩, ⟨zk aa⟩, ⟨zb HB⟩⟩
               ·replace b5 := Bool.eq_false_iff.mpr b5
                subst b5
                have H1 : (spec_LaneFor.j4 kj22 a1 a2 ae ah af ac (rd_L2 ab ac) a0_0 ab) = some r := by rw [if_neg (show ¬ (false = true) by decide)] at H; exact H
                clear H; have H := H1; clear H1; have H' := zK H; clear H
                go_wp2
                go_meet
                case rel => exact ⟨_, (ae), (by first | rfl | (simp; done) | (simp [*]; done)), H', ⟨by have := aN.out; have := aO.out; have := aq.out; have := aV.out; first | omega | exact Nat.le_refl _⟩, ⟨zk aa⟩, ⟨zb HB⟩⟩
              case rest =>
               clear bP
               try clear c2
               try clear p2
               try clear c3
               try clear p3
               try clear q3
               try clear hx3
               try clear c4
               try clear c6
               try clear p6
               try clear bS
               try clear bm
               try clear bd
               try clear be
               try clear bH
               try clear bG
               try clear bf
               try clear bI
               try clear aD
               try clear bJ
               try clear bg
               try clear bT
               try clear bK
               try clear bU
               try clear bL
               try clear c37
               try clear p37
               try clear q37
               try clear hx37
               try clear b5
               try clear ap
               try clear p2
               try clear p3
               try clear p37
               try clear bh
               try clear p6
               try clear q3
               try clear q37
               try clear bi
               obtain ⟨kq, av, rfl, HA, bc, aa, HB⟩ := hcut
               cases kq with
               | zero => exact absurd HA.out (by simp [spec_LaneFor.j4])
               | succ kj38 =>
                have H := HA.out; clear HA
                simp only [spec_LaneFor.j4] at H
                by_cases bV : af < 0
                ·rw [if_pos bV] at H
                 have b6 : decide (af < 0) = true := decide_eq_true bV
                 clear bV; have H' := zK H; clear H
                 try go_wp2
                 have am := zK (zD aa.out)
                 have an := zK (zE HB.out)
                 clear aa HB; have aa := am; have HB := an; clear am an
                 refine start_ (n := 13) (S := fun w' => True) (ds := []) #[ff, ff, ff, ff, ff, ff, ff, ff, ff, ff, ff, ff, ff] (by kernel_rfl) rfl rfl trivial (fun hHeld => ?_); refine with_tabW spec_LaneFor.tab16 spec_LaneFor.bits16 (fun HT_ HW_ => ?_)
                 generalize wc.drew = w42 at aa HB hHeld ⊢
                 refine zu 0 (some 68) #[tt, ff, ff, ff, ff, ff, ff, ff, ff, ff, ff, ff, ff] (any_of HT_.out (by kernel_rfl)) ?_
                 refine zu 1 (some 69) #[tt, tt, ff, ff, ff, ff, ff, ff, ff, ff, ff, ff, ff] (any_of HT_.out (by kernel_rfl)) ?_
                 refine zu 2 (some 70) #[tt, tt, tt, ff, ff, ff, ff, ff, ff, ff, ff, ff, ff] (any_of HT_.out (by kernel_rfl)) ?_
                 refine pure_ (i := 3) (N := some 71) (v := undef) (a' := ?_) #[tt, tt, tt, tt, ff, ff, ff, ff, ff, ff, ff, ff, ff] rfl rfl (any_of HT_.out (by kernel_rfl)) (fun _ _ _ h => h) (Or.inr ⟨by rfl, rfl⟩) ?_ ?_
                 rotate_left
                 ·simp only [Act.put, zp, zq, zr, i64_w, i32_w]
                  rfl
                 refine pure_ (i := 4) (N := some 72) (v := undef) (a' := ?_) #[tt, tt, tt, tt, tt, ff, ff, ff, ff, ff, ff, ff, ff] rfl rfl (any_of HT_.out (by kernel_rfl)) (fun _ _ _ h => h) (Or.inr ⟨by rfl, rfl⟩) ?_ ?_
                 rotate_left
                 ·simp only [Act.put, zp, zq, zr, i64_w, i32_w]
                  rfl
                 refine pure_ (i := 5) (N := some 73) (v := undef) (a' := ?_) #[tt, tt, tt, tt, tt, tt, ff, ff, ff, ff, ff, ff, ff] rfl rfl (any_of HT_.out (by kernel_rfl)) (fun _ _ _ h => h) (Or.inr ⟨by rfl, rfl⟩) ?_ ?_
                 rotate_left
                 ·simp only [Act.put, zp, zq, zr, i64_w, i32_w]
                  rfl
                 refine pure_ (i := 6) (N := some 74) (v := undef) (a' := ?_) #[tt, tt, tt, tt, tt, tt, tt, ff, ff, ff, ff, ff, ff] rfl rfl (any_of HT_.out (by kernel_rfl)) (fun _ _ _ h => h) (Or.inr ⟨by rfl, rfl⟩) ?_ ?_
                 rotate_left
                 ·simp only [Act.put, zp, zq, zr, i64_w, i32_w]
                  rfl
                 refine pure_ (i := 7) (N := some 75) (v := undef) (a' := ?_) #[tt, tt, tt, tt, tt, tt, tt, tt, ff, ff, ff, ff, ff] rfl rfl (any_of HT_.out (by kernel_rfl)) (fun _ _ _ h => h) (Or.inr ⟨by rfl, rfl⟩) ?_ ?_
                 rotate_left
                 ·simp only [Act.put, zp, zq, zr, i64_w, i32_w]
                  rfl
                 refine pure_ (i := 8) (N := some 76) (v := undef) (a' := ?_) #[tt, tt, tt, tt, tt, tt, tt, tt, tt, ff, ff, ff, ff] rfl rfl (any_of HT_.out (by kernel_rfl)) (fun _ _ _ h => h) (Or.inr ⟨by rfl, rfl⟩) ?_ ?_
                 rotate_left
                 ·simp only [Act.put, zp, zq, zr, i64_w, i32_w]
                  rfl
                 refine pure_ (i := 9) (N := some 77) (v := undef) (a' := ?_) #[tt, tt, tt, tt, tt, tt, tt, tt, tt, tt, ff, ff, ff] rfl rfl (any_of HT_.out (by kernel_rfl)) (fun _ _ _ h => h) (Or.inr ⟨by rfl, rfl⟩) ?_ ?_
                 rotate_left
                 ·simp only [Act.put, zp, zq, zr, i64_w, i32_w]
                  rfl
                 refine pure_ (i := 10) (N := some 78) (v := undef) (a' := ?_) #[tt, tt, tt, tt, tt, tt, tt, tt, tt, tt, tt, ff, ff] rfl rfl (any_of HT_.out (by kernel_rfl)) (fun _ _ _ h => h) (Or.inr ⟨by rfl, rfl⟩) ?_ ?_
                 rotate_left
                 ·simp only [Act.put, zp, zq, zr, i64_w, i32_w]
                  rfl
                 refine pure_ (i := 11) (N := some 79) (v := undef) (a' := ?_) #[tt, tt, tt, tt, tt, tt, tt, tt, tt, tt, tt, tt, ff] rfl rfl (any_of HT_.out (by kernel_rfl)) (fun _ _ _ h => h) (Or.inr ⟨by rfl, rfl⟩) ?_ ?_
                 rotate_left
                 ·simp only [Act.put, zp, zq, zr, i64_w, i32_w]
                  rfl
                 refine zu 12 (some 80) #[tt, tt, tt, tt, tt, tt, tt, tt, tt, tt, tt, tt, tt] (any_of HT_.out (by kernel_rfl)) ?_
                 refine done_ (done_of HT_.out (by kernel_rfl)) ?_
                 try go_wp2
                 go_roundg kj38
                 case measure => have := aN.out; have := aO.out; have := aq.out; have := aV.out; have := bc.out; omega
                 case rel => exact ⟨(av), (ah), (ac), (wrap64 (ac + 1)), (by first | rfl | (simp; done) | (simp [*]; done)), (by first | rfl | (simp; done) | (simp [*]; done)), (by first | rfl | (simp; done) | (simp [*]; done)), (by first | rfl | (simp; done) | (simp [*]; done)), H', ⟨by have := aN.out; have := aO.out; have := aq.out; have := aV.out; have := bc.out; omega⟩, ⟨zk aa⟩, ⟨zb HB⟩⟩
                ·rw [if_neg bV] at H
                 have b6 : decide (af < 0) = false := decide_eq_false bV
                 clear bV; replace H := Option.bind_eq_some_iff.mp H
                 obtain ⟨a3, b7, H⟩ := H
                 replace H : (if 0 ≤ af then (if af < (ab.length : Int) then ((spec_l06Least.f kj38 (rd_L2 ab af)).bind fun aW => (if a3 > aW then (spec_LaneFor.l0 kj38 a1 a2 av ah ac (wrap64 (ac + 1)) a0_0 ab) else (spec_LaneFor.l0 kj38 a1 a2 av ah af (wrap64 (ac + 1)) a0_0 ab))) else (none)) else (none)) = some r := H
                 have A43 := zK b7; clear b7
                 by_cases c44 : 0 ≤ af
                 ·rw [if_pos c44] at H
                  have c44b0 : decide (0 ≤ af) = true := decide_eq_true c44
                  clear c44
                  by_cases c45 : af < (ab.length : Int)
                  ·rw [if_pos c45] at H
                   have c45b0 : decide (af < (ab.length : Int)) = true := decide_eq_true c45
                   clear c45; replace H := Option.bind_eq_some_iff.mp H
                   obtain ⟨aW, b8, H⟩ := H
                   replace H : (if a3 > aW then (spec_LaneFor.l0 kj38 a1 a2 av ah ac (wrap64 (ac + 1)) a0_0 ab) else (spec_LaneFor.l0 kj38 a1 a2 av ah af (wrap64 (ac + 1)) a0_0 ab)) = some r := H
                   have A46 := zK b8; clear b8
                   by_cases bW : a3 > aW
                   ·rw [if_pos bW] at H
                    have b9 : decide (aW < a3) = true := decide_eq_true bW
                    clear bW; have H' := zK H; clear H
                    try go_wp2
                    have am := zK (zD aa.out)
                    have an := zK (zE HB.out)
                    clear aa HB; have aa := am; have HB := an; clear am an
                    have a4 : 0 ≤ (af : Int) := zd
                    have a5 : af < (ab.length : Int) := zd
                    obtain ⟨bl, aE, aF, bQ, al, ax, ay⟩ := at_L2 aG.out af a4 a5
                    have ai := al
                    obtain rfl : aj = bl := (by injection bQ)
                    replace al := (HB.out.cell (World.block_lt_of_cell? w _ al)).trans al
                    have az := zK ay; have aT := zK ax; clear ay ax; replace a4 := eq_true a4; replace a5 := eq_true a5
                    refine start_ (n := 13) (S := fun w' => w'.cell? ⟨ad, 0, none⟩ = some (.int .i64 a0_0) ∧ w'.cell? ⟨ad, 1, none⟩ = some (.slice (some aj) ab.length ak) ∧ w'.cell? (aj.add (af).toNat) = some (.slice aE (rd_L2 ab af).length aF)) (ds := []) #[ff, ff, ff, ff, ff, ff, ff, ff, ff, ff, ff, ff, ff] (by kernel_rfl) rfl rfl ⟨(blk_cell aa.out 0).trans rfl, (blk_cell aa.out 1).trans rfl, ((HB.out.cell (World.block_lt_of_cell? w _ ai)).trans ai)⟩ (fun hHeld => ?_); refine with_tabW spec_LaneFor.tab16 spec_LaneFor.bits16 (fun HT_ HW_ => ?_)
                    generalize wc.drew = w48 at aa HB az al hHeld ⊢
                    refine zu 0 (some 68) #[tt, ff, ff, ff, ff, ff, ff, ff, ff, ff, ff, ff, ff] (any_of HT_.out (by kernel_rfl)) ?_
                    refine zu 1 (some 69) #[tt, tt, ff, ff, ff, ff, ff, ff, ff, ff, ff, ff, ff] (any_of HT_.out (by kernel_rfl)) ?_
                    refine zu 2 (some 70) #[tt, tt, tt, ff, ff, ff, ff, ff, ff, ff, ff, ff, ff] (any_of HT_.out (by kernel_rfl)) ?_
                    refine zu 3 (some 71) #[tt, tt, tt, tt, ff, ff, ff, ff, ff, ff, ff, ff, ff] (any_of HT_.out (by kernel_rfl)) ?_
                    refine zu 5 (some 73) #[tt, tt, tt, tt, ff, tt, ff, ff, ff, ff, ff, ff, ff] (any_of HT_.out (by kernel_rfl)) ?_
                    refine zu 7 (some 75) #[tt, tt, tt, tt, ff, tt, ff, tt, ff, ff, ff, ff, ff] (any_of HT_.out (by kernel_rfl)) ?_
                    refine zt 6 (some 74) #[tt, tt, tt, tt, ff, tt, tt, tt, ff, ff, ff, ff, ff] (take_ofW HT_.out HW_.out (by kernel_rfl)) hHeld ?_
                    refine zu 8 (some 76) #[tt, tt, tt, tt, ff, tt, tt, tt, tt, ff, ff, ff, ff] (any_of HT_.out (by kernel_rfl)) ?_
                    refine zt 9 (some 77) #[tt, tt, tt, tt, ff, tt, tt, tt, tt, tt, ff, ff, ff] (take_ofW HT_.out HW_.out (by kernel_rfl)) hHeld ?_
                    refine one_ (i := 4) (N := some 72) #[tt, tt, tt, tt, tt, tt, tt, tt, tt, tt, ff, ff, ff] rfl rfl (one_of HT_.out (by kernel_rfl)) (by decide) (fun K hK => ?_)
                    refine goes_ Try.func61 (by kernel_rfl) rfl #[.slice aA (rd_L2 ab ac).length aB] (by rfl) rfl rfl (by (try simp only [List.map_toArray, List.map_cons, List.map_nil]); first | done | rfl | (simp only [List.length_drop, List.length_take]; rfl)) ?_
                    with_reducible refine (spec_l06Least.calls kj38 _ _ (rd_L2 ab ac) a3 _ ?side1 ?side2 A43.out).mono ?_
                    (case side1 => repeat (first | exact (Kd.C_below ar.out HB.out) | (with_reducible refine Kd.C_alloc ?_ _) | (with_reducible refine Kd.C_drewN ?_ _) | (with_reducible refine Kd.C_drew ?_)))
                    (case side2 => exact au.out)
                    rintro e w49 ⟨rfl, hb⟩
                    refine ⟨_, rfl, ?_⟩
                    have am := zK (blk_below (g := ad) (o := .cells #[.int .i64 a0_0, .slice (some aj) ab.length ak] 24 (0, 0)) (zk aa) hb)
                    have an := zK (below_step (zb HB) hb)
                    clear aa HB; have aa := am; have HB := an; clear am an; (try clear hb); (try clear hb2); (try clear hk); (try clear hi)
                    refine hK.out _ _ ⟨(blk_cell aa.out 0).trans rfl, (blk_cell aa.out 1).trans rfl, ((HB.out.cell (World.block_lt_of_cell? w _ ai)).trans ai)⟩ (fun hHeld => ?_)
                    clear hK K
                    refine norm_ (a' := ?_) ?_ ?_
                    rotate_left
                    ·show Act.put _ (some 72) _ = _
                     simp only [Act.put, zp, zq, zr, i64_w, i32_w]
                     rfl
                    refine one_ (i := 10) (N := some 78) #[tt, tt, tt, tt, tt, tt, tt, tt, tt, tt, tt, ff, ff] rfl rfl (one_of HT_.out (by kernel_rfl)) (by decide) (fun K hK => ?_)
                    refine goes_ Try.func61 (by kernel_rfl) rfl #[.slice aE (rd_L2 ab af).length aF] (by rfl) rfl rfl (by (try simp only [List.map_toArray, List.map_cons, List.map_nil]); first | done | rfl | (simp only [List.length_drop, List.length_take]; rfl)) ?_
                    with_reducible refine (spec_l06Least.calls kj38 _ _ (rd_L2 ab af) aW _ ?side1 ?side2 A46.out).mono ?_
                    (case side1 => repeat (first | exact (Kd.C_below az.out HB.out) | (with_reducible refine Kd.C_alloc ?_ _) | (with_reducible refine Kd.C_drewN ?_ _) | (with_reducible refine Kd.C_drew ?_)))
                    (case side2 => exact aT.out)
                    rintro e w50 ⟨rfl, hb⟩
                    refine ⟨_, rfl, ?_⟩
                    have am := zK (blk_below (g := ad) (o := .cells #[.int .i64 a0_0, .slice (some aj) ab.length ak] 24 (0, 0)) (zk aa) hb)
                    have an := zK (below_step (zb HB) hb)
                    clear aa HB; have aa := am; have HB := an; clear am an; (try clear hb); (try clear hb2); (try clear hk); (try clear hi)
                    refine hK.out _ _ ⟨(blk_cell aa.out 0).trans rfl, (blk_cell aa.out 1).trans rfl, ((HB.out.cell (World.block_lt_of_cell? w _ ai)).trans ai)⟩ (fun hHeld => ?_)
                    clear hK K
                    refine norm_ (a' := ?_) ?_ ?_
                    rotate_left
                    ·show Act.put _ (some 78) _ = _
                     simp only [Act.put, zp, zq, zr, i64_w, i32_w]
                     rfl
                    refine zu 11 (some 79) #[tt, tt, tt, tt, tt, tt, tt, tt, tt, tt, tt, tt, ff] (any_of HT_.out (by kernel_rfl)) ?_
                    refine zu 12 (some 80) #[tt, tt, tt, tt, tt, tt, tt, tt, tt, tt, tt, tt, tt] (any_of HT_.out (by kernel_rfl)) ?_
                    refine done_ (done_of HT_.out (by kernel_rfl)) ?_
                    try go_wp2
                    go_roundg kj38
                    case measure => have := aN.out; have := aO.out; have := aq.out; have := aV.out; have := bc.out; omega
                    case rel => exact ⟨(av), (ah), (ac), (wrap64 (ac + 1)), (by first | rfl | (simp; done) | (simp [*]; done)), (by first | rfl | (simp; done) | (simp [*]; done)), (by first | rfl | (simp; done) | (simp [*]; done)), (by first | rfl | (simp; done) | (simp [*]; done)), H', ⟨by have := aN.out; have := aO.out; have := aq.out; have := aV.out; have := bc.out; omega⟩, ⟨zk aa⟩, ⟨zb HB⟩⟩
                   ·rw [if_neg bW] at H
                    have b9 : decide (aW < a3) = false := decide_eq_false bW
                    clear bW; have H' := zK H; clear H
                    try go_wp2
                    have am := zK (zD aa.out)
                    have an := zK (zE HB.out)
                    clear aa HB; have aa := am; have HB := an; clear am an
                    have a4 : 0 ≤ (af : Int) := zd
                    have a5 : af < (ab.length : Int) := zd
                    obtain ⟨bl, aE, aF, bQ, al, ax, ay⟩ := at_L2 aG.out af a4 a5
                    have ai := al
                    obtain rfl : aj = bl := (by injection bQ)
                    replace al := (HB.out.cell (World.block_lt_of_cell? w _ al)).trans al
                    have az := zK ay; have aT := zK ax; clear ay ax; replace a4 := eq_true a4; replace a5 := eq_true a5
                    refine start_ (n := 13) (S := fun w' => w'.cell? ⟨ad, 0, none⟩ = some (.int .i64 a0_0) ∧ w'.cell? ⟨ad, 1, none⟩ = some (.slice (some aj) ab.length ak) ∧ w'.cell? (aj.add (af).toNat) = some (.slice aE (rd_L2 ab af).length aF)) (ds := []) #[ff, ff, ff, ff, ff, ff, ff, ff, ff, ff, ff, ff, ff] (by kernel_rfl) rfl rfl ⟨(blk_cell aa.out 0).trans rfl, (blk_cell aa.out 1).trans rfl, ((HB.out.cell (World.block_lt_of_cell? w _ ai)).trans ai)⟩ (fun hHeld => ?_); refine with_tabW spec_LaneFor.tab16 spec_LaneFor.bits16 (fun HT_ HW_ => ?_)
                    generalize wc.drew = w51 at aa HB az al hHeld ⊢
                    refine zu 0 (some 68) #[tt, ff, ff, ff, ff, ff, ff, ff, ff, ff, ff, ff, ff] (any_of HT_.out (by kernel_rfl)) ?_
                    refine zu 1 (some 69) #[tt, tt, ff, ff, ff, ff, ff, ff, ff, ff, ff, ff, ff] (any_of HT_.out (by kernel_rfl)) ?_
                    refine zu 2 (some 70) #[tt, tt, tt, ff, ff, ff, ff, ff, ff, ff, ff, ff, ff] (any_of HT_.out (by kernel_rfl)) ?_
                    refine zu 3 (some 71) #[tt, tt, tt, tt, ff, ff, ff, ff, ff, ff, ff, ff, ff] (any_of HT_.out (by kernel_rfl)) ?_
                    refine zu 5 (some 73) #[tt, tt, tt, tt, ff, tt, ff, ff, ff, ff, ff, ff, ff] (any_of HT_.out (by kernel_rfl)) ?_
                    refine zu 7 (some 75) #[tt, tt, tt, tt, ff, tt, ff, tt, ff, ff, ff, ff, ff] (any_of HT_.out (by kernel_rfl)) ?_
                    refine zt 6 (some 74) #[tt, tt, tt, tt, ff, tt, tt, tt, ff, ff, ff, ff, ff] (take_ofW HT_.out HW_.out (by kernel_rfl)) hHeld ?_
                    refine zu 8 (some 76) #[tt, tt, tt, tt, ff, tt, tt, tt, tt, ff, ff, ff, ff] (any_of HT_.out (by kernel_rfl)) ?_
                    refine zt 9 (some 77) #[tt, tt, tt, tt, ff, tt, tt, tt, tt, tt, ff, ff, ff] (take_ofW HT_.out HW_.out (by kernel_rfl)) hHeld ?_
                    refine one_ (i := 4) (N := some 72) #[tt, tt, tt, tt, tt, tt, tt, tt, tt, tt, ff, ff, ff] rfl rfl (one_of HT_.out (by kernel_rfl)) (by decide) (fun K hK => ?_)
                    refine goes_ Try.func61 (by kernel_rfl) rfl #[.slice aA (rd_L2 ab ac).length aB] (by rfl) rfl rfl (by (try simp only [List.map_toArray, List.map_cons, List.map_nil]); first | done | rfl | (simp only [List.length_drop, List.length_take]; rfl)) ?_
                    with_reducible refine (spec_l06Least.calls kj38 _ _ (rd_L2 ab ac) a3 _ ?side1 ?side2 A43.out).mono ?_
                    (case side1 => repeat (first | exact (Kd.C_below ar.out HB.out) | (with_reducible refine Kd.C_alloc ?_ _) | (with_reducible refine Kd.C_drewN ?_ _) | (with_reducible refine Kd.C_drew ?_)))
                    (case side2 => exact au.out)
                    rintro e w52 ⟨rfl, hb⟩
                    refine ⟨_, rfl, ?_⟩
                    have am := zK (blk_below (g := ad) (o := .cells #[.int .i64 a0_0, .slice (some aj) ab.length ak] 24 (0, 0)) (zk aa) hb)
                    have an := zK (below_step (zb HB) hb)
                    clear aa HB; have aa := am; have HB := an; clear am an; (try clear hb); (try clear hb2); (try clear hk); (try clear hi)
                    refine hK.out _ _ ⟨(blk_cell aa.out 0).trans rfl, (blk_cell aa.out 1).trans rfl, ((HB.out.cell (World.block_lt_of_cell? w _ ai)).trans ai)⟩ (fun hHeld => ?_)
                    clear hK K
                    refine norm_ (a' := ?_) ?_ ?_
                    rotate_left
                    ·show Act.put _ (some 72) _ = _
                     simp only [Act.put, zp, zq, zr, i64_w, i32_w]
                     rfl
                    refine one_ (i := 10) (N := some 78) #[tt, tt, tt, tt, tt, tt, tt, tt, tt, tt, tt, ff, ff] rfl rfl (one_of HT_.out (by kernel_rfl)) (by decide) (fun K hK => ?_)
                    refine goes_ Try.func61 (by kernel_rfl) rfl #[.slice aE (rd_L2 ab af).length aF] (by rfl) rfl rfl (by (try simp only [List.map_toArray, List.map_cons, List.map_nil]); first | done | rfl | (simp only [List.length_drop, List.length_take]; rfl)) ?_
                    with_reducible refine (spec_l06Least.calls kj38 _ _ (rd_L2 ab af) aW _ ?side1 ?side2 A46.out).mono ?_
                    (case side1 => repeat (first | exact (Kd.C_below az.out HB.out) | (with_reducible refine Kd.C_alloc ?_ _) | (with_reducible refine Kd.C_drewN ?_ _) | (with_reducible refine Kd.C_drew ?_)))
                    (case side2 => exact aT.out)
                    rintro e w53 ⟨rfl, hb⟩
                    refine ⟨_, rfl, ?_⟩
                    have am := zK (blk_below (g := ad) (o := .cells #[.int .i64 a0_0, .slice (some aj) ab.length ak] 24 (0, 0)) (zk aa) hb)
                    have an := zK (below_step (zb HB) hb)
                    clear aa HB; have aa := am; have HB := an; clear am an; (try clear hb); (try clear hb2); (try clear hk); (try clear hi)
                    refine hK.out _ _ ⟨(blk_cell aa.out 0).trans rfl, (blk_cell aa.out 1).trans rfl, ((HB.out.cell (World.block_lt_of_cell? w _ ai)).trans ai)⟩ (fun hHeld => ?_)
                    clear hK K
                    refine norm_ (a' := ?_) ?_ ?_
                    rotate_left
                    ·show Act.put _ (some 78) _ = _
                     simp only [Act.put, zp, zq, zr, i64_w, i32_w]
                     rfl
                    refine zu 11 (some 79) #[tt, tt, tt, tt, tt, tt, tt, tt, tt, tt, tt, tt, ff] (any_of HT_.out (by kernel_rfl)) ?_
                    refine zu 12 (some 80) #[tt, tt, tt, tt, tt, tt, tt, tt, tt, tt, tt, tt, tt] (any_of HT_.out (by kernel_rfl)) ?_
                    refine done_ (done_of HT_.out (by kernel_rfl)) ?_
                    try go_wp2
                    go_roundg kj38
                    case measure => have := aN.out; have := aO.out; have := aq.out; have := aV.out; have := bc.out; omega
                    case rel => exact ⟨(av), (ah), (af), (wrap64 (ac + 1)), (by first | rfl | (simp; done) | (simp [*]; done)), (by first | rfl | (simp; done) | (simp [*]; done)), (by first | rfl | (simp; done) | (simp [*]; done)), (by first | rfl | (simp; done) | (simp [*]; done)), H', ⟨by have := aN.out; have := aO.out; have := aq.out; have := aV.out; have := bc.out; omega⟩, ⟨zk aa⟩, ⟨zb HB⟩⟩
                  ·rw [if_neg c45] at H
                   exact absurd H (by simp)
                 ·rw [if_neg c44] at H
                  exact absurd H (by simp)
       ·rw [if_neg bZ] at H
        exact absurd H (by simp)
      ·rw [if_neg bM] at H
       have bD : decide (ac < (ab.length : Int)) = false := decide_eq_false bM
       clear bM
       by_cases bX : ae ≥ 0
       ·rw [if_pos bX] at H
        have ca : decide (0 ≤ ae) = true := decide_eq_true bX
        clear bX; obtain rfl := Option.some.inj H
        have hcz55_0 : wr.cell? ⟨ad, 0, none⟩ = some (.int .i64 a0_0) := (blk_cell aa.out 0).trans rfl
        have hcz55_1 : wr.cell? ⟨ad, 1, none⟩ = some (.slice aw ab.length ak) := (blk_cell aa.out 1).trans rfl
        have hfz55_0 := blk_frozen aa.out 0; have hfz55_1 := blk_frozen aa.out 1
        go_wp2
        go_ret
        exact ⟨by first | rfl | (simp [errW_none, errW_some] <;> rfl) | (simp [*, errW_none, errW_some] <;> rfl), by repeat (first | (with_reducible first | exact HB.out | apply zB | apply zC | apply zE | refine zS ?_ ag.out) | exact HB.out)⟩
       ·rw [if_neg bX] at H
        have ca : decide (0 ≤ ae) = false := decide_eq_false bX
        clear bX
        by_cases bY : ah ≥ 0
        ·rw [if_pos bY] at H
         have cb : decide (0 ≤ ah) = true := decide_eq_true bY
         clear bY; obtain rfl := Option.some.inj H
         have hcz57_0 : wr.cell? ⟨ad, 0, none⟩ = some (.int .i64 a0_0) := (blk_cell aa.out 0).trans rfl
         have hcz57_1 : wr.cell? ⟨ad, 1, none⟩ = some (.slice aw ab.length ak) := (blk_cell aa.out 1).trans rfl
         have hfz57_0 := blk_frozen aa.out 0; have hfz57_1 := blk_frozen aa.out 1
         go_wp2
         go_ret
         exact ⟨by first | rfl | (simp [errW_none, errW_some] <;> rfl) | (simp [*, errW_none, errW_some] <;> rfl), by repeat (first | (with_reducible first | exact HB.out | apply zB | apply zC | apply zE | refine zS ?_ ag.out) | exact HB.out)⟩
        ·rw [if_neg bY] at H
         have cb : decide (0 ≤ ah) = false := decide_eq_false bY
         clear bY; obtain rfl := Option.some.inj H
         have hcz58_0 : wr.cell? ⟨ad, 0, none⟩ = some (.int .i64 a0_0) := (blk_cell aa.out 0).trans rfl
         have hcz58_1 : wr.cell? ⟨ad, 1, none⟩ = some (.slice aw ab.length ak) := (blk_cell aa.out 1).trans rfl
         have hfz58_0 := blk_frozen aa.out 0; have hfz58_1 := blk_frozen aa.out 1
         go_wp2
         go_ret
         exact ⟨by first | rfl | (simp [errW_none, errW_some] <;> rfl) | (simp [*, errW_none, errW_some] <;> rfl), by repeat (first | (with_reducible first | exact HB.out | apply zB | apply zC | apply zE | refine zS ?_ ag.out) | exact HB.out)⟩
end Go.Proofs.Ytheckjlldkkceaa.Px
