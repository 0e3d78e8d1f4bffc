import Derived.Test.YtheckjlldkkceaaZqPx0
import Derived.Test.YtheckjlldkkceaaZqPx1
namespace Go.Proofs.Ytheckjlldkkceaa.Px
open Go.RowKit Go.Proofs.YtheckjlldkkceaaW.PrintWords Go.Proofs.YtheckjlldkkceaaW.PrintLast Go.Proofs.YtheckjlldkkceaaW.PrintMore
attribute [local go_sem] max2_int min2_int max_two min_two max_three min_three max_four min_four   
set_option linter.unusedVariables false
set_option linter.unusedSimpArgs false
attribute [local go_sem high] eqA30
def laws_sameKept.l0 : Nat → List (S30) → List (S30) → Int → Option (Bool)
 | 0, _, _, _ => none
 | k + 1, x0, x1, x5 => if x5 < (x0.length : Int) then (if 0 ≤ x5 then (if x5 < (x1.length : Int) then (if (!(((rd_T30 x0 x5).f0) == ((rd_T30 x1 x5).f0)) || (!(((rd_T30 x0 x5).f1) == ((rd_T30 x1 x5).f1)))) = true then (some false) else (laws_sameKept.l0 k x0 x1 (wrap64 (x5 + 1)))) else (none)) else (none)) else (some true)
def laws_sameKept.f (k : Nat) (l0 : List (S30)) (l1 : List (S30)) : Option (Bool) := if (l0.length : Int) = (l1.length : Int) then (laws_sameKept.l0 k l0 l1 0) else (some false)
set_option maxHeartbeats 8000000 in
set_option maxRecDepth 100000 in
theorem laws_sameKept.calls (k : Nat) (A0 : Option Addr) (c0 : Nat) (l0 : List (S30)) (A1 : Option Addr) (c1 : Nat) (l1 : List (S30)) (r : Bool) (w : World) (hr0 : Kd.C k30 w A0 l0.length l0) (hc0 : l0.length ≤ c0) (hr1 : Kd.C k30 w A1 l1.length l1) (hc1 : l1.length ≤ c1) (h : laws_sameKept.f k l0 l1 = some r) :
  Calls Try.prog 71 #[.slice A0 l0.length c0, .slice A1 l1.length c1] w fun e w' => e = .returned (.bool r) ∧ Drawn0 w w' := by
 have hu30 := Try.underlying30; have HR0 := zK hr0; have HC0 := zK hc0; clear hr0 hc0; have HR1 := zK hr1; have HC1 := zK hc1; clear hr1 hc1
 have H : (if (l0.length : Int) = (l1.length : Int) then (laws_sameKept.l0 k l0 l1 0) else (some false)) = some r := h
 clear h
 by_cases c3 : (l0.length : Int) = (l1.length : Int)
 ·rw [if_pos c3] at H
  have al : ((l0.length : Int) == (l1.length : Int)) = true := beq_iff_eq.mpr c3
  have am : ((l0.length : Int) != (l1.length : Int)) = false := bne_eq_false_iff_eq.mpr c3
  have an : (l0.length == l1.length) = true := by first | simpa using c3 | (simp at c3 ⊢; omega)
  clear c3; have H' := zK H; clear H
  go_enter Try.func71, Try.ntmps71
  go_wp2
  repeat (go_quiet (fail); try go_wp2)
  go_loopg [5] k (fun kq v5 w' => ∃ (aa : Int), v5 = .int .i64 aa ∧ Aside0 (laws_sameKept.l0 kq l0 l1 aa = some r) ∧ Aside0 (kq ≤ k) ∧ Drawn0 w w')
  case atStart => exact ⟨(0), (by first | rfl | (simp; done) | (simp [*]; done)), H', ⟨Nat.le_refl _⟩, by repeat (first | exact Drawn0.refl _ | apply Drawn0.step)⟩
  case round =>
   clear H'
   try clear c1
   try clear p2
   try clear c3
   try clear al
   try clear am
   try clear an
   obtain ⟨aa, rfl, HA, HK1, ⟨m1, rfl⟩⟩ := hrel
   cases gk with
   | zero => exact absurd HA.out (by simp [laws_sameKept.l0])
   | succ k1 =>
    have H := HA.out; clear HA
    simp only [laws_sameKept.l0] at H
    by_cases c4 : aa < (l0.length : Int)
    ·rw [if_pos c4] at H
     have c4b0 : decide (aa < (l0.length : Int)) = true := decide_eq_true c4
     clear c4
     by_cases c5 : 0 ≤ aa
     ·rw [if_pos c5] at H
      have c5b0 : decide (0 ≤ aa) = true := decide_eq_true c5
      clear c5
      by_cases c6 : aa < (l1.length : Int)
      ·rw [if_pos c6] at H
       have c6b0 : decide (aa < (l1.length : Int)) = true := decide_eq_true c6
       clear c6
       by_cases c7 : (!(((rd_T30 l0 aa).f0) == ((rd_T30 l1 aa).f0)) || (!(((rd_T30 l0 aa).f1) == ((rd_T30 l1 aa).f1)))) = true
       ·rw [if_pos c7] at H
        have c7b0 : (!(((rd_T30 l0 aa).f0) == ((rd_T30 l1 aa).f0)) || (!(((rd_T30 l0 aa).f1) == ((rd_T30 l1 aa).f1)))) = true := c7
        clear c7; obtain rfl := Option.some.inj H
        have ab : 0 ≤ (aa : Int) := zd
        have ac : aa < (l0.length : Int) := zd
        obtain ⟨ao, aj, af, ag⟩ := at_T30 HR0.out aa ab ac
        cases aj
        replace ab := eq_true ab; replace ac := eq_true ac
        have ad : 0 ≤ (aa : Int) := zd
        have ae : aa < (l1.length : Int) := zd
        obtain ⟨ap, ak, ah, ai⟩ := at_T30 HR1.out aa ad ae
        cases ak
        replace ad := eq_true ad; replace ae := eq_true ae
        go_wp2
        repeat (go_quiet (fail); try go_wp2)
        go_ret
        exact ⟨by first | rfl | (simp; done) | (simp [*]; done), by repeat (first | exact Drawn0.refl _ | apply Drawn0.step)⟩
       ·rw [if_neg c7] at H
        have c7b0 : (!(((rd_T30 l0 aa).f0) == ((rd_T30 l1 aa).f0)) || (!(((rd_T30 l0 aa).f1) == ((rd_T30 l1 aa).f1)))) = false := by simpa using c7
        clear c7; have H' := zK H; clear H
        have ab : 0 ≤ (aa : Int) := zd
        have ac : aa < (l0.length : Int) := zd
        obtain ⟨ao, aj, af, ag⟩ := at_T30 HR0.out aa ab ac
        cases aj
        replace ab := eq_true ab; replace ac := eq_true ac
        have ad : 0 ≤ (aa : Int) := zd
        have ae : aa < (l1.length : Int) := zd
        obtain ⟨ap, ak, ah, ai⟩ := at_T30 HR1.out aa ad ae
        cases ak
        replace ad := eq_true ad; replace ae := eq_true ae
        go_wp2
        repeat (go_quiet (fail); try go_wp2)
        go_roundg k1
        case measure => have := HK1.out; omega
        case rel => exact ⟨(wrap64 (aa + 1)), (by first | rfl | (simp; done) | (simp [*]; done)), H', ⟨by have := HK1.out; omega⟩, by repeat (first | exact Drawn0.refl _ | apply Drawn0.step)⟩
      ·rw [if_neg c6] at H
       exact absurd H (by simp)
     ·rw [if_neg c5] at H
      exact absurd H (by simp)
    ·rw [if_neg c4] at H
     have c4b0 : decide (aa < (l0.length : Int)) = false := decide_eq_false c4
     clear c4; obtain rfl := Option.some.inj H
     go_wp2
     repeat (go_quiet (fail); try go_wp2)
     go_ret
     exact ⟨by first | rfl | (simp; done) | (simp [*]; done), by repeat (first | exact Drawn0.refl _ | apply Drawn0.step)⟩
 ·rw [if_neg c3] at H
  have al : ((l0.length : Int) == (l1.length : Int)) = false := beq_eq_false_iff_ne.mpr c3
  have am : ((l0.length : Int) != (l1.length : Int)) = true := bne_iff_ne.mpr c3
  have an : (l0.length == l1.length) = false := by first | simpa using c3 | (simp at c3 ⊢; omega)
  obtain rfl := Option.some.inj H
  go_enter Try.func71, Try.ntmps71
  go_wp2
  repeat (go_quiet (fail); try go_wp2)
  go_ret
  exact ⟨by first | rfl | (simp; done) | (simp [*]; done), by repeat (first | exact Drawn0.refl _ | apply Drawn0.step)⟩
mutual
def laws_sameStore.j0 : Nat → Bool → Int → List (List (S30)) → Int → List (List (S30)) → Option (Bool)
 | 0, _, _, _, _, _ => none
 | k + 1, x19, x702000, x702001, x703000, x703001 => if x19 = true then (some false) else (laws_sameStore.l0 k 0 x702000 x702001 x703000 x703001)
def laws_sameStore.l0 : Nat → Int → Int → List (List (S30)) → Int → List (List (S30)) → Option (Bool)
 | 0, _, _, _, _, _ => none
 | k + 1, x5, x702000, x702001, x703000, x703001 => if x5 < (x702001.length : Int) then (if 0 ≤ x5 then (if x5 < (x703001.length : Int) then ((laws_sameKept.f k (rd_L2 x702001 x5) (rd_L2 x703001 x5)).bind fun t705 => (if t705 = true then (laws_sameStore.l0 k (wrap64 (x5 + 1)) x702000 x702001 x703000 x703001) else (some false))) else (none)) else (none)) else (some true)
end
def laws_sameStore.f (k : Nat) (a0_0 : Int) (l0_1 : List (List (S30))) (a1_0 : Int) (l1_1 : List (List (S30))) : Option (Bool) := if a0_0 = a1_0 then (laws_sameStore.j0 k ((l0_1.length : Int) != (l1_1.length : Int)) a0_0 l0_1 a1_0 l1_1) else (laws_sameStore.j0 k true a0_0 l0_1 a1_0 l1_1)
set_option maxHeartbeats 8000000 in
set_option maxRecDepth 100000 in
theorem laws_sameStore.calls (k : Nat) (a0_0 : Int) (ak : Option Addr) (al : Nat) (ac : List (List (S30))) (a1_0 : Int) (az : Option Addr) (aA : Nat) (ag : List (List (S30))) (r : Bool) (w : World) (a1 : Kd.C (Kd.slice 30 k30) w ak ac.length ac) (hc0_1 : ac.length ≤ al) (a2 : Kd.C (Kd.slice 30 k30) w az ag.length ag) (hc1_1 : ag.length ≤ aA) (h : laws_sameStore.f k a0_0 ac a1_0 ag = some r) :
  Calls Try.prog 33 #[.agg #[.int .i64 a0_0, .slice ak ac.length al], .agg #[.int .i64 a1_0, .slice az ag.length aA]] w fun e w' => e = .returned (.bool r) ∧ Below w.heap.size w w' := by
 have hu24 := Try.underlying24; have a3 := zK a1; have HC0_1 := zK hc0_1; clear a1 hc0_1; have a4 := zK a2; have HC1_1 := zK hc1_1; clear a2 hc1_1
 have HB := zK (Below.refl w.heap.size w)
 have H : (if a0_0 = a1_0 then (laws_sameStore.j0 k ((ac.length : Int) != (ag.length : Int)) a0_0 ac a1_0 ag) else (laws_sameStore.j0 k true a0_0 ac a1_0 ag)) = some r := h
 clear h; have HC3 := zK H; clear H
 go_enter Try.func33, Try.ntmps33
 go_upto_region 1 with (first | ((with_reducible refine gate_dst (N := 2) rfl ?_); (try (refine gate_guard (by rfl) ?_; dsimp only)); refine box_event ?hg (N := 2) ?hd (cs := #[.int .i64 a0_0, .slice ak ac.length al]) (t := 24) ?hr ?_; (case hd => rfl); (case hg => rfl); (case hr => first | (go_simp; done) | (go_simp; rfl)); intro ab hg w4 hbox hb; have aB := zK (below_step (zb HB) hb); have aC := zK (hbox); have aD := zK ((by rw [hg]; exact (below_size (zb HB)) : w.heap.size ≤ ab)); have aE := zK ((by rw [hg]; exact (below_size (zb HB)) : w.heap.size ≤ ab)); clear HB; have HB := aB; have aa := aC; have a5 := aD; have ah := aE; clear aB aC aD aE; clear hb hbox hg) | ((with_reducible refine gate_dst (N := 3) rfl ?_); (try (refine gate_guard (by rfl) ?_; dsimp only)); refine box_event ?hg (N := 3) ?hd (cs := #[.int .i64 a1_0, .slice az ag.length aA]) (t := 24) ?hr ?_; (case hd => rfl); (case hg => rfl); (case hr => first | (go_simp; done) | (go_simp; rfl)); intro ae hg w5 hbox hb; have aB := zK (blk_below (g := ab) (o := .cells #[.int .i64 a0_0, .slice ak ac.length al] 24 (0, 0)) (zk aa) hb); have aC := zK (below_step (zb HB) hb); have aD := zK (hbox); have aE := zK ((by rw [hg]; exact (below_size (zb HB)) : w.heap.size ≤ ae)); have a6 := zK ((by rw [hg]; exact (below_size (zb HB)) : w.heap.size ≤ ae)); have a7 := zK ((by rw [hg]; exact Nat.ne_of_lt (blk_lt (g := ab) (o := .cells #[.int .i64 a0_0, .slice ak ac.length al] 24 (0, 0)) (zk aa)) : ab ≠ ae)); have a8 := zK ((by rw [hg]; exact Nat.ne_of_gt (blk_lt (g := ab) (o := .cells #[.int .i64 a0_0, .slice ak ac.length al] 24 (0, 0)) (zk aa)) : ae ≠ ab)); clear aa; clear HB; have aa := aB; have HB := aC; have af := aD; have a9 := aE; have au := a6; have ai := a7; have aj := a8; clear aB aC aD aE a6 a7 a8; clear hb hbox hg))
 repeat (go_quiet (first | ((with_reducible refine gate_dst (N := 2) rfl ?_); (try (refine gate_guard (by rfl) ?_; dsimp only)); refine box_event ?hg (N := 2) ?hd (cs := #[.int .i64 a0_0, .slice ak ac.length al]) (t := 24) ?hr ?_; (case hd => rfl); (case hg => rfl); (case hr => first | (go_simp; done) | (go_simp; rfl)); intro ab hg w4 hbox hb; have aB := zK (below_step (zb HB) hb); have aC := zK (hbox); have aD := zK ((by rw [hg]; exact (below_size (zb HB)) : w.heap.size ≤ ab)); have aE := zK ((by rw [hg]; exact (below_size (zb HB)) : w.heap.size ≤ ab)); clear HB; have HB := aB; have aa := aC; have a5 := aD; have ah := aE; clear aB aC aD aE; clear hb hbox hg) | ((with_reducible refine gate_dst (N := 3) rfl ?_); (try (refine gate_guard (by rfl) ?_; dsimp only)); refine box_event ?hg (N := 3) ?hd (cs := #[.int .i64 a1_0, .slice az ag.length aA]) (t := 24) ?hr ?_; (case hd => rfl); (case hg => rfl); (case hr => first | (go_simp; done) | (go_simp; rfl)); intro ae hg w5 hbox hb; have aB := zK (blk_below (g := ab) (o := .cells #[.int .i64 a0_0, .slice ak ac.length al] 24 (0, 0)) (zk aa) hb); have aC := zK (below_step (zb HB) hb); have aD := zK (hbox); have aE := zK ((by rw [hg]; exact (below_size (zb HB)) : w.heap.size ≤ ae)); have a6 := zK ((by rw [hg]; exact (below_size (zb HB)) : w.heap.size ≤ ae)); have a7 := zK ((by rw [hg]; exact Nat.ne_of_lt (blk_lt (g := ab) (o := .cells #[.int .i64 a0_0, .slice ak ac.length al] 24 (0, 0)) (zk aa)) : ab ≠ ae)); have a8 := zK ((by rw [hg]; exact Nat.ne_of_gt (blk_lt (g := ab) (o := .cells #[.int .i64 a0_0, .slice ak ac.length al] 24 (0, 0)) (zk aa)) : ae ≠ ab)); clear aa; clear HB; have aa := aB; have HB := aC; have af := aD; have a9 := aE; have au := a6; have ai := a7; have aj := a8; clear aB aC aD aE a6 a7 a8; clear hb hbox hg)); go_upto_region 1 with (first | ((with_reducible refine gate_dst (N := 2) rfl ?_); (try (refine gate_guard (by rfl) ?_; dsimp only)); refine box_event ?hg (N := 2) ?hd (cs := #[.int .i64 a0_0, .slice ak ac.length al]) (t := 24) ?hr ?_; (case hd => rfl); (case hg => rfl); (case hr => first | (go_simp; done) | (go_simp; rfl)); intro ab hg w4 hbox hb; have aB := zK (below_step (zb HB) hb); have aC := zK (hbox); have aD := zK ((by rw [hg]; exact (below_size (zb HB)) : w.heap.size ≤ ab)); have aE := zK ((by rw [hg]; exact (below_size (zb HB)) : w.heap.size ≤ ab)); clear HB; have HB := aB; have aa := aC; have a5 := aD; have ah := aE; clear aB aC aD aE; clear hb hbox hg) | ((with_reducible refine gate_dst (N := 3) rfl ?_); (try (refine gate_guard (by rfl) ?_; dsimp only)); refine box_event ?hg (N := 3) ?hd (cs := #[.int .i64 a1_0, .slice az ag.length aA]) (t := 24) ?hr ?_; (case hd => rfl); (case hg => rfl); (case hr => first | (go_simp; done) | (go_simp; rfl)); intro ae hg w5 hbox hb; have aB := zK (blk_below (g := ab) (o := .cells #[.int .i64 a0_0, .slice ak ac.length al] 24 (0, 0)) (zk aa) hb); have aC := zK (below_step (zb HB) hb); have aD := zK (hbox); have aE := zK ((by rw [hg]; exact (below_size (zb HB)) : w.heap.size ≤ ae)); have a6 := zK ((by rw [hg]; exact (below_size (zb HB)) : w.heap.size ≤ ae)); have a7 := zK ((by rw [hg]; exact Nat.ne_of_lt (blk_lt (g := ab) (o := .cells #[.int .i64 a0_0, .slice ak ac.length al] 24 (0, 0)) (zk aa)) : ab ≠ ae)); have a8 := zK ((by rw [hg]; exact Nat.ne_of_gt (blk_lt (g := ab) (o := .cells #[.int .i64 a0_0, .slice ak ac.length al] 24 (0, 0)) (zk aa)) : ae ≠ ab)); clear aa; clear HB; have aa := aB; have HB := aC; have af := aD; have a9 := aE; have au := a6; have ai := a7; have aj := a8; clear aB aC aD aE a6 a7 a8; clear hb hbox hg)))
 (try simp only [Act.put, zp, zq, zr])
 go_cut [19] (fun v19 wc => ∃ (kq : Nat) (aK : Bool), v19 = .bool aK ∧ Aside0 (laws_sameStore.j0 kq aK a0_0 ac a1_0 ag = some r) ∧ Aside0 (kq ≤ k) ∧ Aside0 (wc.heap[ab]? = some (.cells #[.int .i64 a0_0, (.slice ak ac.length al)] 24 (0, 0))) ∧ Aside0 (wc.heap[ae]? = some (.cells #[.int .i64 a1_0, (.slice az ag.length aA)] 24 (0, 0))) ∧ Aside0 (Below w.heap.size w wc))
 case first =>
  have H := HC3.out; clear HC3
  by_cases c6 : a0_0 = a1_0
  ·rw [if_pos c6] at H
   have aF : (a0_0 == a1_0) = true := beq_iff_eq.mpr c6
   have ba : (a0_0 != a1_0) = false := bne_eq_false_iff_eq.mpr c6
   clear c6
   (first | rw [aF] | (simp only [i64_w, i32_w]; rw [aF]) | skip)
   have H' := zK H; clear H; have hnb7 := ai.out; have hnc7 := aj.out
   have aT : w5.cell? ⟨ab, 0, none⟩ = some (.int .i64 a0_0) := (blk_cell aa.out 0).trans rfl
   have aU : w5.cell? ⟨ab, 1, none⟩ = some (.slice ak ac.length al) := (blk_cell aa.out 1).trans rfl
   have aV := blk_frozen aa.out 0; have aW := blk_frozen aa.out 1
   have aX : w5.cell? ⟨ae, 0, none⟩ = some (.int .i64 a1_0) := (blk_cell af.out 0).trans rfl
   have aY : w5.cell? ⟨ae, 1, none⟩ = some (.slice az ag.length aA) := (blk_cell af.out 1).trans rfl
   have aZ := blk_frozen af.out 0; have a0 := blk_frozen af.out 1
   go_wp2
   repeat (go_quiet (fail); try go_wp2)
   go_meet
   case rel => exact ⟨_, (((ac.length : Int) != (ag.length : Int))), (by first | rfl | (simp; done) | (simp [*]; done)), H', ⟨by first | omega | exact Nat.le_refl _⟩, ⟨zk aa⟩, ⟨zk af⟩, ⟨zb HB⟩⟩
  ·rw [if_neg c6] at H
   have aF : (a0_0 == a1_0) = false := beq_eq_false_iff_ne.mpr c6
   have ba : (a0_0 != a1_0) = true := bne_iff_ne.mpr c6
   (first | rw [aF] | (simp only [i64_w, i32_w]; rw [aF]) | skip)
   have H' := zK H; clear H; have hnb10 := ai.out; have hnc10 := aj.out
   have aL : w5.cell? ⟨ab, 0, none⟩ = some (.int .i64 a0_0) := (blk_cell aa.out 0).trans rfl
   have aM : w5.cell? ⟨ab, 1, none⟩ = some (.slice ak ac.length al) := (blk_cell aa.out 1).trans rfl
   have aN := blk_frozen aa.out 0; have aO := blk_frozen aa.out 1
   have aP : w5.cell? ⟨ae, 0, none⟩ = some (.int .i64 a1_0) := (blk_cell af.out 0).trans rfl
   have aQ : w5.cell? ⟨ae, 1, none⟩ = some (.slice az ag.length aA) := (blk_cell af.out 1).trans rfl
   have aR := blk_frozen af.out 0; have aS := blk_frozen af.out 1
   go_wp2
   repeat (go_quiet (fail); try go_wp2)
   go_meet
   case rel => exact ⟨_, (true), (by first | rfl | (simp; done) | (simp [*]; done)), H', ⟨by first | omega | exact Nat.le_refl _⟩, ⟨zk aa⟩, ⟨zk af⟩, ⟨zb HB⟩⟩
 case rest =>
  clear HC3
  try clear c1
  try clear p2
  try clear c3
  try clear c6
  try clear aF
  try clear ba
  try clear c7
  try clear c10
  try clear aL
  try clear aM
  try clear aP
  try clear aQ
  try clear aT
  try clear aU
  try clear aX
  try clear aY
  try clear aN
  try clear aO
  try clear aR
  try clear aS
  try clear aV
  try clear aW
  try clear aZ
  try clear a0
  obtain ⟨kq, aK, rfl, HA, HJ2, aa, af, HB⟩ := hcut
  cases kq with
  | zero => exact absurd HA.out (by simp [laws_sameStore.j0])
  | succ kj2 =>
   have H := HA.out; clear HA
   simp only [laws_sameStore.j0] at H
   by_cases bj : aK = true
   ·subst bj
    have H1 : (some false) = some r := by rw [if_pos rfl] at H; exact H
    clear H; have H := H1; clear H1; obtain rfl := Option.some.inj H
    go_wp2
    repeat (go_quiet (fail); try go_wp2)
    go_ret
    exact ⟨by first | rfl | (simp [errW_none, errW_some] <;> rfl) | (simp [*, errW_none, errW_some] <;> rfl), by repeat (first | (with_reducible first | exact HB.out | apply zB | apply zC | apply zE | refine zS ?_ ah.out | refine zS ?_ au.out) | exact HB.out)⟩
   ·replace bj := Bool.eq_false_iff.mpr bj
    subst bj
    have H1 : (laws_sameStore.l0 kj2 0 a0_0 ac a1_0 ag) = some r := by rw [if_neg (show ¬ (false = true) by decide)] at H; exact H
    clear H; have H := H1; clear H1; have H' := zK H; clear H
    go_wp2
    repeat (go_quiet (fail); try go_wp2)
    go_loopg [5] kj2 (fun kq v5 w' => ∃ (ad : Int), v5 = .int .i64 ad ∧ Aside0 (laws_sameStore.l0 kq ad a0_0 ac a1_0 ag = some r) ∧ Aside0 (kq ≤ kj2) ∧ Aside0 (w'.heap[ab]? = some (.cells #[.int .i64 a0_0, (.slice ak ac.length al)] 24 (0, 0))) ∧ Aside0 (w'.heap[ae]? = some (.cells #[.int .i64 a1_0, (.slice az ag.length aA)] 24 (0, 0))) ∧ Aside0 (Below w.heap.size w w'))
    case atStart => exact ⟨(0), (by first | rfl | (simp; done) | (simp [*]; done)), H', ⟨Nat.le_refl _⟩, ⟨zk aa⟩, ⟨zk af⟩, ⟨zb HB⟩⟩
    case round =>
     clear H'
     try clear c1
     try clear p2
     try clear c3
     try clear c6
     try clear aF
     try clear ba
     try clear c7
     try clear c10
     try clear bj
     try clear aL
     try clear aM
     try clear aP
     try clear aQ
     try clear aT
     try clear aU
     try clear aX
     try clear aY
     try clear aN
     try clear aO
     try clear aR
     try clear aS
     try clear aV
     try clear aW
     try clear aZ
     try clear a0
     try clear p2
     obtain ⟨ad, rfl, HA, HK2, aa, af, HB⟩ := hrel
     cases gk with
     | zero => exact absurd HA.out (by simp [laws_sameStore.l0])
     | succ k2 =>
      have H := HA.out; clear HA
      simp only [laws_sameStore.l0] at H
      by_cases bh : ad < (ac.length : Int)
      ·rw [if_pos bh] at H
       have bk : decide (ad < (ac.length : Int)) = true := decide_eq_true bh
       clear bh
       by_cases c15 : 0 ≤ ad
       ·rw [if_pos c15] at H
        have c15b0 : decide (0 ≤ ad) = true := decide_eq_true c15
        clear c15
        by_cases c16 : ad < (ag.length : Int)
        ·rw [if_pos c16] at H
         have c16b0 : decide (ad < (ag.length : Int)) = true := decide_eq_true c16
         clear c16; replace H := Option.bind_eq_some_iff.mp H
         obtain ⟨bl, bm, H⟩ := H
         replace H : (if bl = true then (laws_sameStore.l0 k2 (wrap64 (ad + 1)) a0_0 ac a1_0 ag) else (some false)) = some r := H
         have bi := zK bm; clear bm
         by_cases c18 : bl = true
         ·subst c18
          have H1 : (laws_sameStore.l0 k2 (wrap64 (ad + 1)) a0_0 ac a1_0 ag) = some r := by rw [if_pos rfl] at H; exact H
          clear H; have H := H1; clear H1; have H' := zK H; clear H; have hnb19 := ai.out; have hnc19 := aj.out
          have hcz20_0 : wr.cell? ⟨ab, 0, none⟩ = some (.int .i64 a0_0) := (blk_cell aa.out 0).trans rfl
          have hcz20_1 : wr.cell? ⟨ab, 1, none⟩ = some (.slice ak ac.length al) := (blk_cell aa.out 1).trans rfl
          have hfz20_0 := blk_frozen aa.out 0; have hfz20_1 := blk_frozen aa.out 1
          have aG : 0 ≤ (ad : Int) := zd
          have aH : ad < (ac.length : Int) := zd
          obtain ⟨bn, bb, bc, bd, am, av, aw⟩ := at_L2 a3.out ad aG aH
          cases bd
          replace am := (HB.out.cell (World.block_lt_of_cell? w _ am)).trans am
          have an := zK aw; have ao := zK av; clear aw av; replace aG := eq_true aG; replace aH := eq_true aH
          have hcz21_0 : wr.cell? ⟨ae, 0, none⟩ = some (.int .i64 a1_0) := (blk_cell af.out 0).trans rfl
          have hcz21_1 : wr.cell? ⟨ae, 1, none⟩ = some (.slice az ag.length aA) := (blk_cell af.out 1).trans rfl
          have hfz21_0 := blk_frozen af.out 0; have hfz21_1 := blk_frozen af.out 1
          have aI : 0 ≤ (ad : Int) := zd
          have aJ : ad < (ag.length : Int) := zd
          obtain ⟨bo, be, bf, bg, ap, ax, ay⟩ := at_L2 a4.out ad aI aJ
          cases bg
          replace ap := (HB.out.cell (World.block_lt_of_cell? w _ ap)).trans ap
          have aq := zK ay; have ar := zK ax; clear ay ax; replace aI := eq_true aI; replace aJ := eq_true aJ
          go_wp2_with (first | (go_at_call 71; (with_reducible refine (laws_sameKept.calls k2 _ _ (rd_L2 ac ad) _ _ (rd_L2 ag ad) true _ ?side1 ?side2 ?side3 ?side4 bi.out).mono ?_); (case side1 => repeat (first | exact (Kd.C_below an.out HB.out) | (with_reducible refine Kd.C_alloc ?_ _) | (with_reducible refine Kd.C_drewN ?_ _) | (with_reducible refine Kd.C_drew ?_))); (case side2 => exact ao.out); (case side3 => repeat (first | exact (Kd.C_below aq.out HB.out) | (with_reducible refine Kd.C_alloc ?_ _) | (with_reducible refine Kd.C_drewN ?_ _) | (with_reducible refine Kd.C_drew ?_))); (case side4 => exact ar.out); rintro e w' ⟨rfl, ⟨nd, rfl⟩⟩; (try first | exact ⟨rfl, _, World.drewN_drewN _ _ _⟩ | exact ⟨rfl, _, Eq.trans (World.drewN_drewN _ _ _) (congrArg (World.drewN _) (Nat.add_assoc _ _ _))⟩)))
          repeat (go_quiet (first | (go_at_call 71; (with_reducible refine (laws_sameKept.calls k2 _ _ (rd_L2 ac ad) _ _ (rd_L2 ag ad) true _ ?side1 ?side2 ?side3 ?side4 bi.out).mono ?_); (case side1 => repeat (first | exact (Kd.C_below an.out HB.out) | (with_reducible refine Kd.C_alloc ?_ _) | (with_reducible refine Kd.C_drewN ?_ _) | (with_reducible refine Kd.C_drew ?_))); (case side2 => exact ao.out); (case side3 => repeat (first | exact (Kd.C_below aq.out HB.out) | (with_reducible refine Kd.C_alloc ?_ _) | (with_reducible refine Kd.C_drewN ?_ _) | (with_reducible refine Kd.C_drew ?_))); (case side4 => exact ar.out); rintro e w' ⟨rfl, ⟨nd, rfl⟩⟩; (try first | exact ⟨rfl, _, World.drewN_drewN _ _ _⟩ | exact ⟨rfl, _, Eq.trans (World.drewN_drewN _ _ _) (congrArg (World.drewN _) (Nat.add_assoc _ _ _))⟩))); try go_wp2_with (first | (go_at_call 71; (with_reducible refine (laws_sameKept.calls k2 _ _ (rd_L2 ac ad) _ _ (rd_L2 ag ad) true _ ?side1 ?side2 ?side3 ?side4 bi.out).mono ?_); (case side1 => repeat (first | exact (Kd.C_below an.out HB.out) | (with_reducible refine Kd.C_alloc ?_ _) | (with_reducible refine Kd.C_drewN ?_ _) | (with_reducible refine Kd.C_drew ?_))); (case side2 => exact ao.out); (case side3 => repeat (first | exact (Kd.C_below aq.out HB.out) | (with_reducible refine Kd.C_alloc ?_ _) | (with_reducible refine Kd.C_drewN ?_ _) | (with_reducible refine Kd.C_drew ?_))); (case side4 => exact ar.out); rintro e w' ⟨rfl, ⟨nd, rfl⟩⟩; (try first | exact ⟨rfl, _, World.drewN_drewN _ _ _⟩ | exact ⟨rfl, _, Eq.trans (World.drewN_drewN _ _ _) (congrArg (World.drewN _) (Nat.add_assoc _ _ _))⟩))))
          go_roundg k2
          case measure => have := HJ2.out; have := HK2.out; omega
          case rel => exact ⟨(wrap64 (ad + 1)), (by first | rfl | (simp; done) | (simp [*]; done)), H', ⟨by have := HJ2.out; have := HK2.out; omega⟩, ⟨zk aa⟩, ⟨zk af⟩, ⟨zb HB⟩⟩
         ·replace c18 := Bool.eq_false_iff.mpr c18
          subst c18
          have H1 : (some false) = some r := by rw [if_neg (show ¬ (false = true) by decide)] at H; exact H
          clear H; have H := H1; clear H1; obtain rfl := Option.some.inj H; have hnb22 := ai.out; have hnc22 := aj.out
          have hcz23_0 : wr.cell? ⟨ab, 0, none⟩ = some (.int .i64 a0_0) := (blk_cell aa.out 0).trans rfl
          have hcz23_1 : wr.cell? ⟨ab, 1, none⟩ = some (.slice ak ac.length al) := (blk_cell aa.out 1).trans rfl
          have hfz23_0 := blk_frozen aa.out 0; have hfz23_1 := blk_frozen aa.out 1
          have aG : 0 ≤ (ad : Int) := zd
          have aH : ad < (ac.length : Int) := zd
          obtain ⟨bn, bb, bc, bd, am, av, aw⟩ := at_L2 a3.out ad aG aH
          cases bd
          replace am := (HB.out.cell (World.block_lt_of_cell? w _ am)).trans am
          have an := zK aw; have ao := zK av; clear aw av; replace aG := eq_true aG; replace aH := eq_true aH
          have hcz24_0 : wr.cell? ⟨ae, 0, none⟩ = some (.int .i64 a1_0) := (blk_cell af.out 0).trans rfl
          have hcz24_1 : wr.cell? ⟨ae, 1, none⟩ = some (.slice az ag.length aA) := (blk_cell af.out 1).trans rfl
          have hfz24_0 := blk_frozen af.out 0; have hfz24_1 := blk_frozen af.out 1
          have aI : 0 ≤ (ad : Int) := zd
          have aJ : ad < (ag.length : Int) := zd
          obtain ⟨bo, be, bf, bg, ap, ax, ay⟩ := at_L2 a4.out ad aI aJ
          cases bg
          replace ap := (HB.out.cell (World.block_lt_of_cell? w _ ap)).trans ap
          have aq := zK ay; have ar := zK ax; clear ay ax; replace aI := eq_true aI; replace aJ := eq_true aJ
          go_wp2_with (first | (go_at_call 71; (with_reducible refine (laws_sameKept.calls k2 _ _ (rd_L2 ac ad) _ _ (rd_L2 ag ad) false _ ?side1 ?side2 ?side3 ?side4 bi.out).mono ?_); (case side1 => repeat (first | exact (Kd.C_below an.out HB.out) | (with_reducible refine Kd.C_alloc ?_ _) | (with_reducible refine Kd.C_drewN ?_ _) | (with_reducible refine Kd.C_drew ?_))); (case side2 => exact ao.out); (case side3 => repeat (first | exact (Kd.C_below aq.out HB.out) | (with_reducible refine Kd.C_alloc ?_ _) | (with_reducible refine Kd.C_drewN ?_ _) | (with_reducible refine Kd.C_drew ?_))); (case side4 => exact ar.out); rintro e w' ⟨rfl, ⟨nd, rfl⟩⟩; (try first | exact ⟨rfl, _, World.drewN_drewN _ _ _⟩ | exact ⟨rfl, _, Eq.trans (World.drewN_drewN _ _ _) (congrArg (World.drewN _) (Nat.add_assoc _ _ _))⟩)))
          repeat (go_quiet (first | (go_at_call 71; (with_reducible refine (laws_sameKept.calls k2 _ _ (rd_L2 ac ad) _ _ (rd_L2 ag ad) false _ ?side1 ?side2 ?side3 ?side4 bi.out).mono ?_); (case side1 => repeat (first | exact (Kd.C_below an.out HB.out) | (with_reducible refine Kd.C_alloc ?_ _) | (with_reducible refine Kd.C_drewN ?_ _) | (with_reducible refine Kd.C_drew ?_))); (case side2 => exact ao.out); (case side3 => repeat (first | exact (Kd.C_below aq.out HB.out) | (with_reducible refine Kd.C_alloc ?_ _) | (with_reducible refine Kd.C_drewN ?_ _) | (with_reducible refine Kd.C_drew ?_))); (case side4 => exact ar.out); rintro e w' ⟨rfl, ⟨nd, rfl⟩⟩; (try first | exact ⟨rfl, _, World.drewN_drewN _ _ _⟩ | exact ⟨rfl, _, Eq.trans (World.drewN_drewN _ _ _) (congrArg (World.drewN _) (Nat.add_assoc _ _ _))⟩))); try go_wp2_with (first | (go_at_call 71; (with_reducible refine (laws_sameKept.calls k2 _ _ (rd_L2 ac ad) _ _ (rd_L2 ag ad) false _ ?side1 ?side2 ?side3 ?side4 bi.out).mono ?_); (case side1 => repeat (first | exact (Kd.C_below an.out HB.out) | (with_reducible refine Kd.C_alloc ?_ _) | (with_reducible refine Kd.C_drewN ?_ _) | (with_reducible refine Kd.C_drew ?_))); (case side2 => exact ao.out); (case side3 => repeat (first | exact (Kd.C_below aq.out HB.out) | (with_reducible refine Kd.C_alloc ?_ _) | (with_reducible refine Kd.C_drewN ?_ _) | (with_reducible refine Kd.C_drew ?_))); (case side4 => exact ar.out); rintro e w' ⟨rfl, ⟨nd, rfl⟩⟩; (try first | exact ⟨rfl, _, World.drewN_drewN _ _ _⟩ | exact ⟨rfl, _, Eq.trans (World.drewN_drewN _ _ _) (congrArg (World.drewN _) (Nat.add_assoc _ _ _))⟩))))
          go_ret
          exact ⟨by first | rfl | (simp [errW_none, errW_some] <;> rfl) | (simp [*, errW_none, errW_some] <;> rfl), by repeat (first | (with_reducible first | exact HB.out | apply zB | apply zC | apply zE | refine zS ?_ ah.out | refine zS ?_ au.out) | exact HB.out)⟩
        ·rw [if_neg c16] at H
         exact absurd H (by simp)
       ·rw [if_neg c15] at H
        exact absurd H (by simp)
      ·rw [if_neg bh] at H
       have bk : decide (ad < (ac.length : Int)) = false := decide_eq_false bh
       clear bh; obtain rfl := Option.some.inj H; have hnb25 := ai.out; have hnc25 := aj.out
       have hcz26_0 : wr.cell? ⟨ab, 0, none⟩ = some (.int .i64 a0_0) := (blk_cell aa.out 0).trans rfl
       have hcz26_1 : wr.cell? ⟨ab, 1, none⟩ = some (.slice ak ac.length al) := (blk_cell aa.out 1).trans rfl
       have hfz26_0 := blk_frozen aa.out 0; have hfz26_1 := blk_frozen aa.out 1
       go_wp2
       repeat (go_quiet (fail); try go_wp2)
       go_ret
       exact ⟨by first | rfl | (simp [errW_none, errW_some] <;> rfl) | (simp [*, errW_none, errW_some] <;> rfl), by repeat (first | (with_reducible first | exact HB.out | apply zB | apply zC | apply zE | refine zS ?_ ah.out | refine zS ?_ au.out) | exact HB.out)⟩
end Go.Proofs.Ytheckjlldkkceaa.Px
