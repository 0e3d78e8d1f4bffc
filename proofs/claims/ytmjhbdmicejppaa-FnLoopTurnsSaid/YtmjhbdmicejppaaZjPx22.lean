import Derived.Test.YtmjhbdmicejppaaZjPx0
import Derived.Test.YtmjhbdmicejppaaZjPx1
import Derived.Test.YtmjhbdmicejppaaZjPx2
import Derived.Test.YtmjhbdmicejppaaZjPx9
import Derived.Test.YtmjhbdmicejppaaZjPx10
import Derived.Test.YtmjhbdmicejppaaZjPx15
import Derived.Test.YtmjhbdmicejppaaZjPx20
import Derived.Test.YtmjhbdmicejppaaZjPx21
namespace Go.Proofs.Ytmjhbdmicejppaa.Px
open Go.RowKit Go.Proofs.YtmjhbdmicejppaaW.PrintWords Go.Proofs.YtmjhbdmicejppaaW.PrintLast Go.Proofs.YtmjhbdmicejppaaW.PrintMore
attribute [local go_sem] max2_int min2_int max_two min_two max_three min_three max_four min_four   
set_option linter.unusedVariables false
set_option linter.unusedSimpArgs false
mutual
def laws_FnLoopTurns.j0 : Nat → Int → Int → Int → Bool → List Int → Int → List (S69) → List (S74) → Option (Bool)
 | 0, _, _, _, _, _, _, _, _ => none
 | k + 1, x1, x2, x7, x39, x524000, x524001, x524002, x524003 => if x39 = true then (some true) else ((impl_TurnLoop.f k x524000 x524001 x524002 x524003 x1).bind fun bt525 => ((impl_TurnLoop.f k x524000 x524001 x524002 x524003 x7).bind fun bt536 => ((impl_TurnLoop.f k x524000 x524001 x524002 x524003 (wrap64 (x7 + x1))).bind fun bt547 => ((impl_LoopOk.f k x524000 x524001 x524002 x524003).bind fun t558 => (if t558 = true then ((impl_LoopOk.f k bt525.1 bt525.2.1 bt525.2.2.1 bt525.2.2.2).bind fun t559 => (if t559 = true then ((spec_TurnLoop.f k x524000 x524001 x524002 x524003 x1).bind fun bt560 => ((laws_sameLoop.f k bt525.1 bt525.2.1 bt525.2.2.1 bt525.2.2.2 bt560.1 bt560.2.1 bt560.2.2.1 bt560.2.2.2).bind fun t570 => (if t570 = true then ((impl_TurnLoop.f k bt525.1 bt525.2.1 bt525.2.2.1 bt525.2.2.2 x2).bind fun bt571 => ((impl_TurnLoop.f k x524000 x524001 x524002 x524003 (wrap64 (x1 + x2))).bind fun bt581 => ((laws_sameLoop.f k bt571.1 bt571.2.1 bt571.2.2.1 bt571.2.2.2 bt581.1 bt581.2.1 bt581.2.2.1 bt581.2.2.2).bind fun t591 => (if t591 = true then ((laws_sameInts.f k bt536.1 bt547.1).bind fun t592 => (if t592 = true then ((laws_aboard.f k bt525.1 bt525.2.1 bt525.2.2.1 bt525.2.2.2).bind fun t593 => ((laws_aboard.f k x524000 x524001 x524002 x524003).bind fun t594 => (if t593 = t594 then ((laws_aboard.f k bt547.1 bt547.2.1 bt547.2.2.1 bt547.2.2.2).bind fun t595 => ((laws_aboard.f k x524000 x524001 x524002 x524003).bind fun t596 => (laws_FnLoopTurns.j1 k (t595 != t596) x524000 x524001 x524002 x524003 bt536.1 bt536.2.1 bt536.2.2.1 bt536.2.2.2))) else (laws_FnLoopTurns.j1 k true x524000 x524001 x524002 x524003 bt536.1 bt536.2.1 bt536.2.2.1 bt536.2.2.2)))) else (laws_FnLoopTurns.j1 k true x524000 x524001 x524002 x524003 bt536.1 bt536.2.1 bt536.2.2.1 bt536.2.2.2))) else (laws_FnLoopTurns.j1 k true x524000 x524001 x524002 x524003 bt536.1 bt536.2.1 bt536.2.2.1 bt536.2.2.2))))) else (laws_FnLoopTurns.j1 k true x524000 x524001 x524002 x524003 bt536.1 bt536.2.1 bt536.2.2.1 bt536.2.2.2)))) else (laws_FnLoopTurns.j1 k true x524000 x524001 x524002 x524003 bt536.1 bt536.2.1 bt536.2.2.1 bt536.2.2.2))) else (laws_FnLoopTurns.j1 k true x524000 x524001 x524002 x524003 bt536.1 bt536.2.1 bt536.2.2.1 bt536.2.2.2))))))
def laws_FnLoopTurns.j1 : Nat → Bool → List Int → Int → List (S69) → List (S74) → List Int → Int → List (S69) → List (S74) → Option (Bool)
 | 0, _, _, _, _, _, _, _, _, _ => none
 | k + 1, x100, x524000, x524001, x524002, x524003, x547000, x547001, x547002, x547003 => if x100 = true then (some false) else ((impl_Stuck.f k x524000 x524001 x524002 x524003).bind fun t597 => ((spec_Stuck.f k x524000 x524001 x524002 x524003).bind fun t600 => ((laws_sameInts.f k t597 t600).bind fun t603 => (if t603 = true then (laws_FnLoopTurns.l0 k t597 0 0 x547000 x547001 x547002 x547003) else (some false)))))
def laws_FnLoopTurns.l0 : Nat → List Int → Int → Int → List Int → Int → List (S69) → List (S74) → Option (Bool)
 | 0, _, _, _, _, _, _, _ => none
 | k + 1, x11, x12, x13, x547000, x547001, x547002, x547003 => if x13 < (x547000.length : Int) then (if 0 ≤ x13 then (if (rd x547000 x13) = 0 then (laws_FnLoopTurns.l0 k x11 x12 (wrap64 (x13 + 1)) x547000 x547001 x547002 x547003) else (if x12 ≥ (x11.length : Int) then (some false) else (if 0 ≤ x12 then (if x12 < (x11.length : Int) then (if (rd x11 x12) = (rd x547000 x13) then (laws_FnLoopTurns.l0 k x11 (wrap64 (x12 + 1)) (wrap64 (x13 + 1)) x547000 x547001 x547002 x547003) else (some false)) else (none)) else (none)))) else (none)) else (some (x12 == (x11.length : Int)))
end
def laws_FnLoopTurns.f (k : Nat) (l0_0 : List Int) (a0_1 : Int) (l0_2 : List (S69)) (l0_3 : List (S74)) (a1 : Int) (a2 : Int) : Option (Bool) := (spec_LoopOk.f k l0_0 a0_1 l0_2 l0_3).bind fun t524 => (if t524 = true then (if a1 < 0 then (laws_FnLoopTurns.j0 k a1 a2 (l0_0.length : Int) true l0_0 a0_1 l0_2 l0_3) else (if a1 > (wrap64 (600 - (l0_0.length : Int))) then (laws_FnLoopTurns.j0 k a1 a2 (l0_0.length : Int) true l0_0 a0_1 l0_2 l0_3) else (if a2 < 0 then (laws_FnLoopTurns.j0 k a1 a2 (l0_0.length : Int) true l0_0 a0_1 l0_2 l0_3) else (laws_FnLoopTurns.j0 k a1 a2 (l0_0.length : Int) (decide (a2 > (wrap64 (600 - a1)))) l0_0 a0_1 l0_2 l0_3)))) else (laws_FnLoopTurns.j0 k a1 a2 (l0_0.length : Int) true l0_0 a0_1 l0_2 l0_3))
def laws_FnLoopTurns.T7 : Bool × List (List Nat × List Nat) := (true, [([], []), ([0], [0]), ([1], [1]), ([2, 1], [2]), ([3], [3]), ([4, 3, 3], [3, 4]), ([5, 3], [3, 5]), ([3, 6], [3, 6]), ([7, 5], [7]), ([8], [8]), ([8], [8]), ([8], [8]), ([10, 11, 8, 8], [8, 10, 11]), ([9, 12, 12, 8], [8, 9, 12]), ([13, 8], [8, 13]), ([8, 14], [8, 14]), ([15, 13], [15]), ([16], [16]), ([16], [16]), ([17, 18, 16, 16], [16, 17, 18]), ([16], [16]), ([16], [16]), ([16], [16]), ([21, 22, 16], [16, 21, 22]), ([20, 23, 19, 16], [16, 20, 23]), ([19, 24, 24, 16], [16, 19, 24]), ([25, 16], [16, 25]), ([16, 26], [16, 26]), ([27, 25], [27]), ([28], [28]), ([29, 28], [28, 29]), ([28], [28]), ([31, 28], [28, 31]), ([30, 32, 28, 28], [28, 30, 32]), ([33, 28], [28, 33]), ([28, 34], [28, 34]), ([35, 33], [35]), ([36], [36]), ([37, 36, 36], [36, 37]), ([36], [36]), ([39, 38, 36], [36, 39]), ([38, 40, 36], [36, 38, 40]), ([36, 41], [36, 41]), ([42, 40], [42]), ([43], [43]), ([44, 43, 43], [43, 44]), ([43], [43]), ([46, 45, 43], [43, 46]), ([45, 47, 43], [43, 45, 47]), ([43, 48], [43, 48])])
def laws_FnLoopTurns.B7 : List Nat := [0, 1, 3, 7, 15, 31, 63, 127, 255, 511, 511, 511, 3583, 8191, 16383, 32767, 65535, 131071, 131071, 524287, 131071, 131071, 131071, 6422527, 16777215, 33554431, 67108863, 134217727, 268435455, 536870911, 1073741823, 536870911, 2684354559, 8589934591, 17179869183, 34359738367, 68719476735, 137438953471, 274877906943, 137438953471, 1099511627775, 2199023255551, 4398046511103, 8796093022207, 17592186044415, 35184372088831, 17592186044415, 140737488355327, 281474976710655, 562949953421311]
theorem laws_FnLoopTurns.tab7 : rtab .any (opsOf Try.f4 7) = laws_FnLoopTurns.T7 := by kernel_rfl
theorem laws_FnLoopTurns.bits7 : waitsOk laws_FnLoopTurns.T7.2 laws_FnLoopTurns.B7 = true := by kernel_rfl
def laws_FnLoopTurns.T17 : Bool × List (List Nat × List Nat) := (true, [([], []), ([], []), ([1], [1]), ([0, 2], [0, 2]), ([3], [3]), ([4], [4]), ([4], [4]), ([5, 6, 4], [4, 5, 6]), ([7, 4], [4, 7]), ([4], [4]), ([9, 4], [4, 9]), ([4], [4]), ([10, 11, 4], [4, 10, 11]), ([12, 4], [4, 12]), ([8, 13, 4], [4, 8, 13]), ([4, 14], [4, 14])])
def laws_FnLoopTurns.B17 : List Nat := [0, 0, 2, 7, 15, 31, 31, 127, 255, 31, 543, 31, 3615, 7711, 16383, 32767]
theorem laws_FnLoopTurns.tab17 : rtab .any (opsOf Try.f4 17) = laws_FnLoopTurns.T17 := by kernel_rfl
theorem laws_FnLoopTurns.bits17 : waitsOk laws_FnLoopTurns.T17.2 laws_FnLoopTurns.B17 = true := by kernel_rfl
set_option maxHeartbeats 8000000 in
set_option maxRecDepth 100000 in
theorem laws_FnLoopTurns.calls (k : Nat) (aQ : Option Addr) (aR : Nat) (ab : List Int) (a0_1 : Int) (aS : Option Addr) (aT : Nat) (ac : List (S69)) (aU : Option Addr) (aV : Nat) (ad : List (S74)) (a1 : Int) (a2 : Int) (r : Bool) (w : World) (dy : Kd.C (Kd.int .i64) w aQ ab.length ab) (hc0_0 : ab.length ≤ aR) (dz : Kd.C k69 w aS ac.length ac) (hc0_2 : ac.length ≤ aT) (dA : Kd.C k74 w aU ad.length ad) (hc0_3 : ad.length ≤ aV) (hrt : Aside0 (r = true)) (h : laws_FnLoopTurns.f k ab a0_1 ac ad a1 a2 = some r) :
  Calls Try.prog 4 #[.agg #[.slice aQ ab.length aR, .int .i64 a0_1, .slice aS ac.length aT, .slice aU ad.length aV], .int .i64 a1, .int .i64 a2] w fun e w' => e = .returned (.bool r) ∧ Below w.heap.size w w' := by
 have hu28 := Try.underlying28; have b1 := zK dy; have b2 := zK hc0_0; clear dy hc0_0; have b3 := zK dz; have b4 := zK hc0_2; clear dz hc0_2; have b5 := zK dA; have b6 := zK hc0_3; clear dA hc0_3
 have HB := zK (Below.refl w.heap.size w)
 have H : ((spec_LoopOk.f k ab a0_1 ac ad).bind fun dh => (if dh = true then (if a1 < 0 then (laws_FnLoopTurns.j0 k a1 a2 (ab.length : Int) true ab a0_1 ac ad) else (if a1 > (wrap64 (600 - (ab.length : Int))) then (laws_FnLoopTurns.j0 k a1 a2 (ab.length : Int) true ab a0_1 ac ad) else (if a2 < 0 then (laws_FnLoopTurns.j0 k a1 a2 (ab.length : Int) true ab a0_1 ac ad) else (laws_FnLoopTurns.j0 k a1 a2 (ab.length : Int) (decide (a2 > (wrap64 (600 - a1)))) ab a0_1 ac ad)))) else (laws_FnLoopTurns.j0 k a1 a2 (ab.length : Int) true ab a0_1 ac ad))) = some r := h
 clear h; have HC4 := zK H; clear H
 go_enter Try.func4, Try.ntmps4
 go_upto_region 2 with (first | ((with_reducible refine gate_dst (N := 3) rfl ?_); refine zX 3 #[.slice aQ ab.length aR, .int .i64 a0_1, .slice aS ac.length aT, .slice aU ad.length aV] 28 ?_; intro am hg w5 hbox hb; have bz := zK (below_step (zb HB) hb); have bA := zK (hbox); have bF := zK ((by rw [hg]; exact (below_size (zb HB)) : w.heap.size ≤ am)); have bG := zK ((by rw [hg]; exact (below_size (zb HB)) : w.heap.size ≤ am)); clear HB; have HB := bz; have aa := bA; have GW523 := bF; have aw := bG; clear bz bA bF bG; clear hb hbox hg; have dD : w5.cell? ⟨am, 0, none⟩ = some (.slice aQ ab.length aR) := (blk_cell aa.out 0).trans rfl; have dE : w5.cell? ⟨am, 1, none⟩ = some (.int .i64 a0_1) := (blk_cell aa.out 1).trans rfl; have dF : w5.cell? ⟨am, 2, none⟩ = some (.slice aS ac.length aT) := (blk_cell aa.out 2).trans rfl; have dG : w5.cell? ⟨am, 3, none⟩ = some (.slice aU ad.length aV) := (blk_cell aa.out 3).trans rfl; have dH := blk_frozen aa.out 0; have dI := blk_frozen aa.out 1; have dJ := blk_frozen aa.out 2; have dK := blk_frozen aa.out 3))
 (try simp only [Act.put, zp, zq, zr])
 go_cut [39] (fun v39 wc => ∃ (kq : Nat) (cA : Bool), v39 = .bool cA ∧ Aside0 (laws_FnLoopTurns.j0 kq a1 a2 (ab.length : Int) cA ab a0_1 ac ad = some r) ∧ Aside0 (kq ≤ k) ∧ Aside0 (wc.heap[am]? = some (.cells #[(.slice aQ ab.length aR), .int .i64 a0_1, (.slice aS ac.length aT), (.slice aU ad.length aV)] 28 (0, 0))) ∧ Aside0 (Below w.heap.size w wc))
 case first =>
  have H := HC4.out; clear HC4; replace H := Option.bind_eq_some_iff.mp H
  obtain ⟨dh, A70, H⟩ := H
  replace H : (if dh = true then (if a1 < 0 then (laws_FnLoopTurns.j0 k a1 a2 (ab.length : Int) true ab a0_1 ac ad) else (if a1 > (wrap64 (600 - (ab.length : Int))) then (laws_FnLoopTurns.j0 k a1 a2 (ab.length : Int) true ab a0_1 ac ad) else (if a2 < 0 then (laws_FnLoopTurns.j0 k a1 a2 (ab.length : Int) true ab a0_1 ac ad) else (laws_FnLoopTurns.j0 k a1 a2 (ab.length : Int) (decide (a2 > (wrap64 (600 - a1)))) ab a0_1 ac ad)))) else (laws_FnLoopTurns.j0 k a1 a2 (ab.length : Int) true ab a0_1 ac ad)) = some r := H
  have A7 := zK A70; clear A70
  by_cases c8 : dh = true
  ·subst c8
   have H1 : (if a1 < 0 then (laws_FnLoopTurns.j0 k a1 a2 (ab.length : Int) true ab a0_1 ac ad) else (if a1 > (wrap64 (600 - (ab.length : Int))) then (laws_FnLoopTurns.j0 k a1 a2 (ab.length : Int) true ab a0_1 ac ad) else (if a2 < 0 then (laws_FnLoopTurns.j0 k a1 a2 (ab.length : Int) true ab a0_1 ac ad) else (laws_FnLoopTurns.j0 k a1 a2 (ab.length : Int) (decide (a2 > (wrap64 (600 - a1)))) ab a0_1 ac ad)))) = some r := by rw [if_pos rfl] at H; exact H
   clear H; have H := H1; clear H1
   by_cases c9 : a1 < 0
   ·rw [if_pos c9] at H
    have cH : decide (a1 < 0) = true := decide_eq_true c9
    clear c9
    (first | rw [cH] | (simp only [i64_w, i32_w]; rw [cH]) | skip)
    have H' := zK H; clear H
    have hcz10_0 : w5.cell? ⟨am, 0, none⟩ = some (.slice aQ ab.length aR) := (blk_cell aa.out 0).trans rfl
    have hcz10_1 : w5.cell? ⟨am, 1, none⟩ = some (.int .i64 a0_1) := (blk_cell aa.out 1).trans rfl
    have hcz10_2 : w5.cell? ⟨am, 2, none⟩ = some (.slice aS ac.length aT) := (blk_cell aa.out 2).trans rfl
    have hcz10_3 : w5.cell? ⟨am, 3, none⟩ = some (.slice aU ad.length aV) := (blk_cell aa.out 3).trans rfl
    have hfz10_0 := blk_frozen aa.out 0; have hfz10_1 := blk_frozen aa.out 1; have hfz10_2 := blk_frozen aa.out 2; have hfz10_3 := blk_frozen aa.out 3
    go_wp2_with (first | ((with_reducible refine gate_callee (f := 23) rfl ?_); refine goesL_ (some 18) rfl rfl Try.func23 (by kernel_rfl) rfl #[.agg #[.slice aQ ab.length aR, .int .i64 a0_1, .slice aS ac.length aT, .slice aU ad.length aV]] rfl zg ?_; (with_reducible refine (spec_LoopOk.calls k _ _ ab a0_1 _ _ ac _ _ ad true _ ?side1 ?side2 ?side3 ?side4 ?side5 ?side6 A7.out).mono ?_); (case side1 => exact zs (Kd.C_below b1.out HB.out)); (case side2 => exact b2.out); (case side3 => exact zs (Kd.C_below b3.out HB.out)); (case side4 => exact b4.out); (case side5 => exact zs (Kd.C_below b5.out HB.out)); (case side6 => exact b6.out); rintro e w11 ⟨rfl, hb⟩; refine ⟨_, rfl, ?_⟩; have bz := zK (blk_below (g := am) (o := .cells #[.slice aQ ab.length aR, .int .i64 a0_1, .slice aS ac.length aT, .slice aU ad.length aV] 28 (0, 0)) (zk aa) hb); have bA := zK (below_step (zb HB) hb); clear aa; clear HB; have aa := bz; have HB := bA; clear bz bA; (try clear hb)))
    go_meet
    case rel => exact ⟨_, (true), zf, H', ⟨by first | omega | exact Nat.le_refl _⟩, ⟨zk aa⟩, ⟨zb HB⟩⟩
   ·rw [if_neg c9] at H
    have cH : decide (a1 < 0) = false := decide_eq_false c9
    clear c9
    (first | rw [cH] | (simp only [i64_w, i32_w]; rw [cH]) | skip)
    by_cases dY : a1 > (wrap64 (600 - (ab.length : Int)))
    ·rw [if_pos dY] at H
     have d0 : decide ((wrap64 (600 - (ab.length : Int))) < a1) = true := decide_eq_true dY
     clear dY; have H' := zK H; clear H
     have hcz13_0 : w5.cell? ⟨am, 0, none⟩ = some (.slice aQ ab.length aR) := (blk_cell aa.out 0).trans rfl
     have hcz13_1 : w5.cell? ⟨am, 1, none⟩ = some (.int .i64 a0_1) := (blk_cell aa.out 1).trans rfl
     have hcz13_2 : w5.cell? ⟨am, 2, none⟩ = some (.slice aS ac.length aT) := (blk_cell aa.out 2).trans rfl
     have hcz13_3 : w5.cell? ⟨am, 3, none⟩ = some (.slice aU ad.length aV) := (blk_cell aa.out 3).trans rfl
     have hfz13_0 := blk_frozen aa.out 0; have hfz13_1 := blk_frozen aa.out 1; have hfz13_2 := blk_frozen aa.out 2; have hfz13_3 := blk_frozen aa.out 3
     go_wp2_with (first | ((with_reducible refine gate_callee (f := 23) rfl ?_); refine goesL_ (some 18) rfl rfl Try.func23 (by kernel_rfl) rfl #[.agg #[.slice aQ ab.length aR, .int .i64 a0_1, .slice aS ac.length aT, .slice aU ad.length aV]] rfl zg ?_; (with_reducible refine (spec_LoopOk.calls k _ _ ab a0_1 _ _ ac _ _ ad true _ ?side1 ?side2 ?side3 ?side4 ?side5 ?side6 A7.out).mono ?_); (case side1 => exact zs (Kd.C_below b1.out HB.out)); (case side2 => exact b2.out); (case side3 => exact zs (Kd.C_below b3.out HB.out)); (case side4 => exact b4.out); (case side5 => exact zs (Kd.C_below b5.out HB.out)); (case side6 => exact b6.out); rintro e w14 ⟨rfl, hb⟩; refine ⟨_, rfl, ?_⟩; have bz := zK (blk_below (g := am) (o := .cells #[.slice aQ ab.length aR, .int .i64 a0_1, .slice aS ac.length aT, .slice aU ad.length aV] 28 (0, 0)) (zk aa) hb); have bA := zK (below_step (zb HB) hb); clear aa; clear HB; have aa := bz; have HB := bA; clear bz bA; (try clear hb)))
     go_meet
     case rel => exact ⟨_, (true), zf, H', ⟨by first | omega | exact Nat.le_refl _⟩, ⟨zk aa⟩, ⟨zb HB⟩⟩
    ·rw [if_neg dY] at H
     have d0 : decide ((wrap64 (600 - (ab.length : Int))) < a1) = false := decide_eq_false dY
     clear dY
     by_cases dZ : a2 < 0
     ·rw [if_pos dZ] at H
      have d1 : decide (a2 < 0) = true := decide_eq_true dZ
      clear dZ; have H' := zK H; clear H
      have hcz16_0 : w5.cell? ⟨am, 0, none⟩ = some (.slice aQ ab.length aR) := (blk_cell aa.out 0).trans rfl
      have hcz16_1 : w5.cell? ⟨am, 1, none⟩ = some (.int .i64 a0_1) := (blk_cell aa.out 1).trans rfl
      have hcz16_2 : w5.cell? ⟨am, 2, none⟩ = some (.slice aS ac.length aT) := (blk_cell aa.out 2).trans rfl
      have hcz16_3 : w5.cell? ⟨am, 3, none⟩ = some (.slice aU ad.length aV) := (blk_cell aa.out 3).trans rfl
      have hfz16_0 := blk_frozen aa.out 0; have hfz16_1 := blk_frozen aa.out 1; have hfz16_2 := blk_frozen aa.out 2; have hfz16_3 := blk_frozen aa.out 3
      go_wp2_with (first | ((with_reducible refine gate_callee (f := 23) rfl ?_); refine goesL_ (some 18) rfl rfl Try.func23 (by kernel_rfl) rfl #[.agg #[.slice aQ ab.length aR, .int .i64 a0_1, .slice aS ac.length aT, .slice aU ad.length aV]] rfl zg ?_; (with_reducible refine (spec_LoopOk.calls k _ _ ab a0_1 _ _ ac _ _ ad true _ ?side1 ?side2 ?side3 ?side4 ?side5 ?side6 A7.out).mono ?_); (case side1 => exact zs (Kd.C_below b1.out HB.out)); (case side2 => exact b2.out); (case side3 => exact zs (Kd.C_below b3.out HB.out)); (case side4 => exact b4.out); (case side5 => exact zs (Kd.C_below b5.out HB.out)); (case side6 => exact b6.out); rintro e w17 ⟨rfl, hb⟩; refine ⟨_, rfl, ?_⟩; have bz := zK (blk_below (g := am) (o := .cells #[.slice aQ ab.length aR, .int .i64 a0_1, .slice aS ac.length aT, .slice aU ad.length aV] 28 (0, 0)) (zk aa) hb); have bA := zK (below_step (zb HB) hb); clear aa; clear HB; have aa := bz; have HB := bA; clear bz bA; (try clear hb)))
      go_meet
      case rel => exact ⟨_, (true), zf, H', ⟨by first | omega | exact Nat.le_refl _⟩, ⟨zk aa⟩, ⟨zb HB⟩⟩
     ·rw [if_neg dZ] at H
      have d1 : decide (a2 < 0) = false := decide_eq_false dZ
      clear dZ; have H' := zK H; clear H
      have hcz18_0 : w5.cell? ⟨am, 0, none⟩ = some (.slice aQ ab.length aR) := (blk_cell aa.out 0).trans rfl
      have hcz18_1 : w5.cell? ⟨am, 1, none⟩ = some (.int .i64 a0_1) := (blk_cell aa.out 1).trans rfl
      have hcz18_2 : w5.cell? ⟨am, 2, none⟩ = some (.slice aS ac.length aT) := (blk_cell aa.out 2).trans rfl
      have hcz18_3 : w5.cell? ⟨am, 3, none⟩ = some (.slice aU ad.length aV) := (blk_cell aa.out 3).trans rfl
      have hfz18_0 := blk_frozen aa.out 0; have hfz18_1 := blk_frozen aa.out 1; have hfz18_2 := blk_frozen aa.out 2; have hfz18_3 := blk_frozen aa.out 3
      go_wp2_with (first | ((with_reducible refine gate_callee (f := 23) rfl ?_); refine goesL_ (some 18) rfl rfl Try.func23 (by kernel_rfl) rfl #[.agg #[.slice aQ ab.length aR, .int .i64 a0_1, .slice aS ac.length aT, .slice aU ad.length aV]] rfl zg ?_; (with_reducible refine (spec_LoopOk.calls k _ _ ab a0_1 _ _ ac _ _ ad true _ ?side1 ?side2 ?side3 ?side4 ?side5 ?side6 A7.out).mono ?_); (case side1 => exact zs (Kd.C_below b1.out HB.out)); (case side2 => exact b2.out); (case side3 => exact zs (Kd.C_below b3.out HB.out)); (case side4 => exact b4.out); (case side5 => exact zs (Kd.C_below b5.out HB.out)); (case side6 => exact b6.out); rintro e w19 ⟨rfl, hb⟩; refine ⟨_, rfl, ?_⟩; have bz := zK (blk_below (g := am) (o := .cells #[.slice aQ ab.length aR, .int .i64 a0_1, .slice aS ac.length aT, .slice aU ad.length aV] 28 (0, 0)) (zk aa) hb); have bA := zK (below_step (zb HB) hb); clear aa; clear HB; have aa := bz; have HB := bA; clear bz bA; (try clear hb)))
      go_meet
      case rel => exact ⟨_, (decide (a2 > (wrap64 (600 - a1)))), zf, H', ⟨by first | omega | exact Nat.le_refl _⟩, ⟨zk aa⟩, ⟨zb HB⟩⟩
  ·replace c8 := Bool.eq_false_iff.mpr c8
   subst c8
   have H1 : (laws_FnLoopTurns.j0 k a1 a2 (ab.length : Int) true ab a0_1 ac ad) = some r := by rw [if_neg (show ¬ (false = true) by decide)] at H; exact H
   clear H; have H := H1; clear H1; have H' := zK H; clear H
   have hcz20_0 : w5.cell? ⟨am, 0, none⟩ = some (.slice aQ ab.length aR) := (blk_cell aa.out 0).trans rfl
   have hcz20_1 : w5.cell? ⟨am, 1, none⟩ = some (.int .i64 a0_1) := (blk_cell aa.out 1).trans rfl
   have hcz20_2 : w5.cell? ⟨am, 2, none⟩ = some (.slice aS ac.length aT) := (blk_cell aa.out 2).trans rfl
   have hcz20_3 : w5.cell? ⟨am, 3, none⟩ = some (.slice aU ad.length aV) := (blk_cell aa.out 3).trans rfl
   have hfz20_0 := blk_frozen aa.out 0; have hfz20_1 := blk_frozen aa.out 1; have hfz20_2 := blk_frozen aa.out 2; have hfz20_3 := blk_frozen aa.out 3
   go_wp2_with (first | ((with_reducible refine gate_callee (f := 23) rfl ?_); refine goesL_ (some 18) rfl rfl Try.func23 (by kernel_rfl) rfl #[.agg #[.slice aQ ab.length aR, .int .i64 a0_1, .slice aS ac.length aT, .slice aU ad.length aV]] rfl zg ?_; (with_reducible refine (spec_LoopOk.calls k _ _ ab a0_1 _ _ ac _ _ ad false _ ?side1 ?side2 ?side3 ?side4 ?side5 ?side6 A7.out).mono ?_); (case side1 => exact zs (Kd.C_below b1.out HB.out)); (case side2 => exact b2.out); (case side3 => exact zs (Kd.C_below b3.out HB.out)); (case side4 => exact b4.out); (case side5 => exact zs (Kd.C_below b5.out HB.out)); (case side6 => exact b6.out); rintro e w21 ⟨rfl, hb⟩; refine ⟨_, rfl, ?_⟩; have bz := zK (blk_below (g := am) (o := .cells #[.slice aQ ab.length aR, .int .i64 a0_1, .slice aS ac.length aT, .slice aU ad.length aV] 28 (0, 0)) (zk aa) hb); have bA := zK (below_step (zb HB) hb); clear aa; clear HB; have aa := bz; have HB := bA; clear bz bA; (try clear hb)))
   go_meet
   case rel => exact ⟨_, (true), zf, H', ⟨by first | omega | exact Nat.le_refl _⟩, ⟨zk aa⟩, ⟨zb HB⟩⟩
 case rest =>
  clear HC4 dD dE dF dG dH dI dJ dK
  obtain ⟨kq, cA, rfl, HA, d2, aa, HB⟩ := hcut
  cases kq with
  | zero => exact absurd HA.out (by simp [laws_FnLoopTurns.j0])
  | succ kj3 =>
   have H := HA.out; clear HA
   simp only [laws_FnLoopTurns.j0] at H
   by_cases c22 : cA = true
   ·subst c22
    have H1 : (some true) = some r := by rw [if_pos rfl] at H; exact H
    clear H; have H := H1; clear H1; obtain rfl := Option.some.inj H
    go_wp2
    go_ret
    exact ⟨ze, zb HB⟩
   ·replace c22 := Bool.eq_false_iff.mpr c22
    subst c22
    have H1 : ((impl_TurnLoop.f kj3 ab a0_1 ac ad a1).bind fun bt525 => ((impl_TurnLoop.f kj3 ab a0_1 ac ad (ab.length : Int)).bind fun bt536 => ((impl_TurnLoop.f kj3 ab a0_1 ac ad (wrap64 ((ab.length : Int) + a1))).bind fun bt547 => ((impl_LoopOk.f kj3 ab a0_1 ac ad).bind fun co => (if co = true then ((impl_LoopOk.f kj3 bt525.1 bt525.2.1 bt525.2.2.1 bt525.2.2.2).bind fun ck => (if ck = true then ((spec_TurnLoop.f kj3 ab a0_1 ac ad a1).bind fun bt560 => ((laws_sameLoop.f kj3 bt525.1 bt525.2.1 bt525.2.2.1 bt525.2.2.2 bt560.1 bt560.2.1 bt560.2.2.1 bt560.2.2.2).bind fun ca => (if ca = true then ((impl_TurnLoop.f kj3 bt525.1 bt525.2.1 bt525.2.2.1 bt525.2.2.2 a2).bind fun bt571 => ((impl_TurnLoop.f kj3 ab a0_1 ac ad (wrap64 (a1 + a2))).bind fun bt581 => ((laws_sameLoop.f kj3 bt571.1 bt571.2.1 bt571.2.2.1 bt571.2.2.2 bt581.1 bt581.2.1 bt581.2.2.1 bt581.2.2.2).bind fun bV => (if bV = true then ((laws_sameInts.f kj3 bt536.1 bt547.1).bind fun bM => (if bM = true then ((laws_aboard.f kj3 bt525.1 bt525.2.1 bt525.2.2.1 bt525.2.2.2).bind fun bw => ((laws_aboard.f kj3 ab a0_1 ac ad).bind fun bu => (if bw = bu then ((laws_aboard.f kj3 bt547.1 bt547.2.1 bt547.2.2.1 bt547.2.2.2).bind fun bx => ((laws_aboard.f kj3 ab a0_1 ac ad).bind fun bv => (laws_FnLoopTurns.j1 kj3 (bx != bv) ab a0_1 ac ad bt536.1 bt536.2.1 bt536.2.2.1 bt536.2.2.2))) else (laws_FnLoopTurns.j1 kj3 true ab a0_1 ac ad bt536.1 bt536.2.1 bt536.2.2.1 bt536.2.2.2)))) else (laws_FnLoopTurns.j1 kj3 true ab a0_1 ac ad bt536.1 bt536.2.1 bt536.2.2.1 bt536.2.2.2))) else (laws_FnLoopTurns.j1 kj3 true ab a0_1 ac ad bt536.1 bt536.2.1 bt536.2.2.1 bt536.2.2.2))))) else (laws_FnLoopTurns.j1 kj3 true ab a0_1 ac ad bt536.1 bt536.2.1 bt536.2.2.1 bt536.2.2.2)))) else (laws_FnLoopTurns.j1 kj3 true ab a0_1 ac ad bt536.1 bt536.2.1 bt536.2.2.1 bt536.2.2.2))) else (laws_FnLoopTurns.j1 kj3 true ab a0_1 ac ad bt536.1 bt536.2.1 bt536.2.2.1 bt536.2.2.2)))))) = some r := by rw [if_neg (show ¬ (false = true) by decide)] at H; exact H
    clear H; have H := H1; clear H1; replace H := Option.bind_eq_some_iff.mp H
    obtain ⟨⟨ap, aB, ay, az⟩, d3, H⟩ := H
    replace H : ((impl_TurnLoop.f kj3 ab a0_1 ac ad (ab.length : Int)).bind fun bt536 => ((impl_TurnLoop.f kj3 ab a0_1 ac ad (wrap64 ((ab.length : Int) + a1))).bind fun bt547 => ((impl_LoopOk.f kj3 ab a0_1 ac ad).bind fun co => (if co = true then ((impl_LoopOk.f kj3 ap aB ay az).bind fun ck => (if ck = true then ((spec_TurnLoop.f kj3 ab a0_1 ac ad a1).bind fun bt560 => ((laws_sameLoop.f kj3 ap aB ay az bt560.1 bt560.2.1 bt560.2.2.1 bt560.2.2.2).bind fun ca => (if ca = true then ((impl_TurnLoop.f kj3 ap aB ay az a2).bind fun bt571 => ((impl_TurnLoop.f kj3 ab a0_1 ac ad (wrap64 (a1 + a2))).bind fun bt581 => ((laws_sameLoop.f kj3 bt571.1 bt571.2.1 bt571.2.2.1 bt571.2.2.2 bt581.1 bt581.2.1 bt581.2.2.1 bt581.2.2.2).bind fun bV => (if bV = true then ((laws_sameInts.f kj3 bt536.1 bt547.1).bind fun bM => (if bM = true then ((laws_aboard.f kj3 ap aB ay az).bind fun bw => ((laws_aboard.f kj3 ab a0_1 ac ad).bind fun bu => (if bw = bu then ((laws_aboard.f kj3 bt547.1 bt547.2.1 bt547.2.2.1 bt547.2.2.2).bind fun bx => ((laws_aboard.f kj3 ab a0_1 ac ad).bind fun bv => (laws_FnLoopTurns.j1 kj3 (bx != bv) ab a0_1 ac ad bt536.1 bt536.2.1 bt536.2.2.1 bt536.2.2.2))) else (laws_FnLoopTurns.j1 kj3 true ab a0_1 ac ad bt536.1 bt536.2.1 bt536.2.2.1 bt536.2.2.2)))) else (laws_FnLoopTurns.j1 kj3 true ab a0_1 ac ad bt536.1 bt536.2.1 bt536.2.2.1 bt536.2.2.2))) else (laws_FnLoopTurns.j1 kj3 true ab a0_1 ac ad bt536.1 bt536.2.1 bt536.2.2.1 bt536.2.2.2))))) else (laws_FnLoopTurns.j1 kj3 true ab a0_1 ac ad bt536.1 bt536.2.1 bt536.2.2.1 bt536.2.2.2)))) else (laws_FnLoopTurns.j1 kj3 true ab a0_1 ac ad bt536.1 bt536.2.1 bt536.2.2.1 bt536.2.2.2))) else (laws_FnLoopTurns.j1 kj3 true ab a0_1 ac ad bt536.1 bt536.2.1 bt536.2.2.1 bt536.2.2.2))))) = some r := H
    have A23 := zK d3; clear d3; replace H := Option.bind_eq_some_iff.mp H
    obtain ⟨⟨ag, an, ak, al⟩, d4, H⟩ := H
    replace H : ((impl_TurnLoop.f kj3 ab a0_1 ac ad (wrap64 ((ab.length : Int) + a1))).bind fun bt547 => ((impl_LoopOk.f kj3 ab a0_1 ac ad).bind fun co => (if co = true then ((impl_LoopOk.f kj3 ap aB ay az).bind fun ck => (if ck = true then ((spec_TurnLoop.f kj3 ab a0_1 ac ad a1).bind fun bt560 => ((laws_sameLoop.f kj3 ap aB ay az bt560.1 bt560.2.1 bt560.2.2.1 bt560.2.2.2).bind fun ca => (if ca = true then ((impl_TurnLoop.f kj3 ap aB ay az a2).bind fun bt571 => ((impl_TurnLoop.f kj3 ab a0_1 ac ad (wrap64 (a1 + a2))).bind fun bt581 => ((laws_sameLoop.f kj3 bt571.1 bt571.2.1 bt571.2.2.1 bt571.2.2.2 bt581.1 bt581.2.1 bt581.2.2.1 bt581.2.2.2).bind fun bV => (if bV = true then ((laws_sameInts.f kj3 ag bt547.1).bind fun bM => (if bM = true then ((laws_aboard.f kj3 ap aB ay az).bind fun bw => ((laws_aboard.f kj3 ab a0_1 ac ad).bind fun bu => (if bw = bu then ((laws_aboard.f kj3 bt547.1 bt547.2.1 bt547.2.2.1 bt547.2.2.2).bind fun bx => ((laws_aboard.f kj3 ab a0_1 ac ad).bind fun bv => (laws_FnLoopTurns.j1 kj3 (bx != bv) ab a0_1 ac ad ag an ak al))) else (laws_FnLoopTurns.j1 kj3 true ab a0_1 ac ad ag an ak al)))) else (laws_FnLoopTurns.j1 kj3 true ab a0_1 ac ad ag an ak al))) else (laws_FnLoopTurns.j1 kj3 true ab a0_1 ac ad ag an ak al))))) else (laws_FnLoopTurns.j1 kj3 true ab a0_1 ac ad ag an ak al)))) else (laws_FnLoopTurns.j1 kj3 true ab a0_1 ac ad ag an ak al))) else (laws_FnLoopTurns.j1 kj3 true ab a0_1 ac ad ag an ak al)))) = some r := H
    have A24 := zK d4; clear d4; replace H := Option.bind_eq_some_iff.mp H
    obtain ⟨⟨ar, aW, aJ, aL⟩, d5, H⟩ := H
    replace H : ((impl_LoopOk.f kj3 ab a0_1 ac ad).bind fun co => (if co = true then ((impl_LoopOk.f kj3 ap aB ay az).bind fun ck => (if ck = true then ((spec_TurnLoop.f kj3 ab a0_1 ac ad a1).bind fun bt560 => ((laws_sameLoop.f kj3 ap aB ay az bt560.1 bt560.2.1 bt560.2.2.1 bt560.2.2.2).bind fun ca => (if ca = true then ((impl_TurnLoop.f kj3 ap aB ay az a2).bind fun bt571 => ((impl_TurnLoop.f kj3 ab a0_1 ac ad (wrap64 (a1 + a2))).bind fun bt581 => ((laws_sameLoop.f kj3 bt571.1 bt571.2.1 bt571.2.2.1 bt571.2.2.2 bt581.1 bt581.2.1 bt581.2.2.1 bt581.2.2.2).bind fun bV => (if bV = true then ((laws_sameInts.f kj3 ag ar).bind fun bM => (if bM = true then ((laws_aboard.f kj3 ap aB ay az).bind fun bw => ((laws_aboard.f kj3 ab a0_1 ac ad).bind fun bu => (if bw = bu then ((laws_aboard.f kj3 ar aW aJ aL).bind fun bx => ((laws_aboard.f kj3 ab a0_1 ac ad).bind fun bv => (laws_FnLoopTurns.j1 kj3 (bx != bv) ab a0_1 ac ad ag an ak al))) else (laws_FnLoopTurns.j1 kj3 true ab a0_1 ac ad ag an ak al)))) else (laws_FnLoopTurns.j1 kj3 true ab a0_1 ac ad ag an ak al))) else (laws_FnLoopTurns.j1 kj3 true ab a0_1 ac ad ag an ak al))))) else (laws_FnLoopTurns.j1 kj3 true ab a0_1 ac ad ag an ak al)))) else (laws_FnLoopTurns.j1 kj3 true ab a0_1 ac ad ag an ak al))) else (laws_FnLoopTurns.j1 kj3 true ab a0_1 ac ad ag an ak al))) = some r := H
    have A25 := zK d5; clear d5; have dL := zK H; clear H
    have hcz27_0 : wc.cell? ⟨am, 0, none⟩ = some (.slice aQ ab.length aR) := (blk_cell aa.out 0).trans rfl
    have hcz27_1 : wc.cell? ⟨am, 1, none⟩ = some (.int .i64 a0_1) := (blk_cell aa.out 1).trans rfl
    have hcz27_2 : wc.cell? ⟨am, 2, none⟩ = some (.slice aS ac.length aT) := (blk_cell aa.out 2).trans rfl
    have hcz27_3 : wc.cell? ⟨am, 3, none⟩ = some (.slice aU ad.length aV) := (blk_cell aa.out 3).trans rfl
    have hfz27_0 := blk_frozen aa.out 0; have hfz27_1 := blk_frozen aa.out 1; have hfz27_2 := blk_frozen aa.out 2; have hfz27_3 := blk_frozen aa.out 3
    go_upto_region 7 with (first | ((with_reducible refine gate_callee (f := 19) rfl ?_); refine goesL_ (some 42) rfl rfl Try.func19 (by kernel_rfl) rfl #[.agg #[.slice aQ ab.length aR, .int .i64 a0_1, .slice aS ac.length aT, .slice aU ad.length aV], .int .i64 a1] rfl zg ?_; (with_reducible refine (impl_TurnLoop.calls kj3 _ _ ab a0_1 _ _ ac _ _ ad a1 ap aB ay az _ ?side1 ?side2 ?side3 ?side4 ?side5 ?side6 A23.out).mono ?_); (case side1 => exact zs (Kd.C_below b1.out HB.out)); (case side2 => exact b2.out); (case side3 => exact zs (Kd.C_below b3.out HB.out)); (case side4 => exact b4.out); (case side5 => exact zs (Kd.C_below b5.out HB.out)); (case side6 => exact b6.out); rintro e w28 ⟨v526, v530, v533, rfl, ho0, ho1, ho2, hb⟩; refine ⟨_, rfl, ?_⟩; have bz := zK (Kd.R_lower ho0 (below_size (zb HB))); have bA := zK (Kd.S_lower ho1 (below_size (zb HB))); have bF := zK (Kd.S_lower ho2 (below_size (zb HB))); have bG := zK (blk_below (g := am) (o := .cells #[.slice aQ ab.length aR, .int .i64 a0_1, .slice aS ac.length aT, .slice aU ad.length aV] 28 (0, 0)) (zk aa) hb); have bL := zK (below_step (zb HB) hb); clear aa; clear HB; have ao := bz; have au := bA; have av := bF; have aa := bG; have HB := bL; clear bz bA bF bG bL; (try clear hb); (try clear hk); (try clear ho0); (try clear ho1); (try clear ho2)) | ((with_reducible refine gate_dst (N := 8) rfl ?_); refine zX 8 #[.slice none 0 0, .int .i64 0, .slice none 0 0, .slice none 0 0] 28 ?_; intro aq hg dB hbox hb; have bz := zK (Kd.R_below (zR ao) hb); have bA := zK (Kd.S_below (zT au) hb); have bF := zK (Kd.S_below (zT av) hb); have bG := zK (blk_below (g := am) (o := .cells #[.slice aQ ab.length aR, .int .i64 a0_1, .slice aS ac.length aT, .slice aU ad.length aV] 28 (0, 0)) (zk aa) hb); have bL := zK (below_step (zb HB) hb); have bN := zK (hbox); have bO := zK ((by rw [hg]; exact (below_size (zb HB)) : w.heap.size ≤ aq)); have bP := zK ((by rw [hg]; exact (below_size (zb HB)) : w.heap.size ≤ aq)); have bQ := zK ((by rw [hg]; exact Nat.ne_of_lt (blk_lt (g := am) (o := .cells #[.slice aQ ab.length aR, .int .i64 a0_1, .slice aS ac.length aT, .slice aU ad.length aV] 28 (0, 0)) (zk aa)) : am ≠ aq)); have bT := zK ((by rw [hg]; exact Nat.ne_of_gt (blk_lt (g := am) (o := .cells #[.slice aQ ab.length aR, .int .i64 a0_1, .slice aS ac.length aT, .slice aU ad.length aV] 28 (0, 0)) (zk aa)) : aq ≠ am)); clear ao; clear au; clear av; clear aa; clear HB; have ao := bz; have au := bA; have av := bF; have aa := bG; have HB := bL; have af := bN; have GW535 := bO; have aE := bP; have bZ := bQ; have cp := bT; clear bz bA bF bG bL bN bO bP bQ bT; clear hb hbox hg; obtain ⟨aO, aP, eo30⟩ := Kd.R_slice ao.out; subst eo30; have hnb31 := cp.out; have hnc31 := bZ.out; have hcz32_0 : dB.cell? ⟨aq, 0, none⟩ = some (.slice none 0 0) := (blk_cell af.out 0).trans rfl; have hcz32_1 : dB.cell? ⟨aq, 1, none⟩ = some (.int .i64 0) := (blk_cell af.out 1).trans rfl; have hcz32_2 : dB.cell? ⟨aq, 2, none⟩ = some (.slice none 0 0) := (blk_cell af.out 2).trans rfl; have hcz32_3 : dB.cell? ⟨aq, 3, none⟩ = some (.slice none 0 0) := (blk_cell af.out 3).trans rfl; have hfz32_0 := blk_frozen af.out 0; have hfz32_1 := blk_frozen af.out 1; have hfz32_2 := blk_frozen af.out 2; have hfz32_3 := blk_frozen af.out 3; obtain ⟨bl, bm, eo33⟩ := Kd.S_slice au.out; subst eo33; obtain ⟨bo, bp, eo34⟩ := Kd.S_slice av.out; subst eo34; have hcz35_0 : dB.cell? ⟨am, 0, none⟩ = some (.slice aQ ab.length aR) := (blk_cell aa.out 0).trans rfl; have hcz35_1 : dB.cell? ⟨am, 1, none⟩ = some (.int .i64 a0_1) := (blk_cell aa.out 1).trans rfl; have hcz35_2 : dB.cell? ⟨am, 2, none⟩ = some (.slice aS ac.length aT) := (blk_cell aa.out 2).trans rfl; have hcz35_3 : dB.cell? ⟨am, 3, none⟩ = some (.slice aU ad.length aV) := (blk_cell aa.out 3).trans rfl; have hfz35_0 := blk_frozen aa.out 0; have hfz35_1 := blk_frozen aa.out 1; have hfz35_2 := blk_frozen aa.out 2; have hfz35_3 := blk_frozen aa.out 3) | ((with_reducible refine gate_callee (f := 19) rfl ?_); refine goesL_ (some 45) rfl rfl Try.func19 (by kernel_rfl) rfl #[.agg #[.slice aQ ab.length aR, .int .i64 a0_1, .slice aS ac.length aT, .slice aU ad.length aV], .int .i64 (ab.length : Int)] rfl zg ?_; (with_reducible refine (impl_TurnLoop.calls kj3 _ _ ab a0_1 _ _ ac _ _ ad (ab.length : Int) ag an ak al _ ?side1 ?side2 ?side3 ?side4 ?side5 ?side6 A24.out).mono ?_); (case side1 => exact Kd.C_below b1.out (zb HB)); (case side2 => exact b2.out); (case side3 => exact Kd.C_below b3.out (zb HB)); (case side4 => exact b4.out); (case side5 => exact Kd.C_below b5.out (zb HB)); (case side6 => exact b6.out); rintro e w36 ⟨v537, v541, v544, rfl, ho0, ho1, ho2, hb⟩; refine ⟨_, rfl, ?_⟩; have bz := zK (Kd.R_elder' (by (with_reducible repeat (first | apply Kd.R_alloc | apply Kd.R_drewN | apply Kd.R_drew)); exact (Kd.R_mono (Kd.R_far (p := ⟨aq, 3, none⟩) (Kd.R_far (p := ⟨aq, 2, none⟩) (Kd.R_far (p := ⟨aq, 1, none⟩) (Kd.R_far (p := ⟨aq, 0, none⟩) (Kd.R_types ao.out af.out (by decide)) (fun _ hk => hk.2) (.slice aO ap.length aP)) (fun _ hk => hk.2) (.int .i64 aB)) (fun _ hk => hk.2) (.slice bl ay.length bm)) (fun _ hk => hk.2) (.slice bo az.length bp)) (fun _ h_ => h_.1))) (Kd.R_base ho0) hb); have bA := zK (Kd.S_mono (Kd.S_told (Kd.S_told (Kd.S_old (by (with_reducible repeat (first | apply Kd.S_alloc | apply Kd.S_drewN | apply Kd.S_drew)); exact (Kd.S_mono (Kd.S_far (p := ⟨aq, 3, none⟩) (Kd.S_far (p := ⟨aq, 2, none⟩) (Kd.S_far (p := ⟨aq, 1, none⟩) (Kd.S_far (p := ⟨aq, 0, none⟩) (Kd.S_types au.out af.out (by decide)) (fun _ hk => hk.2) (.slice aO ap.length aP)) (fun _ hk => hk.2) (.int .i64 aB)) (fun _ hk => hk.2) (.slice bl ay.length bm)) (fun _ hk => hk.2) (.slice bo az.length bp)) (fun _ h_ => h_.1))) hb) (Kd.R_base ho0)) (Kd.S_base ho1)) (fun _ h_ => h_.1)); have bF := zK (Kd.S_mono (Kd.S_told (Kd.S_told (Kd.S_old (by (with_reducible repeat (first | apply Kd.S_alloc | apply Kd.S_drewN | apply Kd.S_drew)); exact (Kd.S_mono (Kd.S_far (p := ⟨aq, 3, none⟩) (Kd.S_far (p := ⟨aq, 2, none⟩) (Kd.S_far (p := ⟨aq, 1, none⟩) (Kd.S_far (p := ⟨aq, 0, none⟩) (Kd.S_types av.out af.out (by decide)) (fun _ hk => hk.2) (.slice aO ap.length aP)) (fun _ hk => hk.2) (.int .i64 aB)) (fun _ hk => hk.2) (.slice bl ay.length bm)) (fun _ hk => hk.2) (.slice bo az.length bp)) (fun _ h_ => h_.1))) hb) (Kd.R_base ho0)) (Kd.S_base ho2)) (fun _ h_ => h_.1)); have bG := zK (Kd.R_lower (Kd.R_new' ho0 (Kd.R_lt (by (with_reducible repeat (first | apply Kd.R_alloc | apply Kd.R_drewN | apply Kd.R_drew)); exact (Kd.R_mono (Kd.R_far (p := ⟨aq, 3, none⟩) (Kd.R_far (p := ⟨aq, 2, none⟩) (Kd.R_far (p := ⟨aq, 1, none⟩) (Kd.R_far (p := ⟨aq, 0, none⟩) (Kd.R_types ao.out af.out (by decide)) (fun _ hk => hk.2) (.slice aO ap.length aP)) (fun _ hk => hk.2) (.int .i64 aB)) (fun _ hk => hk.2) (.slice bl ay.length bm)) (fun _ hk => hk.2) (.slice bo az.length bp)) (fun _ h_ => h_.1))))) (below_size (zb HB))); have bL := zK (Kd.S_lower (Kd.S_new' (Kd.S_new' ho1 (Kd.R_lt (by (with_reducible repeat (first | apply Kd.R_alloc | apply Kd.R_drewN | apply Kd.R_drew)); exact (Kd.R_mono (Kd.R_far (p := ⟨aq, 3, none⟩) (Kd.R_far (p := ⟨aq, 2, none⟩) (Kd.R_far (p := ⟨aq, 1, none⟩) (Kd.R_far (p := ⟨aq, 0, none⟩) (Kd.R_types ao.out af.out (by decide)) (fun _ hk => hk.2) (.slice aO ap.length aP)) (fun _ hk => hk.2) (.int .i64 aB)) (fun _ hk => hk.2) (.slice bl ay.length bm)) (fun _ hk => hk.2) (.slice bo az.length bp)) (fun _ h_ => h_.1))))) (Kd.S_lt (by (with_reducible repeat (first | apply Kd.S_alloc | apply Kd.S_drewN | apply Kd.S_drew)); exact (Kd.S_mono (Kd.S_far (p := ⟨aq, 3, none⟩) (Kd.S_far (p := ⟨aq, 2, none⟩) (Kd.S_far (p := ⟨aq, 1, none⟩) (Kd.S_far (p := ⟨aq, 0, none⟩) (Kd.S_types au.out af.out (by decide)) (fun _ hk => hk.2) (.slice aO ap.length aP)) (fun _ hk => hk.2) (.int .i64 aB)) (fun _ hk => hk.2) (.slice bl ay.length bm)) (fun _ hk => hk.2) (.slice bo az.length bp)) (fun _ h_ => h_.1))))) (below_size (zb HB))); have bN := zK (Kd.S_lower (Kd.S_new' (Kd.S_new' ho2 (Kd.R_lt (by (with_reducible repeat (first | apply Kd.R_alloc | apply Kd.R_drewN | apply Kd.R_drew)); exact (Kd.R_mono (Kd.R_far (p := ⟨aq, 3, none⟩) (Kd.R_far (p := ⟨aq, 2, none⟩) (Kd.R_far (p := ⟨aq, 1, none⟩) (Kd.R_far (p := ⟨aq, 0, none⟩) (Kd.R_types ao.out af.out (by decide)) (fun _ hk => hk.2) (.slice aO ap.length aP)) (fun _ hk => hk.2) (.int .i64 aB)) (fun _ hk => hk.2) (.slice bl ay.length bm)) (fun _ hk => hk.2) (.slice bo az.length bp)) (fun _ h_ => h_.1))))) (Kd.S_lt (by (with_reducible repeat (first | apply Kd.S_alloc | apply Kd.S_drewN | apply Kd.S_drew)); exact (Kd.S_mono (Kd.S_far (p := ⟨aq, 3, none⟩) (Kd.S_far (p := ⟨aq, 2, none⟩) (Kd.S_far (p := ⟨aq, 1, none⟩) (Kd.S_far (p := ⟨aq, 0, none⟩) (Kd.S_types av.out af.out (by decide)) (fun _ hk => hk.2) (.slice aO ap.length aP)) (fun _ hk => hk.2) (.int .i64 aB)) (fun _ hk => hk.2) (.slice bl ay.length bm)) (fun _ hk => hk.2) (.slice bo az.length bp)) (fun _ h_ => h_.1))))) (below_size (zb HB))); have bO := zK (blk_below (g := am) (o := .cells #[.slice aQ ab.length aR, .int .i64 a0_1, .slice aS ac.length aT, .slice aU ad.length aV] 28 (0, 0)) (zh aa bZ) hb); have bP := zK (blk_below (g := aq) (o := .cells #[.slice aO ap.length aP, .int .i64 aB, .slice bl ay.length bm, .slice bo az.length bp] 28 (0, 0)) (by (with_reducible repeat (first | refine zN ?_ _ | refine zD ?_ | refine zA ?_ _)); refine blk_put (cs := #[.slice aO ap.length aP, .int .i64 aB, .slice bl ay.length bm, .slice none 0 0]) ?_ 3 _ rfl; (with_reducible repeat (first | refine zN ?_ _ | refine zD ?_ | refine zA ?_ _)); refine blk_put (cs := #[.slice aO ap.length aP, .int .i64 aB, .slice none 0 0, .slice none 0 0]) ?_ 2 _ rfl; (with_reducible repeat (first | refine zN ?_ _ | refine zD ?_ | refine zA ?_ _)); refine blk_put (cs := #[.slice aO ap.length aP, .int .i64 0, .slice none 0 0, .slice none 0 0]) ?_ 1 _ rfl; (with_reducible repeat (first | refine zN ?_ _ | refine zD ?_ | refine zA ?_ _)); refine blk_put (cs := #[.slice none 0 0, .int .i64 0, .slice none 0 0, .slice none 0 0]) ?_ 0 _ rfl; (with_reducible repeat (first | refine zN ?_ _ | refine zD ?_ | refine zA ?_ _)); exact af.out) hb); have bQ := zK (below_step (zb HB) hb); clear ao; clear au; clear av; clear aa; clear af; clear HB; have ao := bz; have au := bA; have av := bF; have ax := bG; have aC := bL; have aD := bN; have aa := bO; have af := bP; have HB := bQ; clear bz bA bF bG bL bN bO bP bQ; (try clear hb); (try clear hk); (try clear ho0); (try clear ho1); (try clear ho2)) | ((with_reducible refine gate_dst (N := 9) rfl ?_); refine zX 9 #[.slice none 0 0, .int .i64 0, .slice none 0 0, .slice none 0 0] 28 ?_; intro aj hg dC hbox hb; have bz := zK (Kd.R_below (zR ao) hb); have bA := zK (Kd.S_below (zT au) hb); have bF := zK (Kd.S_below (zT av) hb); have bG := zK (Kd.R_below (zR ax) hb); have bL := zK (Kd.S_below (zT aC) hb); have bN := zK (Kd.S_below (zT aD) hb); have bO := zK (blk_below (g := am) (o := .cells #[.slice aQ ab.length aR, .int .i64 a0_1, .slice aS ac.length aT, .slice aU ad.length aV] 28 (0, 0)) (zk aa) hb); have bP := zK (blk_below (g := aq) (o := .cells #[.slice aO ap.length aP, .int .i64 aB, .slice bl ay.length bm, .slice bo az.length bp] 28 (0, 0)) (zk af) hb); have bQ := zK (below_step (zb HB) hb); have bT := zK (hbox); have a0 := zK ((by rw [hg]; exact (below_size (zb HB)) : w.heap.size ≤ aj)); have a3 := zK ((by rw [hg]; exact (below_size (zb HB)) : w.heap.size ≤ aj)); have a4 := zK ((by rw [hg]; exact Nat.ne_of_lt (blk_lt (g := am) (o := .cells #[.slice aQ ab.length aR, .int .i64 a0_1, .slice aS ac.length aT, .slice aU ad.length aV] 28 (0, 0)) (zk aa)) : am ≠ aj)); have a5 := zK ((by rw [hg]; exact Nat.ne_of_gt (blk_lt (g := am) (o := .cells #[.slice aQ ab.length aR, .int .i64 a0_1, .slice aS ac.length aT, .slice aU ad.length aV] 28 (0, 0)) (zk aa)) : aj ≠ am)); have bB := zK ((by rw [hg]; exact Nat.ne_of_lt (blk_lt (g := aq) (o := .cells #[.slice aO ap.length aP, .int .i64 aB, .slice bl ay.length bm, .slice bo az.length bp] 28 (0, 0)) (zk af)) : aq ≠ aj)); have bE := zK ((by rw [hg]; exact Nat.ne_of_gt (blk_lt (g := aq) (o := .cells #[.slice aO ap.length aP, .int .i64 aB, .slice bl ay.length bm, .slice bo az.length bp] 28 (0, 0)) (zk af)) : aj ≠ aq)); clear ao; clear au; clear av; clear ax; clear aC; clear aD; clear aa; clear af; clear HB; have ao := bz; have au := bA; have av := bF; have ax := bG; have aC := bL; have aD := bN; have aa := bO; have af := bP; have HB := bQ; have ae := bT; have GW546 := a0; have aX := a3; have bH := a4; have cb := a5; have bR := bB; have ci := bE; clear bz bA bF bG bL bN bO bP bQ bT a0 a3 a4 a5 bB bE; clear hb hbox hg; obtain ⟨aM, aK, eo38⟩ := Kd.R_slice ax.out; subst eo38; have hnb39 := cb.out; have hnc39 := bH.out; have hnb40 := ci.out; have hnc40 := bR.out; have hcz41_0 : dC.cell? ⟨aj, 0, none⟩ = some (.slice none 0 0) := (blk_cell ae.out 0).trans rfl; have hcz41_1 : dC.cell? ⟨aj, 1, none⟩ = some (.int .i64 0) := (blk_cell ae.out 1).trans rfl; have hcz41_2 : dC.cell? ⟨aj, 2, none⟩ = some (.slice none 0 0) := (blk_cell ae.out 2).trans rfl; have hcz41_3 : dC.cell? ⟨aj, 3, none⟩ = some (.slice none 0 0) := (blk_cell ae.out 3).trans rfl; have hfz41_0 := blk_frozen ae.out 0; have hfz41_1 := blk_frozen ae.out 1; have hfz41_2 := blk_frozen ae.out 2; have hfz41_3 := blk_frozen ae.out 3; obtain ⟨be, bf, eo42⟩ := Kd.S_slice aC.out; subst eo42; obtain ⟨bi, bj, eo43⟩ := Kd.S_slice aD.out; subst eo43; have hcz44_0 : dC.cell? ⟨am, 0, none⟩ = some (.slice aQ ab.length aR) := (blk_cell aa.out 0).trans rfl; have hcz44_1 : dC.cell? ⟨am, 1, none⟩ = some (.int .i64 a0_1) := (blk_cell aa.out 1).trans rfl; have hcz44_2 : dC.cell? ⟨am, 2, none⟩ = some (.slice aS ac.length aT) := (blk_cell aa.out 2).trans rfl; have hcz44_3 : dC.cell? ⟨am, 3, none⟩ = some (.slice aU ad.length aV) := (blk_cell aa.out 3).trans rfl; have hfz44_0 := blk_frozen aa.out 0; have hfz44_1 := blk_frozen aa.out 1; have hfz44_2 := blk_frozen aa.out 2; have hfz44_3 := blk_frozen aa.out 3) | ((with_reducible refine gate_callee (f := 19) rfl ?_); refine goesL_ (some 50) rfl rfl Try.func19 (by kernel_rfl) rfl #[.agg #[.slice aQ ab.length aR, .int .i64 a0_1, .slice aS ac.length aT, .slice aU ad.length aV], .int .i64 (wrap64 ((ab.length : Int) + a1))] rfl zg ?_; (with_reducible refine (impl_TurnLoop.calls kj3 _ _ ab a0_1 _ _ ac _ _ ad (wrap64 ((ab.length : Int) + a1)) ar aW aJ aL _ ?side1 ?side2 ?side3 ?side4 ?side5 ?side6 A25.out).mono ?_); (case side1 => exact Kd.C_below b1.out (zb HB)); (case side2 => exact b2.out); (case side3 => exact Kd.C_below b3.out (zb HB)); (case side4 => exact b4.out); (case side5 => exact Kd.C_below b5.out (zb HB)); (case side6 => exact b6.out); rintro e w45 ⟨v548, v552, v555, rfl, ho0, ho1, ho2, hb⟩; refine ⟨_, rfl, ?_⟩; have bz := zK (Kd.R_elder' (by (with_reducible repeat (first | apply Kd.R_alloc | apply Kd.R_drewN | apply Kd.R_drew)); exact (Kd.R_mono (Kd.R_far (p := ⟨aj, 3, none⟩) (Kd.R_far (p := ⟨aj, 2, none⟩) (Kd.R_far (p := ⟨aj, 1, none⟩) (Kd.R_far (p := ⟨aj, 0, none⟩) (Kd.R_types ao.out ae.out (by decide)) (fun _ hk => hk.2) (.slice aM ag.length aK)) (fun _ hk => hk.2) (.int .i64 an)) (fun _ hk => hk.2) (.slice be ak.length bf)) (fun _ hk => hk.2) (.slice bi al.length bj)) (fun _ h_ => h_.1))) (Kd.R_base ho0) hb); have bA := zK (Kd.S_mono (Kd.S_told (Kd.S_told (Kd.S_old (by (with_reducible repeat (first | apply Kd.S_alloc | apply Kd.S_drewN | apply Kd.S_drew)); exact (Kd.S_mono (Kd.S_far (p := ⟨aj, 3, none⟩) (Kd.S_far (p := ⟨aj, 2, none⟩) (Kd.S_far (p := ⟨aj, 1, none⟩) (Kd.S_far (p := ⟨aj, 0, none⟩) (Kd.S_types au.out ae.out (by decide)) (fun _ hk => hk.2) (.slice aM ag.length aK)) (fun _ hk => hk.2) (.int .i64 an)) (fun _ hk => hk.2) (.slice be ak.length bf)) (fun _ hk => hk.2) (.slice bi al.length bj)) (fun _ h_ => h_.1))) hb) (Kd.R_base ho0)) (Kd.S_base ho1)) (fun _ h_ => h_.1)); have bF := zK (Kd.S_mono (Kd.S_told (Kd.S_told (Kd.S_old (by (with_reducible repeat (first | apply Kd.S_alloc | apply Kd.S_drewN | apply Kd.S_drew)); exact (Kd.S_mono (Kd.S_far (p := ⟨aj, 3, none⟩) (Kd.S_far (p := ⟨aj, 2, none⟩) (Kd.S_far (p := ⟨aj, 1, none⟩) (Kd.S_far (p := ⟨aj, 0, none⟩) (Kd.S_types av.out ae.out (by decide)) (fun _ hk => hk.2) (.slice aM ag.length aK)) (fun _ hk => hk.2) (.int .i64 an)) (fun _ hk => hk.2) (.slice be ak.length bf)) (fun _ hk => hk.2) (.slice bi al.length bj)) (fun _ h_ => h_.1))) hb) (Kd.R_base ho0)) (Kd.S_base ho2)) (fun _ h_ => h_.1)); have bG := zK (Kd.R_elder' (by (with_reducible repeat (first | apply Kd.R_alloc | apply Kd.R_drewN | apply Kd.R_drew)); exact (Kd.R_mono (Kd.R_far (p := ⟨aj, 3, none⟩) (Kd.R_far (p := ⟨aj, 2, none⟩) (Kd.R_far (p := ⟨aj, 1, none⟩) (Kd.R_far (p := ⟨aj, 0, none⟩) (Kd.R_types ax.out ae.out (by decide)) (fun _ hk => hk.2) (.slice aM ag.length aK)) (fun _ hk => hk.2) (.int .i64 an)) (fun _ hk => hk.2) (.slice be ak.length bf)) (fun _ hk => hk.2) (.slice bi al.length bj)) (fun _ h_ => h_.1))) (Kd.R_base ho0) hb); have bL := zK (Kd.S_mono (Kd.S_told (Kd.S_told (Kd.S_old (by (with_reducible repeat (first | apply Kd.S_alloc | apply Kd.S_drewN | apply Kd.S_drew)); exact (Kd.S_mono (Kd.S_far (p := ⟨aj, 3, none⟩) (Kd.S_far (p := ⟨aj, 2, none⟩) (Kd.S_far (p := ⟨aj, 1, none⟩) (Kd.S_far (p := ⟨aj, 0, none⟩) (Kd.S_types aC.out ae.out (by decide)) (fun _ hk => hk.2) (.slice aM ag.length aK)) (fun _ hk => hk.2) (.int .i64 an)) (fun _ hk => hk.2) (.slice be ak.length bf)) (fun _ hk => hk.2) (.slice bi al.length bj)) (fun _ h_ => h_.1))) hb) (Kd.R_base ho0)) (Kd.S_base ho1)) (fun _ h_ => h_.1)); have bN := zK (Kd.S_mono (Kd.S_told (Kd.S_told (Kd.S_old (by (with_reducible repeat (first | apply Kd.S_alloc | apply Kd.S_drewN | apply Kd.S_drew)); exact (Kd.S_mono (Kd.S_far (p := ⟨aj, 3, none⟩) (Kd.S_far (p := ⟨aj, 2, none⟩) (Kd.S_far (p := ⟨aj, 1, none⟩) (Kd.S_far (p := ⟨aj, 0, none⟩) (Kd.S_types aD.out ae.out (by decide)) (fun _ hk => hk.2) (.slice aM ag.length aK)) (fun _ hk => hk.2) (.int .i64 an)) (fun _ hk => hk.2) (.slice be ak.length bf)) (fun _ hk => hk.2) (.slice bi al.length bj)) (fun _ h_ => h_.1))) hb) (Kd.R_base ho0)) (Kd.S_base ho2)) (fun _ h_ => h_.1)); have bO := zK (Kd.R_lower (Kd.R_new' (Kd.R_new' ho0 (Kd.R_lt (by (with_reducible repeat (first | apply Kd.R_alloc | apply Kd.R_drewN | apply Kd.R_drew)); exact (Kd.R_mono (Kd.R_far (p := ⟨aj, 3, none⟩) (Kd.R_far (p := ⟨aj, 2, none⟩) (Kd.R_far (p := ⟨aj, 1, none⟩) (Kd.R_far (p := ⟨aj, 0, none⟩) (Kd.R_types ao.out ae.out (by decide)) (fun _ hk => hk.2) (.slice aM ag.length aK)) (fun _ hk => hk.2) (.int .i64 an)) (fun _ hk => hk.2) (.slice be ak.length bf)) (fun _ hk => hk.2) (.slice bi al.length bj)) (fun _ h_ => h_.1))))) (Kd.R_lt (by (with_reducible repeat (first | apply Kd.R_alloc | apply Kd.R_drewN | apply Kd.R_drew)); exact (Kd.R_mono (Kd.R_far (p := ⟨aj, 3, none⟩) (Kd.R_far (p := ⟨aj, 2, none⟩) (Kd.R_far (p := ⟨aj, 1, none⟩) (Kd.R_far (p := ⟨aj, 0, none⟩) (Kd.R_types ax.out ae.out (by decide)) (fun _ hk => hk.2) (.slice aM ag.length aK)) (fun _ hk => hk.2) (.int .i64 an)) (fun _ hk => hk.2) (.slice be ak.length bf)) (fun _ hk => hk.2) (.slice bi al.length bj)) (fun _ h_ => h_.1))))) (below_size (zb HB))); have bP := zK (Kd.S_lower (Kd.S_new' (Kd.S_new' (Kd.S_new' (Kd.S_new' ho1 (Kd.R_lt (by (with_reducible repeat (first | apply Kd.R_alloc | apply Kd.R_drewN | apply Kd.R_drew)); exact (Kd.R_mono (Kd.R_far (p := ⟨aj, 3, none⟩) (Kd.R_far (p := ⟨aj, 2, none⟩) (Kd.R_far (p := ⟨aj, 1, none⟩) (Kd.R_far (p := ⟨aj, 0, none⟩) (Kd.R_types ao.out ae.out (by decide)) (fun _ hk => hk.2) (.slice aM ag.length aK)) (fun _ hk => hk.2) (.int .i64 an)) (fun _ hk => hk.2) (.slice be ak.length bf)) (fun _ hk => hk.2) (.slice bi al.length bj)) (fun _ h_ => h_.1))))) (Kd.S_lt (by (with_reducible repeat (first | apply Kd.S_alloc | apply Kd.S_drewN | apply Kd.S_drew)); exact (Kd.S_mono (Kd.S_far (p := ⟨aj, 3, none⟩) (Kd.S_far (p := ⟨aj, 2, none⟩) (Kd.S_far (p := ⟨aj, 1, none⟩) (Kd.S_far (p := ⟨aj, 0, none⟩) (Kd.S_types au.out ae.out (by decide)) (fun _ hk => hk.2) (.slice aM ag.length aK)) (fun _ hk => hk.2) (.int .i64 an)) (fun _ hk => hk.2) (.slice be ak.length bf)) (fun _ hk => hk.2) (.slice bi al.length bj)) (fun _ h_ => h_.1))))) (Kd.R_lt (by (with_reducible repeat (first | apply Kd.R_alloc | apply Kd.R_drewN | apply Kd.R_drew)); exact (Kd.R_mono (Kd.R_far (p := ⟨aj, 3, none⟩) (Kd.R_far (p := ⟨aj, 2, none⟩) (Kd.R_far (p := ⟨aj, 1, none⟩) (Kd.R_far (p := ⟨aj, 0, none⟩) (Kd.R_types ax.out ae.out (by decide)) (fun _ hk => hk.2) (.slice aM ag.length aK)) (fun _ hk => hk.2) (.int .i64 an)) (fun _ hk => hk.2) (.slice be ak.length bf)) (fun _ hk => hk.2) (.slice bi al.length bj)) (fun _ h_ => h_.1))))) (Kd.S_lt (by (with_reducible repeat (first | apply Kd.S_alloc | apply Kd.S_drewN | apply Kd.S_drew)); exact (Kd.S_mono (Kd.S_far (p := ⟨aj, 3, none⟩) (Kd.S_far (p := ⟨aj, 2, none⟩) (Kd.S_far (p := ⟨aj, 1, none⟩) (Kd.S_far (p := ⟨aj, 0, none⟩) (Kd.S_types aC.out ae.out (by decide)) (fun _ hk => hk.2) (.slice aM ag.length aK)) (fun _ hk => hk.2) (.int .i64 an)) (fun _ hk => hk.2) (.slice be ak.length bf)) (fun _ hk => hk.2) (.slice bi al.length bj)) (fun _ h_ => h_.1))))) (below_size (zb HB))); have bQ := zK (Kd.S_lower (Kd.S_new' (Kd.S_new' (Kd.S_new' (Kd.S_new' ho2 (Kd.R_lt (by (with_reducible repeat (first | apply Kd.R_alloc | apply Kd.R_drewN | apply Kd.R_drew)); exact (Kd.R_mono (Kd.R_far (p := ⟨aj, 3, none⟩) (Kd.R_far (p := ⟨aj, 2, none⟩) (Kd.R_far (p := ⟨aj, 1, none⟩) (Kd.R_far (p := ⟨aj, 0, none⟩) (Kd.R_types ao.out ae.out (by decide)) (fun _ hk => hk.2) (.slice aM ag.length aK)) (fun _ hk => hk.2) (.int .i64 an)) (fun _ hk => hk.2) (.slice be ak.length bf)) (fun _ hk => hk.2) (.slice bi al.length bj)) (fun _ h_ => h_.1))))) (Kd.S_lt (by (with_reducible repeat (first | apply Kd.S_alloc | apply Kd.S_drewN | apply Kd.S_drew)); exact (Kd.S_mono (Kd.S_far (p := ⟨aj, 3, none⟩) (Kd.S_far (p := ⟨aj, 2, none⟩) (Kd.S_far (p := ⟨aj, 1, none⟩) (Kd.S_far (p := ⟨aj, 0, none⟩) (Kd.S_types av.out ae.out (by decide)) (fun _ hk => hk.2) (.slice aM ag.length aK)) (fun _ hk => hk.2) (.int .i64 an)) (fun _ hk => hk.2) (.slice be ak.length bf)) (fun _ hk => hk.2) (.slice bi al.length bj)) (fun _ h_ => h_.1))))) (Kd.R_lt (by (with_reducible repeat (first | apply Kd.R_alloc | apply Kd.R_drewN | apply Kd.R_drew)); exact (Kd.R_mono (Kd.R_far (p := ⟨aj, 3, none⟩) (Kd.R_far (p := ⟨aj, 2, none⟩) (Kd.R_far (p := ⟨aj, 1, none⟩) (Kd.R_far (p := ⟨aj, 0, none⟩) (Kd.R_types ax.out ae.out (by decide)) (fun _ hk => hk.2) (.slice aM ag.length aK)) (fun _ hk => hk.2) (.int .i64 an)) (fun _ hk => hk.2) (.slice be ak.length bf)) (fun _ hk => hk.2) (.slice bi al.length bj)) (fun _ h_ => h_.1))))) (Kd.S_lt (by (with_reducible repeat (first | apply Kd.S_alloc | apply Kd.S_drewN | apply Kd.S_drew)); exact (Kd.S_mono (Kd.S_far (p := ⟨aj, 3, none⟩) (Kd.S_far (p := ⟨aj, 2, none⟩) (Kd.S_far (p := ⟨aj, 1, none⟩) (Kd.S_far (p := ⟨aj, 0, none⟩) (Kd.S_types aD.out ae.out (by decide)) (fun _ hk => hk.2) (.slice aM ag.length aK)) (fun _ hk => hk.2) (.int .i64 an)) (fun _ hk => hk.2) (.slice be ak.length bf)) (fun _ hk => hk.2) (.slice bi al.length bj)) (fun _ h_ => h_.1))))) (below_size (zb HB))); have bT := zK (blk_below (g := am) (o := .cells #[.slice aQ ab.length aR, .int .i64 a0_1, .slice aS ac.length aT, .slice aU ad.length aV] 28 (0, 0)) (zh aa bH) hb); have a0 := zK (blk_below (g := aq) (o := .cells #[.slice aO ap.length aP, .int .i64 aB, .slice bl ay.length bm, .slice bo az.length bp] 28 (0, 0)) (zh af bR) hb); have a3 := zK (blk_below (g := aj) (o := .cells #[.slice aM ag.length aK, .int .i64 an, .slice be ak.length bf, .slice bi al.length bj] 28 (0, 0)) (by (with_reducible repeat (first | refine zN ?_ _ | refine zD ?_ | refine zA ?_ _)); refine blk_put (cs := #[.slice aM ag.length aK, .int .i64 an, .slice be ak.length bf, .slice none 0 0]) ?_ 3 _ rfl; (with_reducible repeat (first | refine zN ?_ _ | refine zD ?_ | refine zA ?_ _)); refine blk_put (cs := #[.slice aM ag.length aK, .int .i64 an, .slice none 0 0, .slice none 0 0]) ?_ 2 _ rfl; (with_reducible repeat (first | refine zN ?_ _ | refine zD ?_ | refine zA ?_ _)); refine blk_put (cs := #[.slice aM ag.length aK, .int .i64 0, .slice none 0 0, .slice none 0 0]) ?_ 1 _ rfl; (with_reducible repeat (first | refine zN ?_ _ | refine zD ?_ | refine zA ?_ _)); refine blk_put (cs := #[.slice none 0 0, .int .i64 0, .slice none 0 0, .slice none 0 0]) ?_ 0 _ rfl; (with_reducible repeat (first | refine zN ?_ _ | refine zD ?_ | refine zA ?_ _)); exact ae.out) hb); have a4 := zK (below_step (zb HB) hb); clear ao; clear au; clear av; clear ax; clear aC; clear aD; clear aa; clear af; clear ae; clear HB; have ao := bz; have au := bA; have av := bF; have ax := bG; have aC := bL; have aD := bN; have aA := bO; have aF := bP; have aG := bQ; have aa := bT; have af := a0; have ae := a3; have HB := a4; clear bz bA bF bG bL bN bO bP bQ bT a0 a3 a4; (try clear hb); (try clear hk); (try clear ho0); (try clear ho1); (try clear ho2)) | ((with_reducible refine gate_dst (N := 10) rfl ?_); refine zX 10 #[.slice none 0 0, .int .i64 0, .slice none 0 0, .slice none 0 0] 28 ?_; intro ah hg cr hbox hb; have bz := zK (Kd.R_below (zR ao) hb); have bA := zK (Kd.S_below (zT au) hb); have bF := zK (Kd.S_below (zT av) hb); have bG := zK (Kd.R_below (zR ax) hb); have bL := zK (Kd.S_below (zT aC) hb); have bN := zK (Kd.S_below (zT aD) hb); have bO := zK (Kd.R_below (zR aA) hb); have bP := zK (Kd.S_below (zT aF) hb); have bQ := zK (Kd.S_below (zT aG) hb); have bT := zK (blk_below (g := am) (o := .cells #[.slice aQ ab.length aR, .int .i64 a0_1, .slice aS ac.length aT, .slice aU ad.length aV] 28 (0, 0)) (zk aa) hb); have a0 := zK (blk_below (g := aq) (o := .cells #[.slice aO ap.length aP, .int .i64 aB, .slice bl ay.length bm, .slice bo az.length bp] 28 (0, 0)) (zk af) hb); have a3 := zK (blk_below (g := aj) (o := .cells #[.slice aM ag.length aK, .int .i64 an, .slice be ak.length bf, .slice bi al.length bj] 28 (0, 0)) (zk ae) hb); have a4 := zK (below_step (zb HB) hb); have a5 := zK (hbox); have bB := zK ((by rw [hg]; exact (below_size (zb HB)) : w.heap.size ≤ ah)); have bE := zK ((by rw [hg]; exact (below_size (zb HB)) : w.heap.size ≤ ah)); have bU := zK ((by rw [hg]; exact Nat.ne_of_lt (blk_lt (g := am) (o := .cells #[.slice aQ ab.length aR, .int .i64 a0_1, .slice aS ac.length aT, .slice aU ad.length aV] 28 (0, 0)) (zk aa)) : am ≠ ah)); have b7 := zK ((by rw [hg]; exact Nat.ne_of_gt (blk_lt (g := am) (o := .cells #[.slice aQ ab.length aR, .int .i64 a0_1, .slice aS ac.length aT, .slice aU ad.length aV] 28 (0, 0)) (zk aa)) : ah ≠ am)); have b8 := zK ((by rw [hg]; exact Nat.ne_of_lt (blk_lt (g := aq) (o := .cells #[.slice aO ap.length aP, .int .i64 aB, .slice bl ay.length bm, .slice bo az.length bp] 28 (0, 0)) (zk af)) : aq ≠ ah)); have b9 := zK ((by rw [hg]; exact Nat.ne_of_gt (blk_lt (g := aq) (o := .cells #[.slice aO ap.length aP, .int .i64 aB, .slice bl ay.length bm, .slice bo az.length bp] 28 (0, 0)) (zk af)) : ah ≠ aq)); have cc := zK ((by rw [hg]; exact Nat.ne_of_lt (blk_lt (g := aj) (o := .cells #[.slice aM ag.length aK, .int .i64 an, .slice be ak.length bf, .slice bi al.length bj] 28 (0, 0)) (zk ae)) : aj ≠ ah)); have cd := zK ((by rw [hg]; exact Nat.ne_of_gt (blk_lt (g := aj) (o := .cells #[.slice aM ag.length aK, .int .i64 an, .slice be ak.length bf, .slice bi al.length bj] 28 (0, 0)) (zk ae)) : ah ≠ aj)); clear ao; clear au; clear av; clear ax; clear aC; clear aD; clear aA; clear aF; clear aG; clear aa; clear af; clear ae; clear HB; have ao := bz; have au := bA; have av := bF; have ax := bG; have aC := bL; have aD := bN; have aA := bO; have aF := bP; have aG := bQ; have aa := bT; have af := a0; have ae := a3; have HB := a4; have ai := a5; have GW557 := bB; have bq := bE; have b0 := bU; have cq := b7; have ce := b8; have cE := b9; have bS := cc; have cj := cd; clear bz bA bF bG bL bN bO bP bQ bT a0 a3 a4 a5 bB bE bU b7 b8 b9 cc cd; clear hb hbox hg; obtain ⟨aH, aI, eo47⟩ := Kd.R_slice aA.out; subst eo47; have hnb48 := cq.out; have hnc48 := b0.out; have hnb49 := cE.out; have hnc49 := ce.out; have hnb50 := cj.out; have hnc50 := bS.out; have hcz51_0 : cr.cell? ⟨ah, 0, none⟩ = some (.slice none 0 0) := (blk_cell ai.out 0).trans rfl; have hcz51_1 : cr.cell? ⟨ah, 1, none⟩ = some (.int .i64 0) := (blk_cell ai.out 1).trans rfl; have hcz51_2 : cr.cell? ⟨ah, 2, none⟩ = some (.slice none 0 0) := (blk_cell ai.out 2).trans rfl; have hcz51_3 : cr.cell? ⟨ah, 3, none⟩ = some (.slice none 0 0) := (blk_cell ai.out 3).trans rfl; have hfz51_0 := blk_frozen ai.out 0; have hfz51_1 := blk_frozen ai.out 1; have hfz51_2 := blk_frozen ai.out 2; have hfz51_3 := blk_frozen ai.out 3; obtain ⟨a6, a7, eo52⟩ := Kd.S_slice aF.out; subst eo52; obtain ⟨bg, bh, eo53⟩ := Kd.S_slice aG.out; subst eo53))
    (try simp only [Act.put, zp, zq, zr])
    go_cut [100] (fun v100 wc => ∃ (kq : Nat) (cm : Bool), v100 = .bool cm ∧ Aside0 (laws_FnLoopTurns.j1 kq cm ab a0_1 ac ad ag an ak al = some r) ∧ Aside0 (kq ≤ kj3) ∧ Aside0 (Kd.R (Kd.int .i64) 3 wc w.heap.size (fun k_ => some k_ ≠ ((.slice aM ag.length aK) : Value).ownBlock ∧ some k_ ≠ ((.slice aH ar.length aI) : Value).ownBlock) (.slice aO ap.length aP) ap) ∧ Aside0 (Kd.S k69 69 wc w.heap.size (fun k_ => some k_ ≠ ((.slice aO ap.length aP) : Value).ownBlock ∧ some k_ ≠ ((.slice aM ag.length aK) : Value).ownBlock ∧ some k_ ≠ ((.slice be ak.length bf) : Value).ownBlock ∧ some k_ ≠ ((.slice aH ar.length aI) : Value).ownBlock ∧ some k_ ≠ ((.slice a6 aJ.length a7) : Value).ownBlock) (.slice bl ay.length bm) ay) ∧ Aside0 (Kd.S k74 74 wc w.heap.size (fun k_ => some k_ ≠ ((.slice aO ap.length aP) : Value).ownBlock ∧ some k_ ≠ ((.slice aM ag.length aK) : Value).ownBlock ∧ some k_ ≠ ((.slice bi al.length bj) : Value).ownBlock ∧ some k_ ≠ ((.slice aH ar.length aI) : Value).ownBlock ∧ some k_ ≠ ((.slice bg aL.length bh) : Value).ownBlock) (.slice bo az.length bp) az) ∧ Aside0 (Kd.R (Kd.int .i64) 3 wc w.heap.size (fun k_ => some k_ ≠ ((.slice aO ap.length aP) : Value).ownBlock ∧ some k_ ≠ ((.slice aH ar.length aI) : Value).ownBlock) (.slice aM ag.length aK) ag) ∧ Aside0 (Kd.S k69 69 wc w.heap.size (fun k_ => some k_ ≠ ((.slice aO ap.length aP) : Value).ownBlock ∧ some k_ ≠ ((.slice bl ay.length bm) : Value).ownBlock ∧ some k_ ≠ ((.slice aM ag.length aK) : Value).ownBlock ∧ some k_ ≠ ((.slice aH ar.length aI) : Value).ownBlock ∧ some k_ ≠ ((.slice a6 aJ.length a7) : Value).ownBlock) (.slice be ak.length bf) ak) ∧ Aside0 (Kd.S k74 74 wc w.heap.size (fun k_ => some k_ ≠ ((.slice aO ap.length aP) : Value).ownBlock ∧ some k_ ≠ ((.slice bo az.length bp) : Value).ownBlock ∧ some k_ ≠ ((.slice aM ag.length aK) : Value).ownBlock ∧ some k_ ≠ ((.slice aH ar.length aI) : Value).ownBlock ∧ some k_ ≠ ((.slice bg aL.length bh) : Value).ownBlock) (.slice bi al.length bj) al) ∧ Aside0 (Kd.R (Kd.int .i64) 3 wc w.heap.size (fun k_ => some k_ ≠ ((.slice aO ap.length aP) : Value).ownBlock ∧ some k_ ≠ ((.slice aM ag.length aK) : Value).ownBlock) (.slice aH ar.length aI) ar) ∧ Aside0 (Kd.S k69 69 wc w.heap.size (fun k_ => some k_ ≠ ((.slice aO ap.length aP) : Value).ownBlock ∧ some k_ ≠ ((.slice bl ay.length bm) : Value).ownBlock ∧ some k_ ≠ ((.slice aM ag.length aK) : Value).ownBlock ∧ some k_ ≠ ((.slice be ak.length bf) : Value).ownBlock ∧ some k_ ≠ ((.slice aH ar.length aI) : Value).ownBlock) (.slice a6 aJ.length a7) aJ) ∧ Aside0 (Kd.S k74 74 wc w.heap.size (fun k_ => some k_ ≠ ((.slice aO ap.length aP) : Value).ownBlock ∧ some k_ ≠ ((.slice bo az.length bp) : Value).ownBlock ∧ some k_ ≠ ((.slice aM ag.length aK) : Value).ownBlock ∧ some k_ ≠ ((.slice bi al.length bj) : Value).ownBlock ∧ some k_ ≠ ((.slice aH ar.length aI) : Value).ownBlock) (.slice bg aL.length bh) aL) ∧ Aside0 (wc.heap[am]? = some (.cells #[(.slice aQ ab.length aR), .int .i64 a0_1, (.slice aS ac.length aT), (.slice aU ad.length aV)] 28 (0, 0))) ∧ Aside0 (wc.heap[aq]? = some (.cells #[(.slice aO ap.length aP), .int .i64 aB, (.slice bl ay.length bm), (.slice bo az.length bp)] 28 (0, 0))) ∧ Aside0 (wc.heap[aj]? = some (.cells #[(.slice aM ag.length aK), .int .i64 an, (.slice be ak.length bf), (.slice bi al.length bj)] 28 (0, 0))) ∧ Aside0 (wc.heap[ah]? = some (.cells #[(.slice aH ar.length aI), .int .i64 aW, (.slice a6 aJ.length a7), (.slice bg aL.length bh)] 28 (0, 0))) ∧ Aside0 (Below w.heap.size w wc))
    case first =>
     have H := dL.out; clear dL; replace H := Option.bind_eq_some_iff.mp H
     obtain ⟨co, d6, H⟩ := H
     replace H : (if co = true then ((impl_LoopOk.f kj3 ap aB ay az).bind fun ck => (if ck = true then ((spec_TurnLoop.f kj3 ab a0_1 ac ad a1).bind fun bt560 => ((laws_sameLoop.f kj3 ap aB ay az bt560.1 bt560.2.1 bt560.2.2.1 bt560.2.2.2).bind fun ca => (if ca = true then ((impl_TurnLoop.f kj3 ap aB ay az a2).bind fun bt571 => ((impl_TurnLoop.f kj3 ab a0_1 ac ad (wrap64 (a1 + a2))).bind fun bt581 => ((laws_sameLoop.f kj3 bt571.1 bt571.2.1 bt571.2.2.1 bt571.2.2.2 bt581.1 bt581.2.1 bt581.2.2.1 bt581.2.2.2).bind fun bV => (if bV = true then ((laws_sameInts.f kj3 ag ar).bind fun bM => (if bM = true then ((laws_aboard.f kj3 ap aB ay az).bind fun bw => ((laws_aboard.f kj3 ab a0_1 ac ad).bind fun bu => (if bw = bu then ((laws_aboard.f kj3 ar aW aJ aL).bind fun bx => ((laws_aboard.f kj3 ab a0_1 ac ad).bind fun bv => (laws_FnLoopTurns.j1 kj3 (bx != bv) ab a0_1 ac ad ag an ak al))) else (laws_FnLoopTurns.j1 kj3 true ab a0_1 ac ad ag an ak al)))) else (laws_FnLoopTurns.j1 kj3 true ab a0_1 ac ad ag an ak al))) else (laws_FnLoopTurns.j1 kj3 true ab a0_1 ac ad ag an ak al))))) else (laws_FnLoopTurns.j1 kj3 true ab a0_1 ac ad ag an ak al)))) else (laws_FnLoopTurns.j1 kj3 true ab a0_1 ac ad ag an ak al))) else (laws_FnLoopTurns.j1 kj3 true ab a0_1 ac ad ag an ak al)) = some r := H
     have A54 := zK d6; clear d6
     by_cases c55 : co = true
     ·subst c55
      have H1 : ((impl_LoopOk.f kj3 ap aB ay az).bind fun ck => (if ck = true then ((spec_TurnLoop.f kj3 ab a0_1 ac ad a1).bind fun bt560 => ((laws_sameLoop.f kj3 ap aB ay az bt560.1 bt560.2.1 bt560.2.2.1 bt560.2.2.2).bind fun ca => (if ca = true then ((impl_TurnLoop.f kj3 ap aB ay az a2).bind fun bt571 => ((impl_TurnLoop.f kj3 ab a0_1 ac ad (wrap64 (a1 + a2))).bind fun bt581 => ((laws_sameLoop.f kj3 bt571.1 bt571.2.1 bt571.2.2.1 bt571.2.2.2 bt581.1 bt581.2.1 bt581.2.2.1 bt581.2.2.2).bind fun bV => (if bV = true then ((laws_sameInts.f kj3 ag ar).bind fun bM => (if bM = true then ((laws_aboard.f kj3 ap aB ay az).bind fun bw => ((laws_aboard.f kj3 ab a0_1 ac ad).bind fun bu => (if bw = bu then ((laws_aboard.f kj3 ar aW aJ aL).bind fun bx => ((laws_aboard.f kj3 ab a0_1 ac ad).bind fun bv => (laws_FnLoopTurns.j1 kj3 (bx != bv) ab a0_1 ac ad ag an ak al))) else (laws_FnLoopTurns.j1 kj3 true ab a0_1 ac ad ag an ak al)))) else (laws_FnLoopTurns.j1 kj3 true ab a0_1 ac ad ag an ak al))) else (laws_FnLoopTurns.j1 kj3 true ab a0_1 ac ad ag an ak al))))) else (laws_FnLoopTurns.j1 kj3 true ab a0_1 ac ad ag an ak al)))) else (laws_FnLoopTurns.j1 kj3 true ab a0_1 ac ad ag an ak al))) = some r := by rw [if_pos rfl] at H; exact H
      clear H; have H := H1; clear H1; replace H := Option.bind_eq_some_iff.mp H
      obtain ⟨ck, d7, H⟩ := H
      replace H : (if ck = true then ((spec_TurnLoop.f kj3 ab a0_1 ac ad a1).bind fun bt560 => ((laws_sameLoop.f kj3 ap aB ay az bt560.1 bt560.2.1 bt560.2.2.1 bt560.2.2.2).bind fun ca => (if ca = true then ((impl_TurnLoop.f kj3 ap aB ay az a2).bind fun bt571 => ((impl_TurnLoop.f kj3 ab a0_1 ac ad (wrap64 (a1 + a2))).bind fun bt581 => ((laws_sameLoop.f kj3 bt571.1 bt571.2.1 bt571.2.2.1 bt571.2.2.2 bt581.1 bt581.2.1 bt581.2.2.1 bt581.2.2.2).bind fun bV => (if bV = true then ((laws_sameInts.f kj3 ag ar).bind fun bM => (if bM = true then ((laws_aboard.f kj3 ap aB ay az).bind fun bw => ((laws_aboard.f kj3 ab a0_1 ac ad).bind fun bu => (if bw = bu then ((laws_aboard.f kj3 ar aW aJ aL).bind fun bx => ((laws_aboard.f kj3 ab a0_1 ac ad).bind fun bv => (laws_FnLoopTurns.j1 kj3 (bx != bv) ab a0_1 ac ad ag an ak al))) else (laws_FnLoopTurns.j1 kj3 true ab a0_1 ac ad ag an ak al)))) else (laws_FnLoopTurns.j1 kj3 true ab a0_1 ac ad ag an ak al))) else (laws_FnLoopTurns.j1 kj3 true ab a0_1 ac ad ag an ak al))))) else (laws_FnLoopTurns.j1 kj3 true ab a0_1 ac ad ag an ak al)))) else (laws_FnLoopTurns.j1 kj3 true ab a0_1 ac ad ag an ak al)) = some r := H
      have A56 := zK d7; clear d7
      by_cases c57 : ck = true
      ·subst c57
       have H1 : ((spec_TurnLoop.f kj3 ab a0_1 ac ad a1).bind fun bt560 => ((laws_sameLoop.f kj3 ap aB ay az bt560.1 bt560.2.1 bt560.2.2.1 bt560.2.2.2).bind fun ca => (if ca = true then ((impl_TurnLoop.f kj3 ap aB ay az a2).bind fun bt571 => ((impl_TurnLoop.f kj3 ab a0_1 ac ad (wrap64 (a1 + a2))).bind fun bt581 => ((laws_sameLoop.f kj3 bt571.1 bt571.2.1 bt571.2.2.1 bt571.2.2.2 bt581.1 bt581.2.1 bt581.2.2.1 bt581.2.2.2).bind fun bV => (if bV = true then ((laws_sameInts.f kj3 ag ar).bind fun bM => (if bM = true then ((laws_aboard.f kj3 ap aB ay az).bind fun bw => ((laws_aboard.f kj3 ab a0_1 ac ad).bind fun bu => (if bw = bu then ((laws_aboard.f kj3 ar aW aJ aL).bind fun bx => ((laws_aboard.f kj3 ab a0_1 ac ad).bind fun bv => (laws_FnLoopTurns.j1 kj3 (bx != bv) ab a0_1 ac ad ag an ak al))) else (laws_FnLoopTurns.j1 kj3 true ab a0_1 ac ad ag an ak al)))) else (laws_FnLoopTurns.j1 kj3 true ab a0_1 ac ad ag an ak al))) else (laws_FnLoopTurns.j1 kj3 true ab a0_1 ac ad ag an ak al))))) else (laws_FnLoopTurns.j1 kj3 true ab a0_1 ac ad ag an ak al)))) = some r := by rw [if_pos rfl] at H; exact H
       clear H; have H := H1; clear H1; replace H := Option.bind_eq_some_iff.mp H
       obtain ⟨⟨di, dj, dk, dl⟩, d8, H⟩ := H
       replace H : ((laws_sameLoop.f kj3 ap aB ay az di dj dk dl).bind fun ca => (if ca = true then ((impl_TurnLoop.f kj3 ap aB ay az a2).bind fun bt571 => ((impl_TurnLoop.f kj3 ab a0_1 ac ad (wrap64 (a1 + a2))).bind fun bt581 => ((laws_sameLoop.f kj3 bt571.1 bt571.2.1 bt571.2.2.1 bt571.2.2.2 bt581.1 bt581.2.1 bt581.2.2.1 bt581.2.2.2).bind fun bV => (if bV = true then ((laws_sameInts.f kj3 ag ar).bind fun bM => (if bM = true then ((laws_aboard.f kj3 ap aB ay az).bind fun bw => ((laws_aboard.f kj3 ab a0_1 ac ad).bind fun bu => (if bw = bu then ((laws_aboard.f kj3 ar aW aJ aL).bind fun bx => ((laws_aboard.f kj3 ab a0_1 ac ad).bind fun bv => (laws_FnLoopTurns.j1 kj3 (bx != bv) ab a0_1 ac ad ag an ak al))) else (laws_FnLoopTurns.j1 kj3 true ab a0_1 ac ad ag an ak al)))) else (laws_FnLoopTurns.j1 kj3 true ab a0_1 ac ad ag an ak al))) else (laws_FnLoopTurns.j1 kj3 true ab a0_1 ac ad ag an ak al))))) else (laws_FnLoopTurns.j1 kj3 true ab a0_1 ac ad ag an ak al))) = some r := H
       have A58 := zK d8; clear d8; replace H := Option.bind_eq_some_iff.mp H
       obtain ⟨ca, d9, H⟩ := H
       replace H : (if ca = true then ((impl_TurnLoop.f kj3 ap aB ay az a2).bind fun bt571 => ((impl_TurnLoop.f kj3 ab a0_1 ac ad (wrap64 (a1 + a2))).bind fun bt581 => ((laws_sameLoop.f kj3 bt571.1 bt571.2.1 bt571.2.2.1 bt571.2.2.2 bt581.1 bt581.2.1 bt581.2.2.1 bt581.2.2.2).bind fun bV => (if bV = true then ((laws_sameInts.f kj3 ag ar).bind fun bM => (if bM = true then ((laws_aboard.f kj3 ap aB ay az).bind fun bw => ((laws_aboard.f kj3 ab a0_1 ac ad).bind fun bu => (if bw = bu then ((laws_aboard.f kj3 ar aW aJ aL).bind fun bx => ((laws_aboard.f kj3 ab a0_1 ac ad).bind fun bv => (laws_FnLoopTurns.j1 kj3 (bx != bv) ab a0_1 ac ad ag an ak al))) else (laws_FnLoopTurns.j1 kj3 true ab a0_1 ac ad ag an ak al)))) else (laws_FnLoopTurns.j1 kj3 true ab a0_1 ac ad ag an ak al))) else (laws_FnLoopTurns.j1 kj3 true ab a0_1 ac ad ag an ak al))))) else (laws_FnLoopTurns.j1 kj3 true ab a0_1 ac ad ag an ak al)) = some r := H
       have A59 := zK d9; clear d9
       by_cases c60 : ca = true
       ·subst c60
        have H1 : ((impl_TurnLoop.f kj3 ap aB ay az a2).bind fun bt571 => ((impl_TurnLoop.f kj3 ab a0_1 ac ad (wrap64 (a1 + a2))).bind fun bt581 => ((laws_sameLoop.f kj3 bt571.1 bt571.2.1 bt571.2.2.1 bt571.2.2.2 bt581.1 bt581.2.1 bt581.2.2.1 bt581.2.2.2).bind fun bV => (if bV = true then ((laws_sameInts.f kj3 ag ar).bind fun bM => (if bM = true then ((laws_aboard.f kj3 ap aB ay az).bind fun bw => ((laws_aboard.f kj3 ab a0_1 ac ad).bind fun bu => (if bw = bu then ((laws_aboard.f kj3 ar aW aJ aL).bind fun bx => ((laws_aboard.f kj3 ab a0_1 ac ad).bind fun bv => (laws_FnLoopTurns.j1 kj3 (bx != bv) ab a0_1 ac ad ag an ak al))) else (laws_FnLoopTurns.j1 kj3 true ab a0_1 ac ad ag an ak al)))) else (laws_FnLoopTurns.j1 kj3 true ab a0_1 ac ad ag an ak al))) else (laws_FnLoopTurns.j1 kj3 true ab a0_1 ac ad ag an ak al))))) = some r := by rw [if_pos rfl] at H; exact H
        clear H; have H := H1; clear H1; replace H := Option.bind_eq_some_iff.mp H
        obtain ⟨⟨cI, cJ, cK, cL⟩, ea, H⟩ := H
        replace H : ((impl_TurnLoop.f kj3 ab a0_1 ac ad (wrap64 (a1 + a2))).bind fun bt581 => ((laws_sameLoop.f kj3 cI cJ cK cL bt581.1 bt581.2.1 bt581.2.2.1 bt581.2.2.2).bind fun bV => (if bV = true then ((laws_sameInts.f kj3 ag ar).bind fun bM => (if bM = true then ((laws_aboard.f kj3 ap aB ay az).bind fun bw => ((laws_aboard.f kj3 ab a0_1 ac ad).bind fun bu => (if bw = bu then ((laws_aboard.f kj3 ar aW aJ aL).bind fun bx => ((laws_aboard.f kj3 ab a0_1 ac ad).bind fun bv => (laws_FnLoopTurns.j1 kj3 (bx != bv) ab a0_1 ac ad ag an ak al))) else (laws_FnLoopTurns.j1 kj3 true ab a0_1 ac ad ag an ak al)))) else (laws_FnLoopTurns.j1 kj3 true ab a0_1 ac ad ag an ak al))) else (laws_FnLoopTurns.j1 kj3 true ab a0_1 ac ad ag an ak al)))) = some r := H
        have A61 := zK ea; clear ea; replace H := Option.bind_eq_some_iff.mp H
        obtain ⟨⟨dm, dn, dp, dq⟩, eb, H⟩ := H
        replace H : ((laws_sameLoop.f kj3 cI cJ cK cL dm dn dp dq).bind fun bV => (if bV = true then ((laws_sameInts.f kj3 ag ar).bind fun bM => (if bM = true then ((laws_aboard.f kj3 ap aB ay az).bind fun bw => ((laws_aboard.f kj3 ab a0_1 ac ad).bind fun bu => (if bw = bu then ((laws_aboard.f kj3 ar aW aJ aL).bind fun bx => ((laws_aboard.f kj3 ab a0_1 ac ad).bind fun bv => (laws_FnLoopTurns.j1 kj3 (bx != bv) ab a0_1 ac ad ag an ak al))) else (laws_FnLoopTurns.j1 kj3 true ab a0_1 ac ad ag an ak al)))) else (laws_FnLoopTurns.j1 kj3 true ab a0_1 ac ad ag an ak al))) else (laws_FnLoopTurns.j1 kj3 true ab a0_1 ac ad ag an ak al))) = some r := H
        have A62 := zK eb; clear eb; replace H := Option.bind_eq_some_iff.mp H
        obtain ⟨bV, ec, H⟩ := H
        replace H : (if bV = true then ((laws_sameInts.f kj3 ag ar).bind fun bM => (if bM = true then ((laws_aboard.f kj3 ap aB ay az).bind fun bw => ((laws_aboard.f kj3 ab a0_1 ac ad).bind fun bu => (if bw = bu then ((laws_aboard.f kj3 ar aW aJ aL).bind fun bx => ((laws_aboard.f kj3 ab a0_1 ac ad).bind fun bv => (laws_FnLoopTurns.j1 kj3 (bx != bv) ab a0_1 ac ad ag an ak al))) else (laws_FnLoopTurns.j1 kj3 true ab a0_1 ac ad ag an ak al)))) else (laws_FnLoopTurns.j1 kj3 true ab a0_1 ac ad ag an ak al))) else (laws_FnLoopTurns.j1 kj3 true ab a0_1 ac ad ag an ak al)) = some r := H
        have A63 := zK ec; clear ec
        by_cases c64 : bV = true
        ·subst c64
         have H1 : ((laws_sameInts.f kj3 ag ar).bind fun bM => (if bM = true then ((laws_aboard.f kj3 ap aB ay az).bind fun bw => ((laws_aboard.f kj3 ab a0_1 ac ad).bind fun bu => (if bw = bu then ((laws_aboard.f kj3 ar aW aJ aL).bind fun bx => ((laws_aboard.f kj3 ab a0_1 ac ad).bind fun bv => (laws_FnLoopTurns.j1 kj3 (bx != bv) ab a0_1 ac ad ag an ak al))) else (laws_FnLoopTurns.j1 kj3 true ab a0_1 ac ad ag an ak al)))) else (laws_FnLoopTurns.j1 kj3 true ab a0_1 ac ad ag an ak al))) = some r := by rw [if_pos rfl] at H; exact H
         clear H; have H := H1; clear H1; replace H := Option.bind_eq_some_iff.mp H
         obtain ⟨bM, ed, H⟩ := H
         replace H : (if bM = true then ((laws_aboard.f kj3 ap aB ay az).bind fun bw => ((laws_aboard.f kj3 ab a0_1 ac ad).bind fun bu => (if bw = bu then ((laws_aboard.f kj3 ar aW aJ aL).bind fun bx => ((laws_aboard.f kj3 ab a0_1 ac ad).bind fun bv => (laws_FnLoopTurns.j1 kj3 (bx != bv) ab a0_1 ac ad ag an ak al))) else (laws_FnLoopTurns.j1 kj3 true ab a0_1 ac ad ag an ak al)))) else (laws_FnLoopTurns.j1 kj3 true ab a0_1 ac ad ag an ak al)) = some r := H
         have A65 := zK ed; clear ed
         by_cases c66 : bM = true
         ·subst c66
          have H1 : ((laws_aboard.f kj3 ap aB ay az).bind fun bw => ((laws_aboard.f kj3 ab a0_1 ac ad).bind fun bu => (if bw = bu then ((laws_aboard.f kj3 ar aW aJ aL).bind fun bx => ((laws_aboard.f kj3 ab a0_1 ac ad).bind fun bv => (laws_FnLoopTurns.j1 kj3 (bx != bv) ab a0_1 ac ad ag an ak al))) else (laws_FnLoopTurns.j1 kj3 true ab a0_1 ac ad ag an ak al)))) = some r := by rw [if_pos rfl] at H; exact H
          clear H; have H := H1; clear H1; replace H := Option.bind_eq_some_iff.mp H
          obtain ⟨bw, ee, H⟩ := H
          replace H : ((laws_aboard.f kj3 ab a0_1 ac ad).bind fun bu => (if bw = bu then ((laws_aboard.f kj3 ar aW aJ aL).bind fun bx => ((laws_aboard.f kj3 ab a0_1 ac ad).bind fun bv => (laws_FnLoopTurns.j1 kj3 (bx != bv) ab a0_1 ac ad ag an ak al))) else (laws_FnLoopTurns.j1 kj3 true ab a0_1 ac ad ag an ak al))) = some r := H
          have A67 := zK ee; clear ee; replace H := Option.bind_eq_some_iff.mp H
          obtain ⟨bu, ef, H⟩ := H
          replace H : (if bw = bu then ((laws_aboard.f kj3 ar aW aJ aL).bind fun bx => ((laws_aboard.f kj3 ab a0_1 ac ad).bind fun bv => (laws_FnLoopTurns.j1 kj3 (bx != bv) ab a0_1 ac ad ag an ak al))) else (laws_FnLoopTurns.j1 kj3 true ab a0_1 ac ad ag an ak al)) = some r := H
          have A68 := zK ef; clear ef
          by_cases dM : bw = bu
          ·rw [if_pos dM] at H
           have ct : (bw == bu) = true := beq_iff_eq.mpr dM
           have eg : (bw != bu) = false := bne_eq_false_iff_eq.mpr dM
           clear dM
           (first | rw [ct] | (simp only [i64_w, i32_w]; rw [ct]) | skip)
           replace H := Option.bind_eq_some_iff.mp H
           obtain ⟨bx, eh, H⟩ := H
           replace H : ((laws_aboard.f kj3 ab a0_1 ac ad).bind fun bv => (laws_FnLoopTurns.j1 kj3 (bx != bv) ab a0_1 ac ad ag an ak al)) = some r := H
           have A70 := zK eh; clear eh; replace H := Option.bind_eq_some_iff.mp H
           obtain ⟨bv, ei, H⟩ := H
           replace H : (laws_FnLoopTurns.j1 kj3 (bx != bv) ab a0_1 ac ad ag an ak al) = some r := H
           have A71 := zK ei; clear ei; have H' := zK H; clear H
           try go_wp2
           have bz : Aside0 (Kd.R (Kd.int .i64) 3 ((((cr.setCell ⟨ah, 0, none⟩ (.slice aH ar.length aI)).setCell ⟨ah, 1, none⟩ (.int .i64 aW)).setCell ⟨ah, 2, none⟩ (.slice a6 aJ.length a7)).setCell ⟨ah, 3, none⟩ (.slice bg aL.length bh)) w.heap.size (fun k_ => some k_ ≠ (.slice aM ag.length aK : Value).ownBlock ∧ some k_ ≠ (.slice aH ar.length aI : Value).ownBlock) (.slice aO ap.length aP) ap) := ⟨by (with_reducible repeat (first | apply Kd.R_alloc | apply Kd.R_drewN | apply Kd.R_drew)); exact Kd.R_mono (Kd.R_far (p := ⟨ah, 3, none⟩) (Kd.R_far (p := ⟨ah, 2, none⟩) (Kd.R_far (p := ⟨ah, 1, none⟩) (Kd.R_far (p := ⟨ah, 0, none⟩) (Kd.R_types ao.out ai.out (by decide)) (fun _ hk => hk.2) (.slice aH ar.length aI)) (fun _ hk => hk.2) (.int .i64 aW)) (fun _ hk => hk.2) (.slice a6 aJ.length a7)) (fun _ hk => hk.2) (.slice bg aL.length bh)) (fun _ hk => ⟨hk.1.1.2, hk.1.2⟩)⟩
           have bA : Aside0 (Kd.S k69 69 ((((cr.setCell ⟨ah, 0, none⟩ (.slice aH ar.length aI)).setCell ⟨ah, 1, none⟩ (.int .i64 aW)).setCell ⟨ah, 2, none⟩ (.slice a6 aJ.length a7)).setCell ⟨ah, 3, none⟩ (.slice bg aL.length bh)) w.heap.size (fun k_ => some k_ ≠ (.slice aO ap.length aP : Value).ownBlock ∧ some k_ ≠ (.slice aM ag.length aK : Value).ownBlock ∧ some k_ ≠ (.slice be ak.length bf : Value).ownBlock ∧ some k_ ≠ (.slice aH ar.length aI : Value).ownBlock ∧ some k_ ≠ (.slice a6 aJ.length a7 : Value).ownBlock) (.slice bl ay.length bm) ay) := ⟨by (with_reducible repeat (first | apply Kd.S_alloc | apply Kd.S_drewN | apply Kd.S_drew)); exact Kd.S_mono (Kd.S_far (p := ⟨ah, 3, none⟩) (Kd.S_far (p := ⟨ah, 2, none⟩) (Kd.S_far (p := ⟨ah, 1, none⟩) (Kd.S_far (p := ⟨ah, 0, none⟩) (Kd.S_types au.out ai.out (by decide)) (fun _ hk => hk.2) (.slice aH ar.length aI)) (fun _ hk => hk.2) (.int .i64 aW)) (fun _ hk => hk.2) (.slice a6 aJ.length a7)) (fun _ hk => hk.2) (.slice bg aL.length bh)) (fun _ hk => ⟨hk.1.1.1.1.1, ⟨hk.1.1.1.1.2, ⟨hk.1.1.1.2, ⟨hk.1.1.2, hk.1.2⟩⟩⟩⟩)⟩
           have bF : Aside0 (Kd.S k74 74 ((((cr.setCell ⟨ah, 0, none⟩ (.slice aH ar.length aI)).setCell ⟨ah, 1, none⟩ (.int .i64 aW)).setCell ⟨ah, 2, none⟩ (.slice a6 aJ.length a7)).setCell ⟨ah, 3, none⟩ (.slice bg aL.length bh)) w.heap.size (fun k_ => some k_ ≠ (.slice aO ap.length aP : Value).ownBlock ∧ some k_ ≠ (.slice aM ag.length aK : Value).ownBlock ∧ some k_ ≠ (.slice bi al.length bj : Value).ownBlock ∧ some k_ ≠ (.slice aH ar.length aI : Value).ownBlock ∧ some k_ ≠ (.slice bg aL.length bh : Value).ownBlock) (.slice bo az.length bp) az) := ⟨by (with_reducible repeat (first | apply Kd.S_alloc | apply Kd.S_drewN | apply Kd.S_drew)); exact Kd.S_mono (Kd.S_far (p := ⟨ah, 3, none⟩) (Kd.S_far (p := ⟨ah, 2, none⟩) (Kd.S_far (p := ⟨ah, 1, none⟩) (Kd.S_far (p := ⟨ah, 0, none⟩) (Kd.S_types av.out ai.out (by decide)) (fun _ hk => hk.2) (.slice aH ar.length aI)) (fun _ hk => hk.2) (.int .i64 aW)) (fun _ hk => hk.2) (.slice a6 aJ.length a7)) (fun _ hk => hk.2) (.slice bg aL.length bh)) (fun _ hk => ⟨hk.1.1.1.1.1, ⟨hk.1.1.1.1.2, ⟨hk.1.1.1.2, ⟨hk.1.1.2, hk.1.2⟩⟩⟩⟩)⟩
           have bG : Aside0 (Kd.R (Kd.int .i64) 3 ((((cr.setCell ⟨ah, 0, none⟩ (.slice aH ar.length aI)).setCell ⟨ah, 1, none⟩ (.int .i64 aW)).setCell ⟨ah, 2, none⟩ (.slice a6 aJ.length a7)).setCell ⟨ah, 3, none⟩ (.slice bg aL.length bh)) w.heap.size (fun k_ => some k_ ≠ (.slice aO ap.length aP : Value).ownBlock ∧ some k_ ≠ (.slice aH ar.length aI : Value).ownBlock) (.slice aM ag.length aK) ag) := ⟨by (with_reducible repeat (first | apply Kd.R_alloc | apply Kd.R_drewN | apply Kd.R_drew)); exact Kd.R_mono (Kd.R_far (p := ⟨ah, 3, none⟩) (Kd.R_far (p := ⟨ah, 2, none⟩) (Kd.R_far (p := ⟨ah, 1, none⟩) (Kd.R_far (p := ⟨ah, 0, none⟩) (Kd.R_types ax.out ai.out (by decide)) (fun _ hk => hk.2) (.slice aH ar.length aI)) (fun _ hk => hk.2) (.int .i64 aW)) (fun _ hk => hk.2) (.slice a6 aJ.length a7)) (fun _ hk => hk.2) (.slice bg aL.length bh)) (fun _ hk => ⟨hk.1.1.2, hk.1.2⟩)⟩
           have bL : Aside0 (Kd.S k69 69 ((((cr.setCell ⟨ah, 0, none⟩ (.slice aH ar.length aI)).setCell ⟨ah, 1, none⟩ (.int .i64 aW)).setCell ⟨ah, 2, none⟩ (.slice a6 aJ.length a7)).setCell ⟨ah, 3, none⟩ (.slice bg aL.length bh)) w.heap.size (fun k_ => some k_ ≠ (.slice aO ap.length aP : Value).ownBlock ∧ some k_ ≠ (.slice bl ay.length bm : Value).ownBlock ∧ some k_ ≠ (.slice aM ag.length aK : Value).ownBlock ∧ some k_ ≠ (.slice aH ar.length aI : Value).ownBlock ∧ some k_ ≠ (.slice a6 aJ.length a7 : Value).ownBlock) (.slice be ak.length bf) ak) := ⟨by (with_reducible repeat (first | apply Kd.S_alloc | apply Kd.S_drewN | apply Kd.S_drew)); exact Kd.S_mono (Kd.S_far (p := ⟨ah, 3, none⟩) (Kd.S_far (p := ⟨ah, 2, none⟩) (Kd.S_far (p := ⟨ah, 1, none⟩) (Kd.S_far (p := ⟨ah, 0, none⟩) (Kd.S_types aC.out ai.out (by decide)) (fun _ hk => hk.2) (.slice aH ar.length aI)) (fun _ hk => hk.2) (.int .i64 aW)) (fun _ hk => hk.2) (.slice a6 aJ.length a7)) (fun _ hk => hk.2) (.slice bg aL.length bh)) (fun _ hk => ⟨hk.1.1.1.1.2, ⟨hk.1.1.1.2, ⟨hk.1.1.1.1.1, ⟨hk.1.1.2, hk.1.2⟩⟩⟩⟩)⟩
           have bN : Aside0 (Kd.S k74 74 ((((cr.setCell ⟨ah, 0, none⟩ (.slice aH ar.length aI)).setCell ⟨ah, 1, none⟩ (.int .i64 aW)).setCell ⟨ah, 2, none⟩ (.slice a6 aJ.length a7)).setCell ⟨ah, 3, none⟩ (.slice bg aL.length bh)) w.heap.size (fun k_ => some k_ ≠ (.slice aO ap.length aP : Value).ownBlock ∧ some k_ ≠ (.slice bo az.length bp : Value).ownBlock ∧ some k_ ≠ (.slice aM ag.length aK : Value).ownBlock ∧ some k_ ≠ (.slice aH ar.length aI : Value).ownBlock ∧ some k_ ≠ (.slice bg aL.length bh : Value).ownBlock) (.slice bi al.length bj) al) := ⟨by (with_reducible repeat (first | apply Kd.S_alloc | apply Kd.S_drewN | apply Kd.S_drew)); exact Kd.S_mono (Kd.S_far (p := ⟨ah, 3, none⟩) (Kd.S_far (p := ⟨ah, 2, none⟩) (Kd.S_far (p := ⟨ah, 1, none⟩) (Kd.S_far (p := ⟨ah, 0, none⟩) (Kd.S_types aD.out ai.out (by decide)) (fun _ hk => hk.2) (.slice aH ar.length aI)) (fun _ hk => hk.2) (.int .i64 aW)) (fun _ hk => hk.2) (.slice a6 aJ.length a7)) (fun _ hk => hk.2) (.slice bg aL.length bh)) (fun _ hk => ⟨hk.1.1.1.1.2, ⟨hk.1.1.1.2, ⟨hk.1.1.1.1.1, ⟨hk.1.1.2, hk.1.2⟩⟩⟩⟩)⟩
           have bO : Aside0 (Kd.R (Kd.int .i64) 3 ((((cr.setCell ⟨ah, 0, none⟩ (.slice aH ar.length aI)).setCell ⟨ah, 1, none⟩ (.int .i64 aW)).setCell ⟨ah, 2, none⟩ (.slice a6 aJ.length a7)).setCell ⟨ah, 3, none⟩ (.slice bg aL.length bh)) w.heap.size (fun k_ => some k_ ≠ (.slice aO ap.length aP : Value).ownBlock ∧ some k_ ≠ (.slice aM ag.length aK : Value).ownBlock) (.slice aH ar.length aI) ar) := ⟨by (with_reducible repeat (first | apply Kd.R_alloc | apply Kd.R_drewN | apply Kd.R_drew)); exact Kd.R_mono (Kd.R_far (p := ⟨ah, 3, none⟩) (Kd.R_far (p := ⟨ah, 2, none⟩) (Kd.R_far (p := ⟨ah, 1, none⟩) (Kd.R_far (p := ⟨ah, 0, none⟩) (Kd.R_types aA.out ai.out (by decide)) (fun _ hk => hk.2) (.slice aH ar.length aI)) (fun _ hk => hk.2) (.int .i64 aW)) (fun _ hk => hk.2) (.slice a6 aJ.length a7)) (fun _ hk => hk.2) (.slice bg aL.length bh)) (fun _ hk => ⟨hk.1.1.2, hk.1.2⟩)⟩
           have bP : Aside0 (Kd.S k69 69 ((((cr.setCell ⟨ah, 0, none⟩ (.slice aH ar.length aI)).setCell ⟨ah, 1, none⟩ (.int .i64 aW)).setCell ⟨ah, 2, none⟩ (.slice a6 aJ.length a7)).setCell ⟨ah, 3, none⟩ (.slice bg aL.length bh)) w.heap.size (fun k_ => some k_ ≠ (.slice aO ap.length aP : Value).ownBlock ∧ some k_ ≠ (.slice bl ay.length bm : Value).ownBlock ∧ some k_ ≠ (.slice aM ag.length aK : Value).ownBlock ∧ some k_ ≠ (.slice be ak.length bf : Value).ownBlock ∧ some k_ ≠ (.slice aH ar.length aI : Value).ownBlock) (.slice a6 aJ.length a7) aJ) := ⟨by (with_reducible repeat (first | apply Kd.S_alloc | apply Kd.S_drewN | apply Kd.S_drew)); exact Kd.S_mono (Kd.S_far (p := ⟨ah, 3, none⟩) (Kd.S_far (p := ⟨ah, 2, none⟩) (Kd.S_far (p := ⟨ah, 1, none⟩) (Kd.S_far (p := ⟨ah, 0, none⟩) (Kd.S_types aF.out ai.out (by decide)) (fun _ hk => hk.2) (.slice aH ar.length aI)) (fun _ hk => hk.2) (.int .i64 aW)) (fun _ hk => hk.2) (.slice a6 aJ.length a7)) (fun _ hk => hk.2) (.slice bg aL.length bh)) (fun _ hk => ⟨hk.1.1.1.1.2, ⟨hk.1.1.1.2, ⟨hk.1.1.2, ⟨hk.1.2, hk.1.1.1.1.1⟩⟩⟩⟩)⟩
           have bQ : Aside0 (Kd.S k74 74 ((((cr.setCell ⟨ah, 0, none⟩ (.slice aH ar.length aI)).setCell ⟨ah, 1, none⟩ (.int .i64 aW)).setCell ⟨ah, 2, none⟩ (.slice a6 aJ.length a7)).setCell ⟨ah, 3, none⟩ (.slice bg aL.length bh)) w.heap.size (fun k_ => some k_ ≠ (.slice aO ap.length aP : Value).ownBlock ∧ some k_ ≠ (.slice bo az.length bp : Value).ownBlock ∧ some k_ ≠ (.slice aM ag.length aK : Value).ownBlock ∧ some k_ ≠ (.slice bi al.length bj : Value).ownBlock ∧ some k_ ≠ (.slice aH ar.length aI : Value).ownBlock) (.slice bg aL.length bh) aL) := ⟨by (with_reducible repeat (first | apply Kd.S_alloc | apply Kd.S_drewN | apply Kd.S_drew)); exact Kd.S_mono (Kd.S_far (p := ⟨ah, 3, none⟩) (Kd.S_far (p := ⟨ah, 2, none⟩) (Kd.S_far (p := ⟨ah, 1, none⟩) (Kd.S_far (p := ⟨ah, 0, none⟩) (Kd.S_types aG.out ai.out (by decide)) (fun _ hk => hk.2) (.slice aH ar.length aI)) (fun _ hk => hk.2) (.int .i64 aW)) (fun _ hk => hk.2) (.slice a6 aJ.length a7)) (fun _ hk => hk.2) (.slice bg aL.length bh)) (fun _ hk => ⟨hk.1.1.1.1.2, ⟨hk.1.1.1.2, ⟨hk.1.1.2, ⟨hk.1.2, hk.1.1.1.1.1⟩⟩⟩⟩)⟩
           have bT : Aside0 (((((cr.setCell ⟨ah, 0, none⟩ (.slice aH ar.length aI)).setCell ⟨ah, 1, none⟩ (.int .i64 aW)).setCell ⟨ah, 2, none⟩ (.slice a6 aJ.length a7)).setCell ⟨ah, 3, none⟩ (.slice bg aL.length bh)).heap[am]? = some (.cells #[.slice aQ ab.length aR, .int .i64 a0_1, .slice aS ac.length aT, .slice aU ad.length aV] 28 (0, 0))) := ⟨zh aa b0⟩
           have a0 : Aside0 (((((cr.setCell ⟨ah, 0, none⟩ (.slice aH ar.length aI)).setCell ⟨ah, 1, none⟩ (.int .i64 aW)).setCell ⟨ah, 2, none⟩ (.slice a6 aJ.length a7)).setCell ⟨ah, 3, none⟩ (.slice bg aL.length bh)).heap[aq]? = some (.cells #[.slice aO ap.length aP, .int .i64 aB, .slice bl ay.length bm, .slice bo az.length bp] 28 (0, 0))) := ⟨zh af ce⟩
           have a3 : Aside0 (((((cr.setCell ⟨ah, 0, none⟩ (.slice aH ar.length aI)).setCell ⟨ah, 1, none⟩ (.int .i64 aW)).setCell ⟨ah, 2, none⟩ (.slice a6 aJ.length a7)).setCell ⟨ah, 3, none⟩ (.slice bg aL.length bh)).heap[aj]? = some (.cells #[.slice aM ag.length aK, .int .i64 an, .slice be ak.length bf, .slice bi al.length bj] 28 (0, 0))) := ⟨zh ae bS⟩
           have a4 : Aside0 (((((cr.setCell ⟨ah, 0, none⟩ (.slice aH ar.length aI)).setCell ⟨ah, 1, none⟩ (.int .i64 aW)).setCell ⟨ah, 2, none⟩ (.slice a6 aJ.length a7)).setCell ⟨ah, 3, none⟩ (.slice bg aL.length bh)).heap[ah]? = some (.cells #[.slice aH ar.length aI, .int .i64 aW, .slice a6 aJ.length a7, .slice bg aL.length bh] 28 (0, 0))) := ⟨by (with_reducible repeat (first | refine zN ?_ _ | refine zD ?_ | refine zA ?_ _)); refine blk_put (cs := #[.slice aH ar.length aI, .int .i64 aW, .slice a6 aJ.length a7, .slice none 0 0]) ?_ 3 _ rfl; (with_reducible repeat (first | refine zN ?_ _ | refine zD ?_ | refine zA ?_ _)); refine blk_put (cs := #[.slice aH ar.length aI, .int .i64 aW, .slice none 0 0, .slice none 0 0]) ?_ 2 _ rfl; (with_reducible repeat (first | refine zN ?_ _ | refine zD ?_ | refine zA ?_ _)); refine blk_put (cs := #[.slice aH ar.length aI, .int .i64 0, .slice none 0 0, .slice none 0 0]) ?_ 1 _ rfl; (with_reducible repeat (first | refine zN ?_ _ | refine zD ?_ | refine zA ?_ _)); refine blk_put (cs := #[.slice none 0 0, .int .i64 0, .slice none 0 0, .slice none 0 0]) ?_ 0 _ rfl; (with_reducible repeat (first | refine zN ?_ _ | refine zD ?_ | refine zA ?_ _)); exact ai.out⟩
           have a5 : Aside0 (Below w.heap.size w ((((cr.setCell ⟨ah, 0, none⟩ (.slice aH ar.length aI)).setCell ⟨ah, 1, none⟩ (.int .i64 aW)).setCell ⟨ah, 2, none⟩ (.slice a6 aJ.length a7)).setCell ⟨ah, 3, none⟩ (.slice bg aL.length bh))) := ⟨zb HB⟩
           (try clear ao); (try clear au); (try clear av); (try clear ax); (try clear aC); (try clear aD); (try clear aA); (try clear aF); (try clear aG); (try clear aa); (try clear af); (try clear ae); (try clear ai); (try clear HB)
           generalize ((((cr.setCell ⟨ah, 0, none⟩ (.slice aH ar.length aI)).setCell ⟨ah, 1, none⟩ (.int .i64 aW)).setCell ⟨ah, 2, none⟩ (.slice a6 aJ.length a7)).setCell ⟨ah, 3, none⟩ (.slice bg aL.length bh)) = w72 at bz bA bF bG bL bN bO bP bQ bT a0 a3 a4 a5 ⊢
           have ao := bz; have au := bA; have av := bF; have ax := bG; have aC := bL; have aD := bN; have aA := bO; have aF := bP; have aG := bQ; have aa := bT; have af := a0; have ae := a3; have ai := a4; have HB := a5; clear bz bA bF bG bL bN bO bP bQ bT a0 a3 a4 a5
           have bz := zK (Kd.R_drew ao.out)
           have bA := zK (Kd.S_drew au.out)
           have bF := zK (Kd.S_drew av.out)
           have bG := zK (Kd.R_drew ax.out)
           have bL := zK (Kd.S_drew aC.out)
           have bN := zK (Kd.S_drew aD.out)
           have bO := zK (Kd.R_drew aA.out)
           have bP := zK (Kd.S_drew aF.out)
           have bQ := zK (Kd.S_drew aG.out)
           have bT := zK (zD aa.out)
           have a0 := zK (zD af.out)
           have a3 := zK (zD ae.out)
           have a4 := zK (zD ai.out)
           have a5 := zK (zE HB.out)
           clear ao au av ax aC aD aA aF aG aa af ae ai HB; have ao := bz; have au := bA; have av := bF; have ax := bG; have aC := bL; have aD := bN; have aA := bO; have aF := bP; have aG := bQ; have aa := bT; have af := a0; have ae := a3; have ai := a4; have HB := a5; clear bz bA bF bG bL bN bO bP bQ bT a0 a3 a4 a5
           refine start_ (n := 50) (S := fun w' => w'.cell? ⟨am, 0, none⟩ = some (.slice aQ ab.length aR) ∧ w'.cell? ⟨am, 1, none⟩ = some (.int .i64 a0_1) ∧ w'.cell? ⟨am, 2, none⟩ = some (.slice aS ac.length aT) ∧ w'.cell? ⟨am, 3, none⟩ = some (.slice aU ad.length aV) ∧ w'.cell? ⟨aq, 0, none⟩ = some (.slice aO ap.length aP) ∧ w'.cell? ⟨aq, 1, none⟩ = some (.int .i64 aB) ∧ w'.cell? ⟨aq, 2, none⟩ = some (.slice bl ay.length bm) ∧ w'.cell? ⟨aq, 3, none⟩ = some (.slice bo az.length bp) ∧ w'.cell? ⟨aj, 0, none⟩ = some (.slice aM ag.length aK) ∧ w'.cell? ⟨aj, 1, none⟩ = some (.int .i64 an) ∧ w'.cell? ⟨aj, 2, none⟩ = some (.slice be ak.length bf) ∧ w'.cell? ⟨aj, 3, none⟩ = some (.slice bi al.length bj) ∧ w'.cell? ⟨ah, 0, none⟩ = some (.slice aH ar.length aI) ∧ w'.cell? ⟨ah, 1, none⟩ = some (.int .i64 aW) ∧ w'.cell? ⟨ah, 2, none⟩ = some (.slice a6 aJ.length a7) ∧ w'.cell? ⟨ah, 3, none⟩ = some (.slice bg aL.length bh)) (ds := []) #[ff, ff, ff, ff, ff, ff, ff, ff, ff, ff, ff, ff, ff, ff, ff, ff, ff, ff, ff, ff, ff, ff, ff, ff, ff, ff, ff, ff, ff, ff, ff, ff, ff, ff, ff, ff, ff, ff, ff, ff, ff, ff, ff, ff, ff, ff, ff, ff, ff, ff] (by kernel_rfl) rfl rfl ⟨(blk_cell aa.out 0).trans rfl, (blk_cell aa.out 1).trans rfl, (blk_cell aa.out 2).trans rfl, (blk_cell aa.out 3).trans rfl, (blk_cell af.out 0).trans rfl, (blk_cell af.out 1).trans rfl, (blk_cell af.out 2).trans rfl, (blk_cell af.out 3).trans rfl, (blk_cell ae.out 0).trans rfl, (blk_cell ae.out 1).trans rfl, (blk_cell ae.out 2).trans rfl, (blk_cell ae.out 3).trans rfl, (blk_cell ai.out 0).trans rfl, (blk_cell ai.out 1).trans rfl, (blk_cell ai.out 2).trans rfl, (blk_cell ai.out 3).trans rfl⟩ (fun hHeld => ?_); refine with_tabW laws_FnLoopTurns.tab7 laws_FnLoopTurns.bits7 (fun HT_ HW_ => ?_)
           generalize w72.drew = w73 at ao au av ax aC aD aA aF aG aa af ae ai HB hHeld ⊢
           refine zt 0 (some 51) #[tt, ff, ff, ff, ff, ff, ff, ff, ff, ff, ff, ff, ff, ff, ff, ff, ff, ff, ff, ff, ff, ff, ff, ff, ff, ff, ff, ff, ff, ff, ff, ff, ff, ff, ff, ff, ff, ff, ff, ff, ff, ff, ff, ff, ff, ff, ff, ff, ff, ff] (take_ofW HT_.out HW_.out (by kernel_rfl)) hHeld ?_
           refine one_ (i := 1) (N := some 52) #[tt, tt, ff, ff, ff, ff, ff, ff, ff, ff, ff, ff, ff, ff, ff, ff, ff, ff, ff, ff, ff, ff, ff, ff, ff, ff, ff, ff, ff, ff, ff, ff, ff, ff, ff, ff, ff, ff, ff, ff, ff, ff, ff, ff, ff, ff, ff, ff, ff, ff] rfl rfl (one_of HT_.out (by kernel_rfl)) (by decide) (fun K hK => ?_)
           refine goes_ Try.func24 (by kernel_rfl) rfl #[.agg #[.slice aQ ab.length aR, .int .i64 a0_1, .slice aS ac.length aT, .slice aU ad.length aV]] (by rfl) rfl rfl zg ?_
           with_reducible refine (impl_LoopOk.calls kj3 _ _ ab a0_1 _ _ ac _ _ ad true _ ?side1 ?side2 ?side3 ?side4 ?side5 ?side6 A54.out).mono ?_
           (case side1 => exact zs (Kd.C_below b1.out HB.out))
           (case side2 => exact b2.out)
           (case side3 => exact zs (Kd.C_below b3.out HB.out))
           (case side4 => exact b4.out)
           (case side5 => exact zs (Kd.C_below b5.out HB.out))
           (case side6 => exact b6.out)
           rintro e w74 ⟨rfl, hb⟩
           refine ⟨_, rfl, ?_⟩
           have bz := zK (Kd.R_below (zR ao) hb)
           have bA := zK (Kd.S_below (zT au) hb)
           have bF := zK (Kd.S_below (zT av) hb)
           have bG := zK (Kd.R_below (zR ax) hb)
           have bL := zK (Kd.S_below (zT aC) hb)
           have bN := zK (Kd.S_below (zT aD) hb)
           have bO := zK (Kd.R_below (zR aA) hb)
           have bP := zK (Kd.S_below (zT aF) hb)
           have bQ := zK (Kd.S_below (zT aG) hb)
           have bT := zK (blk_below (g := am) (o := .cells #[.slice aQ ab.length aR, .int .i64 a0_1, .slice aS ac.length aT, .slice aU ad.length aV] 28 (0, 0)) (zk aa) hb)
           have a0 := zK (blk_below (g := aq) (o := .cells #[.slice aO ap.length aP, .int .i64 aB, .slice bl ay.length bm, .slice bo az.length bp] 28 (0, 0)) (zk af) hb)
           have a3 := zK (blk_below (g := aj) (o := .cells #[.slice aM ag.length aK, .int .i64 an, .slice be ak.length bf, .slice bi al.length bj] 28 (0, 0)) (zk ae) hb)
           have a4 := zK (blk_below (g := ah) (o := .cells #[.slice aH ar.length aI, .int .i64 aW, .slice a6 aJ.length a7, .slice bg aL.length bh] 28 (0, 0)) (zk ai) hb)
           have a5 := zK (below_step (zb HB) hb)
           clear ao au av ax aC aD aA aF aG aa af ae ai HB; have ao := bz; have au := bA; have av := bF; have ax := bG; have aC := bL; have aD := bN; have aA := bO; have aF := bP; have aG := bQ; have aa := bT; have af := a0; have ae := a3; have ai := a4; have HB := a5; clear bz bA bF bG bL bN bO bP bQ bT a0 a3 a4 a5; (try clear hb); (try clear hb2); (try clear hk); (try clear hi)
           refine hK.out _ _ ⟨(blk_cell aa.out 0).trans rfl, (blk_cell aa.out 1).trans rfl, (blk_cell aa.out 2).trans rfl, (blk_cell aa.out 3).trans rfl, (blk_cell af.out 0).trans rfl, (blk_cell af.out 1).trans rfl, (blk_cell af.out 2).trans rfl, (blk_cell af.out 3).trans rfl, (blk_cell ae.out 0).trans rfl, (blk_cell ae.out 1).trans rfl, (blk_cell ae.out 2).trans rfl, (blk_cell ae.out 3).trans rfl, (blk_cell ai.out 0).trans rfl, (blk_cell ai.out 1).trans rfl, (blk_cell ai.out 2).trans rfl, (blk_cell ai.out 3).trans rfl⟩ (fun hHeld => ?_)
           clear hK K
           refine norm_ (a' := ?_) ?_ ?_
           rotate_left
           ·show Act.put _ (some 52) _ = _
            simp only [Act.put, zp, zq, zr, i64_w, i32_w]
            rfl
           refine zu 2 (some 53) #[tt, tt, tt, ff, ff, ff, ff, ff, ff, ff, ff, ff, ff, ff, ff, ff, ff, ff, ff, ff, ff, ff, ff, ff, ff, ff, ff, ff, ff, ff, ff, ff, ff, ff, ff, ff, ff, ff, ff, ff, ff, ff, ff, ff, ff, ff, ff, ff, ff, ff] (any_of HT_.out (by kernel_rfl)) ?_
           refine zu 3 (some 54) #[tt, tt, tt, tt, ff, ff, ff, ff, ff, ff, ff, ff, ff, ff, ff, ff, ff, ff, ff, ff, ff, ff, ff, ff, ff, ff, ff, ff, ff, ff, ff, ff, ff, ff, ff, ff, ff, ff, ff, ff, ff, ff, ff, ff, ff, ff, ff, ff, ff, ff] (any_of HT_.out (by kernel_rfl)) ?_
           refine zt 4 (some 55) #[tt, tt, tt, tt, tt, ff, ff, ff, ff, ff, ff, ff, ff, ff, ff, ff, ff, ff, ff, ff, ff, ff, ff, ff, ff, ff, ff, ff, ff, ff, ff, ff, ff, ff, ff, ff, ff, ff, ff, ff, ff, ff, ff, ff, ff, ff, ff, ff, ff, ff] (take_ofW HT_.out HW_.out (by kernel_rfl)) hHeld ?_
           refine one_ (i := 5) (N := some 56) #[tt, tt, tt, tt, tt, tt, ff, ff, ff, ff, ff, ff, ff, ff, ff, ff, ff, ff, ff, ff, ff, ff, ff, ff, ff, ff, ff, ff, ff, ff, ff, ff, ff, ff, ff, ff, ff, ff, ff, ff, ff, ff, ff, ff, ff, ff, ff, ff, ff, ff] rfl rfl (one_of HT_.out (by kernel_rfl)) (by decide) (fun K hK => ?_)
           refine goes_ Try.func24 (by kernel_rfl) rfl #[.agg #[.slice aO ap.length aP, .int .i64 aB, .slice bl ay.length bm, .slice bo az.length bp]] (by rfl) rfl rfl zg ?_
           with_reducible refine (impl_LoopOk.calls kj3 _ _ ap aB _ _ ay _ _ az true _ ?side1 ?side2 ?side3 ?side4 ?side5 ?side6 A56.out).mono ?_
           (case side1 => exact zs (Kd.R_reads' ao.out).2.2)
           (case side2 => exact (Kd.R_reads' ao.out).2.1)
           (case side3 => exact zs (Kd.S_reads' au.out).2.2)
           (case side4 => exact (Kd.S_reads' au.out).2.1)
           (case side5 => exact zs (Kd.S_reads' av.out).2.2)
           (case side6 => exact (Kd.S_reads' av.out).2.1)
           rintro e w75 ⟨rfl, hb⟩
           refine ⟨_, rfl, ?_⟩
           have bz := zK (Kd.R_below (zR ao) hb)
           have bA := zK (Kd.S_below (zT au) hb)
           have bF := zK (Kd.S_below (zT av) hb)
           have bG := zK (Kd.R_below (zR ax) hb)
           have bL := zK (Kd.S_below (zT aC) hb)
           have bN := zK (Kd.S_below (zT aD) hb)
           have bO := zK (Kd.R_below (zR aA) hb)
           have bP := zK (Kd.S_below (zT aF) hb)
           have bQ := zK (Kd.S_below (zT aG) hb)
           have bT := zK (blk_below (g := am) (o := .cells #[.slice aQ ab.length aR, .int .i64 a0_1, .slice aS ac.length aT, .slice aU ad.length aV] 28 (0, 0)) (zk aa) hb)
           have a0 := zK (blk_below (g := aq) (o := .cells #[.slice aO ap.length aP, .int .i64 aB, .slice bl ay.length bm, .slice bo az.length bp] 28 (0, 0)) (zk af) hb)
           have a3 := zK (blk_below (g := aj) (o := .cells #[.slice aM ag.length aK, .int .i64 an, .slice be ak.length bf, .slice bi al.length bj] 28 (0, 0)) (zk ae) hb)
           have a4 := zK (blk_below (g := ah) (o := .cells #[.slice aH ar.length aI, .int .i64 aW, .slice a6 aJ.length a7, .slice bg aL.length bh] 28 (0, 0)) (zk ai) hb)
           have a5 := zK (below_step (zb HB) hb)
           clear ao au av ax aC aD aA aF aG aa af ae ai HB; have ao := bz; have au := bA; have av := bF; have ax := bG; have aC := bL; have aD := bN; have aA := bO; have aF := bP; have aG := bQ; have aa := bT; have af := a0; have ae := a3; have ai := a4; have HB := a5; clear bz bA bF bG bL bN bO bP bQ bT a0 a3 a4 a5; (try clear hb); (try clear hb2); (try clear hk); (try clear hi)
           refine hK.out _ _ ⟨(blk_cell aa.out 0).trans rfl, (blk_cell aa.out 1).trans rfl, (blk_cell aa.out 2).trans rfl, (blk_cell aa.out 3).trans rfl, (blk_cell af.out 0).trans rfl, (blk_cell af.out 1).trans rfl, (blk_cell af.out 2).trans rfl, (blk_cell af.out 3).trans rfl, (blk_cell ae.out 0).trans rfl, (blk_cell ae.out 1).trans rfl, (blk_cell ae.out 2).trans rfl, (blk_cell ae.out 3).trans rfl, (blk_cell ai.out 0).trans rfl, (blk_cell ai.out 1).trans rfl, (blk_cell ai.out 2).trans rfl, (blk_cell ai.out 3).trans rfl⟩ (fun hHeld => ?_)
           clear hK K
           refine norm_ (a' := ?_) ?_ ?_
           rotate_left
           ·show Act.put _ (some 56) _ = _
            simp only [Act.put, zp, zq, zr, i64_w, i32_w]
            rfl
           refine zu 6 (some 57) #[tt, tt, tt, tt, tt, tt, tt, ff, ff, ff, ff, ff, ff, ff, ff, ff, ff, ff, ff, ff, ff, ff, ff, ff, ff, ff, ff, ff, ff, ff, ff, ff, ff, ff, ff, ff, ff, ff, ff, ff, ff, ff, ff, ff, ff, ff, ff, ff, ff, ff] (any_of HT_.out (by kernel_rfl)) ?_
           refine zu 7 (some 58) #[tt, tt, tt, tt, tt, tt, tt, tt, ff, ff, ff, ff, ff, ff, ff, ff, ff, ff, ff, ff, ff, ff, ff, ff, ff, ff, ff, ff, ff, ff, ff, ff, ff, ff, ff, ff, ff, ff, ff, ff, ff, ff, ff, ff, ff, ff, ff, ff, ff, ff] (any_of HT_.out (by kernel_rfl)) ?_
           refine zu 8 (some 59) #[tt, tt, tt, tt, tt, tt, tt, tt, tt, ff, ff, ff, ff, ff, ff, ff, ff, ff, ff, ff, ff, ff, ff, ff, ff, ff, ff, ff, ff, ff, ff, ff, ff, ff, ff, ff, ff, ff, ff, ff, ff, ff, ff, ff, ff, ff, ff, ff, ff, ff] (any_of HT_.out (by kernel_rfl)) ?_
           refine zu 11 (some 62) #[tt, tt, tt, tt, tt, tt, tt, tt, tt, ff, ff, tt, ff, ff, ff, ff, ff, ff, ff, ff, ff, ff, ff, ff, ff, ff, ff, ff, ff, ff, ff, ff, ff, ff, ff, ff, ff, ff, ff, ff, ff, ff, ff, ff, ff, ff, ff, ff, ff, ff] (any_of HT_.out (by kernel_rfl)) ?_
           refine zt 9 (some 60) #[tt, tt, tt, tt, tt, tt, tt, tt, tt, tt, ff, tt, ff, ff, ff, ff, ff, ff, ff, ff, ff, ff, ff, ff, ff, ff, ff, ff, ff, ff, ff, ff, ff, ff, ff, ff, ff, ff, ff, ff, ff, ff, ff, ff, ff, ff, ff, ff, ff, ff] (take_ofW HT_.out HW_.out (by kernel_rfl)) hHeld ?_
           refine zt 10 (some 61) #[tt, tt, tt, tt, tt, tt, tt, tt, tt, tt, tt, tt, ff, ff, ff, ff, ff, ff, ff, ff, ff, ff, ff, ff, ff, ff, ff, ff, ff, ff, ff, ff, ff, ff, ff, ff, ff, ff, ff, ff, ff, ff, ff, ff, ff, ff, ff, ff, ff, ff] (take_ofW HT_.out HW_.out (by kernel_rfl)) hHeld ?_
           refine one_ (i := 12) (N := some 63) #[tt, tt, tt, tt, tt, tt, tt, tt, tt, tt, tt, tt, tt, ff, ff, ff, ff, ff, ff, ff, ff, ff, ff, ff, ff, ff, ff, ff, ff, ff, ff, ff, ff, ff, ff, ff, ff, ff, ff, ff, ff, ff, ff, ff, ff, ff, ff, ff, ff, ff] rfl rfl (one_of HT_.out (by kernel_rfl)) (by decide) (fun K hK => ?_)
           refine goes_ Try.func26 (by kernel_rfl) rfl #[.agg #[.slice aQ ab.length aR, .int .i64 a0_1, .slice aS ac.length aT, .slice aU ad.length aV], .int .i64 a1] (by rfl) rfl rfl zg ?_
           with_reducible refine (spec_TurnLoop.calls kj3 _ _ ab a0_1 _ _ ac _ _ ad a1 di dj dk dl _ ?side1 ?side2 ?side3 ?side4 ?side5 ?side6 A58.out).mono ?_
           (case side1 => exact zs (Kd.C_below b1.out HB.out))
           (case side2 => exact b2.out)
           (case side3 => exact zs (Kd.C_below b3.out HB.out))
           (case side4 => exact b4.out)
           (case side5 => exact zs (Kd.C_below b5.out HB.out))
           (case side6 => exact b6.out)
           rintro e w76 ⟨v561, v565, v568, rfl, ho0, ho1, ho2, hb⟩
           refine ⟨_, rfl, ?_⟩
           have bz := zK (Kd.R_elder' (zR ao) (Kd.R_base ho0) hb)
           have bA := zK (Kd.S_mono (Kd.S_told (Kd.S_told (Kd.S_old (zT au) hb) (Kd.R_base ho0)) (Kd.S_base ho1)) (fun _ h_ => h_.1))
           have bF := zK (Kd.S_mono (Kd.S_told (Kd.S_told (Kd.S_old (zT av) hb) (Kd.R_base ho0)) (Kd.S_base ho2)) (fun _ h_ => h_.1))
           have bG := zK (Kd.R_elder' (zR ax) (Kd.R_base ho0) hb)
           have bL := zK (Kd.S_mono (Kd.S_told (Kd.S_told (Kd.S_old (zT aC) hb) (Kd.R_base ho0)) (Kd.S_base ho1)) (fun _ h_ => h_.1))
           have bN := zK (Kd.S_mono (Kd.S_told (Kd.S_told (Kd.S_old (zT aD) hb) (Kd.R_base ho0)) (Kd.S_base ho2)) (fun _ h_ => h_.1))
           have bO := zK (Kd.R_elder' (zR aA) (Kd.R_base ho0) hb)
           have bP := zK (Kd.S_mono (Kd.S_told (Kd.S_told (Kd.S_old (zT aF) hb) (Kd.R_base ho0)) (Kd.S_base ho1)) (fun _ h_ => h_.1))
           have bQ := zK (Kd.S_mono (Kd.S_told (Kd.S_told (Kd.S_old (zT aG) hb) (Kd.R_base ho0)) (Kd.S_base ho2)) (fun _ h_ => h_.1))
           have bT := zK (Kd.R_lower (Kd.R_new' (Kd.R_new' (Kd.R_new' ho0 (Kd.R_lt (zR ao))) (Kd.R_lt (zR ax))) (Kd.R_lt (zR aA))) (below_size (zb HB)))
           have a0 := zK (Kd.S_lower (Kd.S_new' (Kd.S_new' (Kd.S_new' (Kd.S_new' (Kd.S_new' (Kd.S_new' ho1 (Kd.R_lt (zR ao))) (Kd.S_lt (zT au))) (Kd.R_lt (zR ax))) (Kd.S_lt (zT aC))) (Kd.R_lt (zR aA))) (Kd.S_lt (zT aF))) (below_size (zb HB)))
           have a3 := zK (Kd.S_lower (Kd.S_new' (Kd.S_new' (Kd.S_new' (Kd.S_new' (Kd.S_new' (Kd.S_new' ho2 (Kd.R_lt (zR ao))) (Kd.S_lt (zT av))) (Kd.R_lt (zR ax))) (Kd.S_lt (zT aD))) (Kd.R_lt (zR aA))) (Kd.S_lt (zT aG))) (below_size (zb HB)))
           have a4 := zK (blk_below (g := am) (o := .cells #[.slice aQ ab.length aR, .int .i64 a0_1, .slice aS ac.length aT, .slice aU ad.length aV] 28 (0, 0)) (zk aa) hb)
           have a5 := zK (blk_below (g := aq) (o := .cells #[.slice aO ap.length aP, .int .i64 aB, .slice bl ay.length bm, .slice bo az.length bp] 28 (0, 0)) (zk af) hb)
           have bB := zK (blk_below (g := aj) (o := .cells #[.slice aM ag.length aK, .int .i64 an, .slice be ak.length bf, .slice bi al.length bj] 28 (0, 0)) (zk ae) hb)
           have bE := zK (blk_below (g := ah) (o := .cells #[.slice aH ar.length aI, .int .i64 aW, .slice a6 aJ.length a7, .slice bg aL.length bh] 28 (0, 0)) (zk ai) hb)
           have bU := zK (below_step (zb HB) hb)
           clear ao au av ax aC aD aA aF aG aa af ae ai HB; have ao := bz; have au := bA; have av := bF; have ax := bG; have aC := bL; have aD := bN; have aA := bO; have aF := bP; have aG := bQ; have bk := bT; have br := a0; have bs := a3; have aa := a4; have af := a5; have ae := bB; have ai := bE; have HB := bU; clear bz bA bF bG bL bN bO bP bQ bT a0 a3 a4 a5 bB bE bU; (try clear hb); (try clear hb2); (try clear hk); (try clear hi); (try clear ho0); (try clear ho1); (try clear ho2)
           obtain ⟨Ao77, co77, ej⟩ := Kd.R_slice bk.out
           (first | subst ej | (injection ej with f1_ f2_ f3_; have f4_ := f1_.symm; have f5_ := f3_.symm; clear f1_ f2_ f3_; subst f4_; subst f5_))
           obtain ⟨Ao78, co78, ek⟩ := Kd.S_slice br.out
           (first | subst ek | (injection ek with f1_ f2_ f3_; have f4_ := f1_.symm; have f5_ := f3_.symm; clear f1_ f2_ f3_; subst f4_; subst f5_))
           obtain ⟨Ao79, co79, el⟩ := Kd.S_slice bs.out
           (first | subst el | (injection el with f1_ f2_ f3_; have f4_ := f1_.symm; have f5_ := f3_.symm; clear f1_ f2_ f3_; subst f4_; subst f5_))
           refine hK.out _ _ ⟨(blk_cell aa.out 0).trans rfl, (blk_cell aa.out 1).trans rfl, (blk_cell aa.out 2).trans rfl, (blk_cell aa.out 3).trans rfl, (blk_cell af.out 0).trans rfl, (blk_cell af.out 1).trans rfl, (blk_cell af.out 2).trans rfl, (blk_cell af.out 3).trans rfl, (blk_cell ae.out 0).trans rfl, (blk_cell ae.out 1).trans rfl, (blk_cell ae.out 2).trans rfl, (blk_cell ae.out 3).trans rfl, (blk_cell ai.out 0).trans rfl, (blk_cell ai.out 1).trans rfl, (blk_cell ai.out 2).trans rfl, (blk_cell ai.out 3).trans rfl⟩ (fun hHeld => ?_)
           clear hK K
           refine norm_ (a' := ?_) ?_ ?_
           rotate_left
           ·show Act.put _ (some 63) _ = _
            simp only [Act.put, zp, zq, zr, i64_w, i32_w]
            rfl
           refine one_ (i := 13) (N := some 64) #[tt, tt, tt, tt, tt, tt, tt, tt, tt, tt, tt, tt, tt, tt, ff, ff, ff, ff, ff, ff, ff, ff, ff, ff, ff, ff, ff, ff, ff, ff, ff, ff, ff, ff, ff, ff, ff, ff, ff, ff, ff, ff, ff, ff, ff, ff, ff, ff, ff, ff] rfl rfl (one_of HT_.out (by kernel_rfl)) (by decide) (fun K hK => ?_)
           refine goes_ Try.func25 (by kernel_rfl) rfl #[.agg #[.slice aO ap.length aP, .int .i64 aB, .slice bl ay.length bm, .slice bo az.length bp], .agg #[.slice Ao77 di.length co77, .int .i64 dj, .slice Ao78 dk.length co78, .slice Ao79 dl.length co79]] (by rfl) rfl rfl zg ?_
           with_reducible refine (laws_sameLoop.calls kj3 _ _ ap aB _ _ ay _ _ az _ _ di dj _ _ dk _ _ dl true _ ?side1 ?side2 ?side3 ?side4 ?side5 ?side6 ?side7 ?side8 ?side9 ?side10 ?side11 ?side12 A59.out).mono ?_
           (case side1 => exact zs (Kd.R_reads' ao.out).2.2)
           (case side2 => exact (Kd.R_reads' ao.out).2.1)
           (case side3 => exact zs (Kd.S_reads' au.out).2.2)
           (case side4 => exact (Kd.S_reads' au.out).2.1)
           (case side5 => exact zs (Kd.S_reads' av.out).2.2)
           (case side6 => exact (Kd.S_reads' av.out).2.1)
           (case side7 => exact zs (Kd.R_reads' bk.out).2.2)
           (case side8 => exact (Kd.R_reads' bk.out).2.1)
           (case side9 => exact zs (Kd.S_reads' br.out).2.2)
           (case side10 => exact (Kd.S_reads' br.out).2.1)
           (case side11 => exact zs (Kd.S_reads' bs.out).2.2)
           (case side12 => exact (Kd.S_reads' bs.out).2.1)
           rintro e w80 ⟨rfl, hb⟩
           refine ⟨_, rfl, ?_⟩
           have bz := zK (Kd.R_below (zR ao) hb)
           have bA := zK (Kd.S_below (zT au) hb)
           have bF := zK (Kd.S_below (zT av) hb)
           have bG := zK (Kd.R_below (zR ax) hb)
           have bL := zK (Kd.S_below (zT aC) hb)
           have bN := zK (Kd.S_below (zT aD) hb)
           have bO := zK (Kd.R_below (zR aA) hb)
           have bP := zK (Kd.S_below (zT aF) hb)
           have bQ := zK (Kd.S_below (zT aG) hb)
           have bT := zK (Kd.R_below (zR bk) hb)
           have a0 := zK (Kd.S_below (zT br) hb)
           have a3 := zK (Kd.S_below (zT bs) hb)
           have a4 := zK (blk_below (g := am) (o := .cells #[.slice aQ ab.length aR, .int .i64 a0_1, .slice aS ac.length aT, .slice aU ad.length aV] 28 (0, 0)) (zk aa) hb)
           have a5 := zK (blk_below (g := aq) (o := .cells #[.slice aO ap.length aP, .int .i64 aB, .slice bl ay.length bm, .slice bo az.length bp] 28 (0, 0)) (zk af) hb)
           have bB := zK (blk_below (g := aj) (o := .cells #[.slice aM ag.length aK, .int .i64 an, .slice be ak.length bf, .slice bi al.length bj] 28 (0, 0)) (zk ae) hb)
           have bE := zK (blk_below (g := ah) (o := .cells #[.slice aH ar.length aI, .int .i64 aW, .slice a6 aJ.length a7, .slice bg aL.length bh] 28 (0, 0)) (zk ai) hb)
           have bU := zK (below_step (zb HB) hb)
           clear ao au av ax aC aD aA aF aG bk br bs aa af ae ai HB; have ao := bz; have au := bA; have av := bF; have ax := bG; have aC := bL; have aD := bN; have aA := bO; have aF := bP; have aG := bQ; have bk := bT; have br := a0; have bs := a3; have aa := a4; have af := a5; have ae := bB; have ai := bE; have HB := bU; clear bz bA bF bG bL bN bO bP bQ bT a0 a3 a4 a5 bB bE bU; (try clear hb); (try clear hb2); (try clear hk); (try clear hi)
           refine hK.out _ _ ⟨(blk_cell aa.out 0).trans rfl, (blk_cell aa.out 1).trans rfl, (blk_cell aa.out 2).trans rfl, (blk_cell aa.out 3).trans rfl, (blk_cell af.out 0).trans rfl, (blk_cell af.out 1).trans rfl, (blk_cell af.out 2).trans rfl, (blk_cell af.out 3).trans rfl, (blk_cell ae.out 0).trans rfl, (blk_cell ae.out 1).trans rfl, (blk_cell ae.out 2).trans rfl, (blk_cell ae.out 3).trans rfl, (blk_cell ai.out 0).trans rfl, (blk_cell ai.out 1).trans rfl, (blk_cell ai.out 2).trans rfl, (blk_cell ai.out 3).trans rfl⟩ (fun hHeld => ?_)
           clear hK K
           refine norm_ (a' := ?_) ?_ ?_
           rotate_left
           ·show Act.put _ (some 64) _ = _
            simp only [Act.put, zp, zq, zr, i64_w, i32_w]
            rfl
           refine zu 14 (some 65) #[tt, tt, tt, tt, tt, tt, tt, tt, tt, tt, tt, tt, tt, tt, tt, ff, ff, ff, ff, ff, ff, ff, ff, ff, ff, ff, ff, ff, ff, ff, ff, ff, ff, ff, ff, ff, ff, ff, ff, ff, ff, ff, ff, ff, ff, ff, ff, ff, ff, ff] (any_of HT_.out (by kernel_rfl)) ?_
           refine zu 15 (some 66) #[tt, tt, tt, tt, tt, tt, tt, tt, tt, tt, tt, tt, tt, tt, tt, tt, ff, ff, ff, ff, ff, ff, ff, ff, ff, ff, ff, ff, ff, ff, ff, ff, ff, ff, ff, ff, ff, ff, ff, ff, ff, ff, ff, ff, ff, ff, ff, ff, ff, ff] (any_of HT_.out (by kernel_rfl)) ?_
           refine zu 16 (some 67) #[tt, tt, tt, tt, tt, tt, tt, tt, tt, tt, tt, tt, tt, tt, tt, tt, tt, ff, ff, ff, ff, ff, ff, ff, ff, ff, ff, ff, ff, ff, ff, ff, ff, ff, ff, ff, ff, ff, ff, ff, ff, ff, ff, ff, ff, ff, ff, ff, ff, ff] (any_of HT_.out (by kernel_rfl)) ?_
           refine zu 18 (some 69) #[tt, tt, tt, tt, tt, tt, tt, tt, tt, tt, tt, tt, tt, tt, tt, tt, tt, ff, tt, ff, ff, ff, ff, ff, ff, ff, ff, ff, ff, ff, ff, ff, ff, ff, ff, ff, ff, ff, ff, ff, ff, ff, ff, ff, ff, ff, ff, ff, ff, ff] (any_of HT_.out (by kernel_rfl)) ?_
           refine zu 21 (some 72) #[tt, tt, tt, tt, tt, tt, tt, tt, tt, tt, tt, tt, tt, tt, tt, tt, tt, ff, tt, ff, ff, tt, ff, ff, ff, ff, ff, ff, ff, ff, ff, ff, ff, ff, ff, ff, ff, ff, ff, ff, ff, ff, ff, ff, ff, ff, ff, ff, ff, ff] (any_of HT_.out (by kernel_rfl)) ?_
           refine zu 22 (some 73) #[tt, tt, tt, tt, tt, tt, tt, tt, tt, tt, tt, tt, tt, tt, tt, tt, tt, ff, tt, ff, ff, tt, tt, ff, ff, ff, ff, ff, ff, ff, ff, ff, ff, ff, ff, ff, ff, ff, ff, ff, ff, ff, ff, ff, ff, ff, ff, ff, ff, ff] (any_of HT_.out (by kernel_rfl)) ?_
           refine zu 23 (some 74) #[tt, tt, tt, tt, tt, tt, tt, tt, tt, tt, tt, tt, tt, tt, tt, tt, tt, ff, tt, ff, ff, tt, tt, tt, ff, ff, ff, ff, ff, ff, ff, ff, ff, ff, ff, ff, ff, ff, ff, ff, ff, ff, ff, ff, ff, ff, ff, ff, ff, ff] (any_of HT_.out (by kernel_rfl)) ?_
           refine zt 17 (some 68) #[tt, tt, tt, tt, tt, tt, tt, tt, tt, tt, tt, tt, tt, tt, tt, tt, tt, tt, tt, ff, ff, tt, tt, tt, ff, ff, ff, ff, ff, ff, ff, ff, ff, ff, ff, ff, ff, ff, ff, ff, ff, ff, ff, ff, ff, ff, ff, ff, ff, ff] (take_ofW HT_.out HW_.out (by kernel_rfl)) hHeld ?_
           refine zt 20 (some 71) #[tt, tt, tt, tt, tt, tt, tt, tt, tt, tt, tt, tt, tt, tt, tt, tt, tt, tt, tt, ff, tt, tt, tt, tt, ff, ff, ff, ff, ff, ff, ff, ff, ff, ff, ff, ff, ff, ff, ff, ff, ff, ff, ff, ff, ff, ff, ff, ff, ff, ff] (take_ofW HT_.out HW_.out (by kernel_rfl)) hHeld ?_
           refine one_ (i := 19) (N := some 70) #[tt, tt, tt, tt, tt, tt, tt, tt, tt, tt, tt, tt, tt, tt, tt, tt, tt, tt, tt, tt, tt, tt, tt, tt, ff, ff, ff, ff, ff, ff, ff, ff, ff, ff, ff, ff, ff, ff, ff, ff, ff, ff, ff, ff, ff, ff, ff, ff, ff, ff] rfl rfl (one_of HT_.out (by kernel_rfl)) (by decide) (fun K hK => ?_)
           refine goes_ Try.func19 (by kernel_rfl) rfl #[.agg #[.slice aO ap.length aP, .int .i64 aB, .slice bl ay.length bm, .slice bo az.length bp], .int .i64 a2] (by rfl) rfl rfl zg ?_
           with_reducible refine (impl_TurnLoop.calls kj3 _ _ ap aB _ _ ay _ _ az a2 cI cJ cK cL _ ?side1 ?side2 ?side3 ?side4 ?side5 ?side6 A61.out).mono ?_
           (case side1 => exact zs (Kd.R_reads' ao.out).2.2)
           (case side2 => exact (Kd.R_reads' ao.out).2.1)
           (case side3 => exact zs (Kd.S_reads' au.out).2.2)
           (case side4 => exact (Kd.S_reads' au.out).2.1)
           (case side5 => exact zs (Kd.S_reads' av.out).2.2)
           (case side6 => exact (Kd.S_reads' av.out).2.1)
           rintro e w81 ⟨v572, v576, v579, rfl, ho0, ho1, ho2, hb⟩
           refine ⟨_, rfl, ?_⟩
           have bz := zK (Kd.R_elder' (zR ao) (Kd.R_base ho0) hb)
           have bA := zK (Kd.S_mono (Kd.S_told (Kd.S_told (Kd.S_old (zT au) hb) (Kd.R_base ho0)) (Kd.S_base ho1)) (fun _ h_ => h_.1))
           have bF := zK (Kd.S_mono (Kd.S_told (Kd.S_told (Kd.S_old (zT av) hb) (Kd.R_base ho0)) (Kd.S_base ho2)) (fun _ h_ => h_.1))
           have bG := zK (Kd.R_elder' (zR ax) (Kd.R_base ho0) hb)
           have bL := zK (Kd.S_mono (Kd.S_told (Kd.S_told (Kd.S_old (zT aC) hb) (Kd.R_base ho0)) (Kd.S_base ho1)) (fun _ h_ => h_.1))
           have bN := zK (Kd.S_mono (Kd.S_told (Kd.S_told (Kd.S_old (zT aD) hb) (Kd.R_base ho0)) (Kd.S_base ho2)) (fun _ h_ => h_.1))
           have bO := zK (Kd.R_elder' (zR aA) (Kd.R_base ho0) hb)
           have bP := zK (Kd.S_mono (Kd.S_told (Kd.S_told (Kd.S_old (zT aF) hb) (Kd.R_base ho0)) (Kd.S_base ho1)) (fun _ h_ => h_.1))
           have bQ := zK (Kd.S_mono (Kd.S_told (Kd.S_told (Kd.S_old (zT aG) hb) (Kd.R_base ho0)) (Kd.S_base ho2)) (fun _ h_ => h_.1))
           have bT := zK (Kd.R_elder' (zR bk) (Kd.R_base ho0) hb)
           have a0 := zK (Kd.S_mono (Kd.S_told (Kd.S_told (Kd.S_old (zT br) hb) (Kd.R_base ho0)) (Kd.S_base ho1)) (fun _ h_ => h_.1))
           have a3 := zK (Kd.S_mono (Kd.S_told (Kd.S_told (Kd.S_old (zT bs) hb) (Kd.R_base ho0)) (Kd.S_base ho2)) (fun _ h_ => h_.1))
           have a4 := zK (Kd.R_lower (Kd.R_new' (Kd.R_new' (Kd.R_new' (Kd.R_new' ho0 (Kd.R_lt (zR ao))) (Kd.R_lt (zR ax))) (Kd.R_lt (zR aA))) (Kd.R_lt (zR bk))) (below_size (zb HB)))
           have a5 := zK (Kd.S_lower (Kd.S_new' (Kd.S_new' (Kd.S_new' (Kd.S_new' (Kd.S_new' (Kd.S_new' (Kd.S_new' (Kd.S_new' ho1 (Kd.R_lt (zR ao))) (Kd.S_lt (zT au))) (Kd.R_lt (zR ax))) (Kd.S_lt (zT aC))) (Kd.R_lt (zR aA))) (Kd.S_lt (zT aF))) (Kd.R_lt (zR bk))) (Kd.S_lt (zT br))) (below_size (zb HB)))
           have bB := zK (Kd.S_lower (Kd.S_new' (Kd.S_new' (Kd.S_new' (Kd.S_new' (Kd.S_new' (Kd.S_new' (Kd.S_new' (Kd.S_new' ho2 (Kd.R_lt (zR ao))) (Kd.S_lt (zT av))) (Kd.R_lt (zR ax))) (Kd.S_lt (zT aD))) (Kd.R_lt (zR aA))) (Kd.S_lt (zT aG))) (Kd.R_lt (zR bk))) (Kd.S_lt (zT bs))) (below_size (zb HB)))
           have bE := zK (blk_below (g := am) (o := .cells #[.slice aQ ab.length aR, .int .i64 a0_1, .slice aS ac.length aT, .slice aU ad.length aV] 28 (0, 0)) (zk aa) hb)
           have bU := zK (blk_below (g := aq) (o := .cells #[.slice aO ap.length aP, .int .i64 aB, .slice bl ay.length bm, .slice bo az.length bp] 28 (0, 0)) (zk af) hb)
           have b7 := zK (blk_below (g := aj) (o := .cells #[.slice aM ag.length aK, .int .i64 an, .slice be ak.length bf, .slice bi al.length bj] 28 (0, 0)) (zk ae) hb)
           have b8 := zK (blk_below (g := ah) (o := .cells #[.slice aH ar.length aI, .int .i64 aW, .slice a6 aJ.length a7, .slice bg aL.length bh] 28 (0, 0)) (zk ai) hb)
           have b9 := zK (below_step (zb HB) hb)
           clear ao au av ax aC aD aA aF aG bk br bs aa af ae ai HB; have ao := bz; have au := bA; have av := bF; have ax := bG; have aC := bL; have aD := bN; have aA := bO; have aF := bP; have aG := bQ; have bk := bT; have br := a0; have bs := a3; have bC := a4; have bI := a5; have bJ := bB; have aa := bE; have af := bU; have ae := b7; have ai := b8; have HB := b9; clear bz bA bF bG bL bN bO bP bQ bT a0 a3 a4 a5 bB bE bU b7 b8 b9; (try clear hb); (try clear hb2); (try clear hk); (try clear hi); (try clear ho0); (try clear ho1); (try clear ho2)
           refine hK.out _ _ ⟨(blk_cell aa.out 0).trans rfl, (blk_cell aa.out 1).trans rfl, (blk_cell aa.out 2).trans rfl, (blk_cell aa.out 3).trans rfl, (blk_cell af.out 0).trans rfl, (blk_cell af.out 1).trans rfl, (blk_cell af.out 2).trans rfl, (blk_cell af.out 3).trans rfl, (blk_cell ae.out 0).trans rfl, (blk_cell ae.out 1).trans rfl, (blk_cell ae.out 2).trans rfl, (blk_cell ae.out 3).trans rfl, (blk_cell ai.out 0).trans rfl, (blk_cell ai.out 1).trans rfl, (blk_cell ai.out 2).trans rfl, (blk_cell ai.out 3).trans rfl⟩ (fun hHeld => ?_)
           clear hK K
           refine norm_ (a' := ?_) ?_ ?_
           rotate_left
           ·show Act.put _ (some 70) _ = _
            simp only [Act.put, zp, zq, zr, i64_w, i32_w]
            rfl
           refine one_ (i := 24) (N := some 75) #[tt, tt, tt, tt, tt, tt, tt, tt, tt, tt, tt, tt, tt, tt, tt, tt, tt, tt, tt, tt, tt, tt, tt, tt, tt, ff, ff, ff, ff, ff, ff, ff, ff, ff, ff, ff, ff, ff, ff, ff, ff, ff, ff, ff, ff, ff, ff, ff, ff, ff] rfl rfl (one_of HT_.out (by kernel_rfl)) (by decide) (fun K hK => ?_)
           refine goes_ Try.func19 (by kernel_rfl) rfl #[.agg #[.slice aQ ab.length aR, .int .i64 a0_1, .slice aS ac.length aT, .slice aU ad.length aV], .int .i64 (wrap64 (a1 + a2))] (by rfl) rfl rfl zg ?_
           with_reducible refine (impl_TurnLoop.calls kj3 _ _ ab a0_1 _ _ ac _ _ ad (wrap64 (a1 + a2)) dm dn dp dq _ ?side1 ?side2 ?side3 ?side4 ?side5 ?side6 A62.out).mono ?_
           (case side1 => exact zs (Kd.C_below b1.out HB.out))
           (case side2 => exact b2.out)
           (case side3 => exact zs (Kd.C_below b3.out HB.out))
           (case side4 => exact b4.out)
           (case side5 => exact zs (Kd.C_below b5.out HB.out))
           (case side6 => exact b6.out)
           rintro e w82 ⟨v582, v586, v589, rfl, ho0, ho1, ho2, hb⟩
           refine ⟨_, rfl, ?_⟩
           have bz := zK (Kd.R_elder' (zR ao) (Kd.R_base ho0) hb)
           have bA := zK (Kd.S_mono (Kd.S_told (Kd.S_told (Kd.S_old (zT au) hb) (Kd.R_base ho0)) (Kd.S_base ho1)) (fun _ h_ => h_.1))
           have bF := zK (Kd.S_mono (Kd.S_told (Kd.S_told (Kd.S_old (zT av) hb) (Kd.R_base ho0)) (Kd.S_base ho2)) (fun _ h_ => h_.1))
           have bG := zK (Kd.R_elder' (zR ax) (Kd.R_base ho0) hb)
           have bL := zK (Kd.S_mono (Kd.S_told (Kd.S_told (Kd.S_old (zT aC) hb) (Kd.R_base ho0)) (Kd.S_base ho1)) (fun _ h_ => h_.1))
           have bN := zK (Kd.S_mono (Kd.S_told (Kd.S_told (Kd.S_old (zT aD) hb) (Kd.R_base ho0)) (Kd.S_base ho2)) (fun _ h_ => h_.1))
           have bO := zK (Kd.R_elder' (zR aA) (Kd.R_base ho0) hb)
           have bP := zK (Kd.S_mono (Kd.S_told (Kd.S_told (Kd.S_old (zT aF) hb) (Kd.R_base ho0)) (Kd.S_base ho1)) (fun _ h_ => h_.1))
           have bQ := zK (Kd.S_mono (Kd.S_told (Kd.S_told (Kd.S_old (zT aG) hb) (Kd.R_base ho0)) (Kd.S_base ho2)) (fun _ h_ => h_.1))
           have bT := zK (Kd.R_elder' (zR bk) (Kd.R_base ho0) hb)
           have a0 := zK (Kd.S_mono (Kd.S_told (Kd.S_told (Kd.S_old (zT br) hb) (Kd.R_base ho0)) (Kd.S_base ho1)) (fun _ h_ => h_.1))
           have a3 := zK (Kd.S_mono (Kd.S_told (Kd.S_told (Kd.S_old (zT bs) hb) (Kd.R_base ho0)) (Kd.S_base ho2)) (fun _ h_ => h_.1))
           have a4 := zK (Kd.R_elder' (zR bC) (Kd.R_base ho0) hb)
           have a5 := zK (Kd.S_mono (Kd.S_told (Kd.S_told (Kd.S_old (zT bI) hb) (Kd.R_base ho0)) (Kd.S_base ho1)) (fun _ h_ => h_.1))
           have bB := zK (Kd.S_mono (Kd.S_told (Kd.S_told (Kd.S_old (zT bJ) hb) (Kd.R_base ho0)) (Kd.S_base ho2)) (fun _ h_ => h_.1))
           have bE := zK (Kd.R_lower (Kd.R_new' (Kd.R_new' (Kd.R_new' (Kd.R_new' (Kd.R_new' ho0 (Kd.R_lt (zR ao))) (Kd.R_lt (zR ax))) (Kd.R_lt (zR aA))) (Kd.R_lt (zR bk))) (Kd.R_lt (zR bC))) (below_size (zb HB)))
           have bU := zK (Kd.S_lower (Kd.S_new' (Kd.S_new' (Kd.S_new' (Kd.S_new' (Kd.S_new' (Kd.S_new' (Kd.S_new' (Kd.S_new' (Kd.S_new' (Kd.S_new' ho1 (Kd.R_lt (zR ao))) (Kd.S_lt (zT au))) (Kd.R_lt (zR ax))) (Kd.S_lt (zT aC))) (Kd.R_lt (zR aA))) (Kd.S_lt (zT aF))) (Kd.R_lt (zR bk))) (Kd.S_lt (zT br))) (Kd.R_lt (zR bC))) (Kd.S_lt (zT bI))) (below_size (zb HB)))
           have b7 := zK (Kd.S_lower (Kd.S_new' (Kd.S_new' (Kd.S_new' (Kd.S_new' (Kd.S_new' (Kd.S_new' (Kd.S_new' (Kd.S_new' (Kd.S_new' (Kd.S_new' ho2 (Kd.R_lt (zR ao))) (Kd.S_lt (zT av))) (Kd.R_lt (zR ax))) (Kd.S_lt (zT aD))) (Kd.R_lt (zR aA))) (Kd.S_lt (zT aG))) (Kd.R_lt (zR bk))) (Kd.S_lt (zT bs))) (Kd.R_lt (zR bC))) (Kd.S_lt (zT bJ))) (below_size (zb HB)))
           have b8 := zK (blk_below (g := am) (o := .cells #[.slice aQ ab.length aR, .int .i64 a0_1, .slice aS ac.length aT, .slice aU ad.length aV] 28 (0, 0)) (zk aa) hb)
           have b9 := zK (blk_below (g := aq) (o := .cells #[.slice aO ap.length aP, .int .i64 aB, .slice bl ay.length bm, .slice bo az.length bp] 28 (0, 0)) (zk af) hb)
           have cc := zK (blk_below (g := aj) (o := .cells #[.slice aM ag.length aK, .int .i64 an, .slice be ak.length bf, .slice bi al.length bj] 28 (0, 0)) (zk ae) hb)
           have cd := zK (blk_below (g := ah) (o := .cells #[.slice aH ar.length aI, .int .i64 aW, .slice a6 aJ.length a7, .slice bg aL.length bh] 28 (0, 0)) (zk ai) hb)
           have cf := zK (below_step (zb HB) hb)
           clear ao au av ax aC aD aA aF aG bk br bs bC bI bJ aa af ae ai HB; have ao := bz; have au := bA; have av := bF; have ax := bG; have aC := bL; have aD := bN; have aA := bO; have aF := bP; have aG := bQ; have bk := bT; have br := a0; have bs := a3; have bC := a4; have bI := a5; have bJ := bB; have bW := bE; have bX := bU; have bY := b7; have aa := b8; have af := b9; have ae := cc; have ai := cd; have HB := cf; clear bz bA bF bG bL bN bO bP bQ bT a0 a3 a4 a5 bB bE bU b7 b8 b9 cc cd cf; (try clear hb); (try clear hb2); (try clear hk); (try clear hi); (try clear ho0); (try clear ho1); (try clear ho2)
           obtain ⟨Ao83, co83, em⟩ := Kd.R_slice bC.out
           (first | subst em | (injection em with f1_ f2_ f3_; have f4_ := f1_.symm; have f5_ := f3_.symm; clear f1_ f2_ f3_; subst f4_; subst f5_))
           obtain ⟨Ao84, co84, en⟩ := Kd.S_slice bI.out
           (first | subst en | (injection en with f1_ f2_ f3_; have f4_ := f1_.symm; have f5_ := f3_.symm; clear f1_ f2_ f3_; subst f4_; subst f5_))
           obtain ⟨Ao85, co85, eo⟩ := Kd.S_slice bJ.out
           (first | subst eo | (injection eo with f1_ f2_ f3_; have f4_ := f1_.symm; have f5_ := f3_.symm; clear f1_ f2_ f3_; subst f4_; subst f5_))
           obtain ⟨Ao86, co86, ep⟩ := Kd.R_slice bW.out
           (first | subst ep | (injection ep with f1_ f2_ f3_; have f4_ := f1_.symm; have f5_ := f3_.symm; clear f1_ f2_ f3_; subst f4_; subst f5_))
           obtain ⟨Ao87, co87, er⟩ := Kd.S_slice bX.out
           (first | subst er | (injection er with f1_ f2_ f3_; have f4_ := f1_.symm; have f5_ := f3_.symm; clear f1_ f2_ f3_; subst f4_; subst f5_))
           obtain ⟨Ao88, co88, es⟩ := Kd.S_slice bY.out
           (first | subst es | (injection es with f1_ f2_ f3_; have f4_ := f1_.symm; have f5_ := f3_.symm; clear f1_ f2_ f3_; subst f4_; subst f5_))
           refine hK.out _ _ ⟨(blk_cell aa.out 0).trans rfl, (blk_cell aa.out 1).trans rfl, (blk_cell aa.out 2).trans rfl, (blk_cell aa.out 3).trans rfl, (blk_cell af.out 0).trans rfl, (blk_cell af.out 1).trans rfl, (blk_cell af.out 2).trans rfl, (blk_cell af.out 3).trans rfl, (blk_cell ae.out 0).trans rfl, (blk_cell ae.out 1).trans rfl, (blk_cell ae.out 2).trans rfl, (blk_cell ae.out 3).trans rfl, (blk_cell ai.out 0).trans rfl, (blk_cell ai.out 1).trans rfl, (blk_cell ai.out 2).trans rfl, (blk_cell ai.out 3).trans rfl⟩ (fun hHeld => ?_)
           clear hK K
           refine norm_ (a' := ?_) ?_ ?_
           rotate_left
           ·show Act.put _ (some 75) _ = _
            simp only [Act.put, zp, zq, zr, i64_w, i32_w]
            rfl
           refine one_ (i := 25) (N := some 76) #[tt, tt, tt, tt, tt, tt, tt, tt, tt, tt, tt, tt, tt, tt, tt, tt, tt, tt, tt, tt, tt, tt, tt, tt, tt, tt, ff, ff, ff, ff, ff, ff, ff, ff, ff, ff, ff, ff, ff, ff, ff, ff, ff, ff, ff, ff, ff, ff, ff, ff] rfl rfl (one_of HT_.out (by kernel_rfl)) (by decide) (fun K hK => ?_)
           refine goes_ Try.func25 (by kernel_rfl) rfl #[.agg #[.slice Ao83 cI.length co83, .int .i64 cJ, .slice Ao84 cK.length co84, .slice Ao85 cL.length co85], .agg #[.slice Ao86 dm.length co86, .int .i64 dn, .slice Ao87 dp.length co87, .slice Ao88 dq.length co88]] (by rfl) rfl rfl zg ?_
           with_reducible refine (laws_sameLoop.calls kj3 _ _ cI cJ _ _ cK _ _ cL _ _ dm dn _ _ dp _ _ dq true _ ?side1 ?side2 ?side3 ?side4 ?side5 ?side6 ?side7 ?side8 ?side9 ?side10 ?side11 ?side12 A63.out).mono ?_
           (case side1 => exact zs (Kd.R_reads' bC.out).2.2)
           (case side2 => exact (Kd.R_reads' bC.out).2.1)
           (case side3 => exact zs (Kd.S_reads' bI.out).2.2)
           (case side4 => exact (Kd.S_reads' bI.out).2.1)
           (case side5 => exact zs (Kd.S_reads' bJ.out).2.2)
           (case side6 => exact (Kd.S_reads' bJ.out).2.1)
           (case side7 => exact zs (Kd.R_reads' bW.out).2.2)
           (case side8 => exact (Kd.R_reads' bW.out).2.1)
           (case side9 => exact zs (Kd.S_reads' bX.out).2.2)
           (case side10 => exact (Kd.S_reads' bX.out).2.1)
           (case side11 => exact zs (Kd.S_reads' bY.out).2.2)
           (case side12 => exact (Kd.S_reads' bY.out).2.1)
           rintro e w89 ⟨rfl, hb⟩
           refine ⟨_, rfl, ?_⟩
           have bz := zK (Kd.R_below (zR ao) hb)
           have bA := zK (Kd.S_below (zT au) hb)
           have bF := zK (Kd.S_below (zT av) hb)
           have bG := zK (Kd.R_below (zR ax) hb)
           have bL := zK (Kd.S_below (zT aC) hb)
           have bN := zK (Kd.S_below (zT aD) hb)
           have bO := zK (Kd.R_below (zR aA) hb)
           have bP := zK (Kd.S_below (zT aF) hb)
           have bQ := zK (Kd.S_below (zT aG) hb)
           have bT := zK (Kd.R_below (zR bk) hb)
           have a0 := zK (Kd.S_below (zT br) hb)
           have a3 := zK (Kd.S_below (zT bs) hb)
           have a4 := zK (Kd.R_below (zR bC) hb)
           have a5 := zK (Kd.S_below (zT bI) hb)
           have bB := zK (Kd.S_below (zT bJ) hb)
           have bE := zK (Kd.R_below (zR bW) hb)
           have bU := zK (Kd.S_below (zT bX) hb)
           have b7 := zK (Kd.S_below (zT bY) hb)
           have b8 := zK (blk_below (g := am) (o := .cells #[.slice aQ ab.length aR, .int .i64 a0_1, .slice aS ac.length aT, .slice aU ad.length aV] 28 (0, 0)) (zk aa) hb)
           have b9 := zK (blk_below (g := aq) (o := .cells #[.slice aO ap.length aP, .int .i64 aB, .slice bl ay.length bm, .slice bo az.length bp] 28 (0, 0)) (zk af) hb)
           have cc := zK (blk_below (g := aj) (o := .cells #[.slice aM ag.length aK, .int .i64 an, .slice be ak.length bf, .slice bi al.length bj] 28 (0, 0)) (zk ae) hb)
           have cd := zK (blk_below (g := ah) (o := .cells #[.slice aH ar.length aI, .int .i64 aW, .slice a6 aJ.length a7, .slice bg aL.length bh] 28 (0, 0)) (zk ai) hb)
           have cf := zK (below_step (zb HB) hb)
           clear ao au av ax aC aD aA aF aG bk br bs bC bI bJ bW bX bY aa af ae ai HB; have ao := bz; have au := bA; have av := bF; have ax := bG; have aC := bL; have aD := bN; have aA := bO; have aF := bP; have aG := bQ; have bk := bT; have br := a0; have bs := a3; have bC := a4; have bI := a5; have bJ := bB; have bW := bE; have bX := bU; have bY := b7; have aa := b8; have af := b9; have ae := cc; have ai := cd; have HB := cf; clear bz bA bF bG bL bN bO bP bQ bT a0 a3 a4 a5 bB bE bU b7 b8 b9 cc cd cf; (try clear hb); (try clear hb2); (try clear hk); (try clear hi)
           refine hK.out _ _ ⟨(blk_cell aa.out 0).trans rfl, (blk_cell aa.out 1).trans rfl, (blk_cell aa.out 2).trans rfl, (blk_cell aa.out 3).trans rfl, (blk_cell af.out 0).trans rfl, (blk_cell af.out 1).trans rfl, (blk_cell af.out 2).trans rfl, (blk_cell af.out 3).trans rfl, (blk_cell ae.out 0).trans rfl, (blk_cell ae.out 1).trans rfl, (blk_cell ae.out 2).trans rfl, (blk_cell ae.out 3).trans rfl, (blk_cell ai.out 0).trans rfl, (blk_cell ai.out 1).trans rfl, (blk_cell ai.out 2).trans rfl, (blk_cell ai.out 3).trans rfl⟩ (fun hHeld => ?_)
           clear hK K
           refine norm_ (a' := ?_) ?_ ?_
           rotate_left
           ·show Act.put _ (some 76) _ = _
            simp only [Act.put, zp, zq, zr, i64_w, i32_w]
            rfl
           refine zu 26 (some 77) #[tt, tt, tt, tt, tt, tt, tt, tt, tt, tt, tt, tt, tt, tt, tt, tt, tt, tt, tt, tt, tt, tt, tt, tt, tt, tt, tt, ff, ff, ff, ff, ff, ff, ff, ff, ff, ff, ff, ff, ff, ff, ff, ff, ff, ff, ff, ff, ff, ff, ff] (any_of HT_.out (by kernel_rfl)) ?_
           refine zu 27 (some 78) #[tt, tt, tt, tt, tt, tt, tt, tt, tt, tt, tt, tt, tt, tt, tt, tt, tt, tt, tt, tt, tt, tt, tt, tt, tt, tt, tt, tt, ff, ff, ff, ff, ff, ff, ff, ff, ff, ff, ff, ff, ff, ff, ff, ff, ff, ff, ff, ff, ff, ff] (any_of HT_.out (by kernel_rfl)) ?_
           refine zu 28 (some 79) #[tt, tt, tt, tt, tt, tt, tt, tt, tt, tt, tt, tt, tt, tt, tt, tt, tt, tt, tt, tt, tt, tt, tt, tt, tt, tt, tt, tt, tt, ff, ff, ff, ff, ff, ff, ff, ff, ff, ff, ff, ff, ff, ff, ff, ff, ff, ff, ff, ff, ff] (any_of HT_.out (by kernel_rfl)) ?_
           refine zu 29 (some 80) #[tt, tt, tt, tt, tt, tt, tt, tt, tt, tt, tt, tt, tt, tt, tt, tt, tt, tt, tt, tt, tt, tt, tt, tt, tt, tt, tt, tt, tt, tt, ff, ff, ff, ff, ff, ff, ff, ff, ff, ff, ff, ff, ff, ff, ff, ff, ff, ff, ff, ff] (any_of HT_.out (by kernel_rfl)) ?_
           refine zu 31 (some 82) #[tt, tt, tt, tt, tt, tt, tt, tt, tt, tt, tt, tt, tt, tt, tt, tt, tt, tt, tt, tt, tt, tt, tt, tt, tt, tt, tt, tt, tt, tt, ff, tt, ff, ff, ff, ff, ff, ff, ff, ff, ff, ff, ff, ff, ff, ff, ff, ff, ff, ff] (any_of HT_.out (by kernel_rfl)) ?_
           refine zt 30 (some 81) #[tt, tt, tt, tt, tt, tt, tt, tt, tt, tt, tt, tt, tt, tt, tt, tt, tt, tt, tt, tt, tt, tt, tt, tt, tt, tt, tt, tt, tt, tt, tt, tt, ff, ff, ff, ff, ff, ff, ff, ff, ff, ff, ff, ff, ff, ff, ff, ff, ff, ff] (take_ofW HT_.out HW_.out (by kernel_rfl)) hHeld ?_
           refine zt 32 (some 83) #[tt, tt, tt, tt, tt, tt, tt, tt, tt, tt, tt, tt, tt, tt, tt, tt, tt, tt, tt, tt, tt, tt, tt, tt, tt, tt, tt, tt, tt, tt, tt, tt, tt, ff, ff, ff, ff, ff, ff, ff, ff, ff, ff, ff, ff, ff, ff, ff, ff, ff] (take_ofW HT_.out HW_.out (by kernel_rfl)) hHeld ?_
           refine one_ (i := 33) (N := some 84) #[tt, tt, tt, tt, tt, tt, tt, tt, tt, tt, tt, tt, tt, tt, tt, tt, tt, tt, tt, tt, tt, tt, tt, tt, tt, tt, tt, tt, tt, tt, tt, tt, tt, tt, ff, ff, ff, ff, ff, ff, ff, ff, ff, ff, ff, ff, ff, ff, ff, ff] rfl rfl (one_of HT_.out (by kernel_rfl)) (by decide) (fun K hK => ?_)
           refine goes_ Try.func27 (by kernel_rfl) rfl #[.slice aM ag.length aK, .slice aH ar.length aI] (by rfl) rfl rfl zg ?_
           with_reducible refine (laws_sameInts.calls kj3 _ _ ag _ _ ar true _ ?side1 ?side2 ?side3 ?side4 A65.out).mono ?_
           (case side1 => exact zs (Kd.R_reads' ax.out).2.2)
           (case side2 => exact (Kd.R_reads' ax.out).2.1)
           (case side3 => exact zs (Kd.R_reads' aA.out).2.2)
           (case side4 => exact (Kd.R_reads' aA.out).2.1)
           rintro e w' ⟨rfl, ⟨nd, rfl⟩⟩
           refine ⟨_, rfl, ?_⟩
           refine hK.out _ _ ⟨(blk_cell aa.out 0).trans rfl, (blk_cell aa.out 1).trans rfl, (blk_cell aa.out 2).trans rfl, (blk_cell aa.out 3).trans rfl, (blk_cell af.out 0).trans rfl, (blk_cell af.out 1).trans rfl, (blk_cell af.out 2).trans rfl, (blk_cell af.out 3).trans rfl, (blk_cell ae.out 0).trans rfl, (blk_cell ae.out 1).trans rfl, (blk_cell ae.out 2).trans rfl, (blk_cell ae.out 3).trans rfl, (blk_cell ai.out 0).trans rfl, (blk_cell ai.out 1).trans rfl, (blk_cell ai.out 2).trans rfl, (blk_cell ai.out 3).trans rfl⟩ (fun hHeld => ?_)
           clear hK K
           refine norm_ (a' := ?_) ?_ ?_
           rotate_left
           ·show Act.put _ (some 84) _ = _
            simp only [Act.put, zp, zq, zr, i64_w, i32_w]
            rfl
           refine zu 34 (some 85) #[tt, tt, tt, tt, tt, tt, tt, tt, tt, tt, tt, tt, tt, tt, tt, tt, tt, tt, tt, tt, tt, tt, tt, tt, tt, tt, tt, tt, tt, tt, tt, tt, tt, tt, tt, ff, ff, ff, ff, ff, ff, ff, ff, ff, ff, ff, ff, ff, ff, ff] (any_of HT_.out (by kernel_rfl)) ?_
           refine zu 35 (some 86) #[tt, tt, tt, tt, tt, tt, tt, tt, tt, tt, tt, tt, tt, tt, tt, tt, tt, tt, tt, tt, tt, tt, tt, tt, tt, tt, tt, tt, tt, tt, tt, tt, tt, tt, tt, tt, ff, ff, ff, ff, ff, ff, ff, ff, ff, ff, ff, ff, ff, ff] (any_of HT_.out (by kernel_rfl)) ?_
           refine zu 36 (some 87) #[tt, tt, tt, tt, tt, tt, tt, tt, tt, tt, tt, tt, tt, tt, tt, tt, tt, tt, tt, tt, tt, tt, tt, tt, tt, tt, tt, tt, tt, tt, tt, tt, tt, tt, tt, tt, tt, ff, ff, ff, ff, ff, ff, ff, ff, ff, ff, ff, ff, ff] (any_of HT_.out (by kernel_rfl)) ?_
           refine zt 37 (some 88) #[tt, tt, tt, tt, tt, tt, tt, tt, tt, tt, tt, tt, tt, tt, tt, tt, tt, tt, tt, tt, tt, tt, tt, tt, tt, tt, tt, tt, tt, tt, tt, tt, tt, tt, tt, tt, tt, tt, ff, ff, ff, ff, ff, ff, ff, ff, ff, ff, ff, ff] (take_ofW HT_.out HW_.out (by kernel_rfl)) hHeld ?_
           refine zt 39 (some 90) #[tt, tt, tt, tt, tt, tt, tt, tt, tt, tt, tt, tt, tt, tt, tt, tt, tt, tt, tt, tt, tt, tt, tt, tt, tt, tt, tt, tt, tt, tt, tt, tt, tt, tt, tt, tt, tt, tt, ff, tt, ff, ff, ff, ff, ff, ff, ff, ff, ff, ff] (take_ofW HT_.out HW_.out (by kernel_rfl)) hHeld ?_
           refine one_ (i := 38) (N := some 89) #[tt, tt, tt, tt, tt, tt, tt, tt, tt, tt, tt, tt, tt, tt, tt, tt, tt, tt, tt, tt, tt, tt, tt, tt, tt, tt, tt, tt, tt, tt, tt, tt, tt, tt, tt, tt, tt, tt, tt, tt, ff, ff, ff, ff, ff, ff, ff, ff, ff, ff] rfl rfl (one_of HT_.out (by kernel_rfl)) (by decide) (fun K hK => ?_)
           refine goes_ Try.func28 (by kernel_rfl) rfl #[.agg #[.slice aO ap.length aP, .int .i64 aB, .slice bl ay.length bm, .slice bo az.length bp]] (by rfl) rfl rfl zg ?_
           with_reducible refine (laws_aboard.calls kj3 _ _ ap aB _ _ ay _ _ az bw _ ?side1 ?side2 ?side3 ?side4 ?side5 ?side6 A67.out).mono ?_
           (case side1 => exact zs (Kd.R_reads' ao.out).2.2)
           (case side2 => exact (Kd.R_reads' ao.out).2.1)
           (case side3 => exact zs (Kd.S_reads' au.out).2.2)
           (case side4 => exact (Kd.S_reads' au.out).2.1)
           (case side5 => exact zs (Kd.S_reads' av.out).2.2)
           (case side6 => exact (Kd.S_reads' av.out).2.1)
           rintro e w90 ⟨rfl, hb⟩
           refine ⟨_, rfl, ?_⟩
           have bz := zK (Kd.R_below (zR ao) hb)
           have bA := zK (Kd.S_below (zT au) hb)
           have bF := zK (Kd.S_below (zT av) hb)
           have bG := zK (Kd.R_below (zR ax) hb)
           have bL := zK (Kd.S_below (zT aC) hb)
           have bN := zK (Kd.S_below (zT aD) hb)
           have bO := zK (Kd.R_below (zR aA) hb)
           have bP := zK (Kd.S_below (zT aF) hb)
           have bQ := zK (Kd.S_below (zT aG) hb)
           have bT := zK (Kd.R_below (zR bk) hb)
           have a0 := zK (Kd.S_below (zT br) hb)
           have a3 := zK (Kd.S_below (zT bs) hb)
           have a4 := zK (Kd.R_below (zR bC) hb)
           have a5 := zK (Kd.S_below (zT bI) hb)
           have bB := zK (Kd.S_below (zT bJ) hb)
           have bE := zK (Kd.R_below (zR bW) hb)
           have bU := zK (Kd.S_below (zT bX) hb)
           have b7 := zK (Kd.S_below (zT bY) hb)
           have b8 := zK (blk_below (g := am) (o := .cells #[.slice aQ ab.length aR, .int .i64 a0_1, .slice aS ac.length aT, .slice aU ad.length aV] 28 (0, 0)) (zk aa) hb)
           have b9 := zK (blk_below (g := aq) (o := .cells #[.slice aO ap.length aP, .int .i64 aB, .slice bl ay.length bm, .slice bo az.length bp] 28 (0, 0)) (zk af) hb)
           have cc := zK (blk_below (g := aj) (o := .cells #[.slice aM ag.length aK, .int .i64 an, .slice be ak.length bf, .slice bi al.length bj] 28 (0, 0)) (zk ae) hb)
           have cd := zK (blk_below (g := ah) (o := .cells #[.slice aH ar.length aI, .int .i64 aW, .slice a6 aJ.length a7, .slice bg aL.length bh] 28 (0, 0)) (zk ai) hb)
           have cf := zK (below_step (zb HB) hb)
           clear ao au av ax aC aD aA aF aG bk br bs bC bI bJ bW bX bY aa af ae ai HB; have ao := bz; have au := bA; have av := bF; have ax := bG; have aC := bL; have aD := bN; have aA := bO; have aF := bP; have aG := bQ; have bk := bT; have br := a0; have bs := a3; have bC := a4; have bI := a5; have bJ := bB; have bW := bE; have bX := bU; have bY := b7; have aa := b8; have af := b9; have ae := cc; have ai := cd; have HB := cf; clear bz bA bF bG bL bN bO bP bQ bT a0 a3 a4 a5 bB bE bU b7 b8 b9 cc cd cf; (try clear hb); (try clear hb2); (try clear hk); (try clear hi)
           refine hK.out _ _ ⟨(blk_cell aa.out 0).trans rfl, (blk_cell aa.out 1).trans rfl, (blk_cell aa.out 2).trans rfl, (blk_cell aa.out 3).trans rfl, (blk_cell af.out 0).trans rfl, (blk_cell af.out 1).trans rfl, (blk_cell af.out 2).trans rfl, (blk_cell af.out 3).trans rfl, (blk_cell ae.out 0).trans rfl, (blk_cell ae.out 1).trans rfl, (blk_cell ae.out 2).trans rfl, (blk_cell ae.out 3).trans rfl, (blk_cell ai.out 0).trans rfl, (blk_cell ai.out 1).trans rfl, (blk_cell ai.out 2).trans rfl, (blk_cell ai.out 3).trans rfl⟩ (fun hHeld => ?_)
           clear hK K
           refine norm_ (a' := ?_) ?_ ?_
           rotate_left
           ·show Act.put _ (some 89) _ = _
            simp only [Act.put, zp, zq, zr, i64_w, i32_w]
            rfl
           refine one_ (i := 40) (N := some 91) #[tt, tt, tt, tt, tt, tt, tt, tt, tt, tt, tt, tt, tt, tt, tt, tt, tt, tt, tt, tt, tt, tt, tt, tt, tt, tt, tt, tt, tt, tt, tt, tt, tt, tt, tt, tt, tt, tt, tt, tt, tt, ff, ff, ff, ff, ff, ff, ff, ff, ff] rfl rfl (one_of HT_.out (by kernel_rfl)) (by decide) (fun K hK => ?_)
           refine goes_ Try.func28 (by kernel_rfl) rfl #[.agg #[.slice aQ ab.length aR, .int .i64 a0_1, .slice aS ac.length aT, .slice aU ad.length aV]] (by rfl) rfl rfl zg ?_
           with_reducible refine (laws_aboard.calls kj3 _ _ ab a0_1 _ _ ac _ _ ad bu _ ?side1 ?side2 ?side3 ?side4 ?side5 ?side6 A68.out).mono ?_
           (case side1 => exact zs (Kd.C_below b1.out HB.out))
           (case side2 => exact b2.out)
           (case side3 => exact zs (Kd.C_below b3.out HB.out))
           (case side4 => exact b4.out)
           (case side5 => exact zs (Kd.C_below b5.out HB.out))
           (case side6 => exact b6.out)
           rintro e w91 ⟨rfl, hb⟩
           refine ⟨_, rfl, ?_⟩
           have bz := zK (Kd.R_below (zR ao) hb)
           have bA := zK (Kd.S_below (zT au) hb)
           have bF := zK (Kd.S_below (zT av) hb)
           have bG := zK (Kd.R_below (zR ax) hb)
           have bL := zK (Kd.S_below (zT aC) hb)
           have bN := zK (Kd.S_below (zT aD) hb)
           have bO := zK (Kd.R_below (zR aA) hb)
           have bP := zK (Kd.S_below (zT aF) hb)
           have bQ := zK (Kd.S_below (zT aG) hb)
           have bT := zK (Kd.R_below (zR bk) hb)
           have a0 := zK (Kd.S_below (zT br) hb)
           have a3 := zK (Kd.S_below (zT bs) hb)
           have a4 := zK (Kd.R_below (zR bC) hb)
           have a5 := zK (Kd.S_below (zT bI) hb)
           have bB := zK (Kd.S_below (zT bJ) hb)
           have bE := zK (Kd.R_below (zR bW) hb)
           have bU := zK (Kd.S_below (zT bX) hb)
           have b7 := zK (Kd.S_below (zT bY) hb)
           have b8 := zK (blk_below (g := am) (o := .cells #[.slice aQ ab.length aR, .int .i64 a0_1, .slice aS ac.length aT, .slice aU ad.length aV] 28 (0, 0)) (zk aa) hb)
           have b9 := zK (blk_below (g := aq) (o := .cells #[.slice aO ap.length aP, .int .i64 aB, .slice bl ay.length bm, .slice bo az.length bp] 28 (0, 0)) (zk af) hb)
           have cc := zK (blk_below (g := aj) (o := .cells #[.slice aM ag.length aK, .int .i64 an, .slice be ak.length bf, .slice bi al.length bj] 28 (0, 0)) (zk ae) hb)
           have cd := zK (blk_below (g := ah) (o := .cells #[.slice aH ar.length aI, .int .i64 aW, .slice a6 aJ.length a7, .slice bg aL.length bh] 28 (0, 0)) (zk ai) hb)
           have cf := zK (below_step (zb HB) hb)
           clear ao au av ax aC aD aA aF aG bk br bs bC bI bJ bW bX bY aa af ae ai HB; have ao := bz; have au := bA; have av := bF; have ax := bG; have aC := bL; have aD := bN; have aA := bO; have aF := bP; have aG := bQ; have bk := bT; have br := a0; have bs := a3; have bC := a4; have bI := a5; have bJ := bB; have bW := bE; have bX := bU; have bY := b7; have aa := b8; have af := b9; have ae := cc; have ai := cd; have HB := cf; clear bz bA bF bG bL bN bO bP bQ bT a0 a3 a4 a5 bB bE bU b7 b8 b9 cc cd cf; (try clear hb); (try clear hb2); (try clear hk); (try clear hi)
           refine hK.out _ _ ⟨(blk_cell aa.out 0).trans rfl, (blk_cell aa.out 1).trans rfl, (blk_cell aa.out 2).trans rfl, (blk_cell aa.out 3).trans rfl, (blk_cell af.out 0).trans rfl, (blk_cell af.out 1).trans rfl, (blk_cell af.out 2).trans rfl, (blk_cell af.out 3).trans rfl, (blk_cell ae.out 0).trans rfl, (blk_cell ae.out 1).trans rfl, (blk_cell ae.out 2).trans rfl, (blk_cell ae.out 3).trans rfl, (blk_cell ai.out 0).trans rfl, (blk_cell ai.out 1).trans rfl, (blk_cell ai.out 2).trans rfl, (blk_cell ai.out 3).trans rfl⟩ (fun hHeld => ?_)
           clear hK K
           refine norm_ (a' := ?_) ?_ ?_
           rotate_left
           ·show Act.put _ (some 91) _ = _
            simp only [Act.put, zp, zq, zr, i64_w, i32_w]
            rfl
           refine zu 41 (some 92) #[tt, tt, tt, tt, tt, tt, tt, tt, tt, tt, tt, tt, tt, tt, tt, tt, tt, tt, tt, tt, tt, tt, tt, tt, tt, tt, tt, tt, tt, tt, tt, tt, tt, tt, tt, tt, tt, tt, tt, tt, tt, tt, ff, ff, ff, ff, ff, ff, ff, ff] (any_of HT_.out (by kernel_rfl)) ?_
           refine zu 42 (some 93) #[tt, tt, tt, tt, tt, tt, tt, tt, tt, tt, tt, tt, tt, tt, tt, tt, tt, tt, tt, tt, tt, tt, tt, tt, tt, tt, tt, tt, tt, tt, tt, tt, tt, tt, tt, tt, tt, tt, tt, tt, tt, tt, tt, ff, ff, ff, ff, ff, ff, ff] (any_of HT_.out (by kernel_rfl)) ?_
           refine zu 43 (some 94) #[tt, tt, tt, tt, tt, tt, tt, tt, tt, tt, tt, tt, tt, tt, tt, tt, tt, tt, tt, tt, tt, tt, tt, tt, tt, tt, tt, tt, tt, tt, tt, tt, tt, tt, tt, tt, tt, tt, tt, tt, tt, tt, tt, tt, ff, ff, ff, ff, ff, ff] (any_of HT_.out (by kernel_rfl)) ?_
           refine zt 44 (some 95) #[tt, tt, tt, tt, tt, tt, tt, tt, tt, tt, tt, tt, tt, tt, tt, tt, tt, tt, tt, tt, tt, tt, tt, tt, tt, tt, tt, tt, tt, tt, tt, tt, tt, tt, tt, tt, tt, tt, tt, tt, tt, tt, tt, tt, tt, ff, ff, ff, ff, ff] (take_ofW HT_.out HW_.out (by kernel_rfl)) hHeld ?_
           refine zt 46 (some 97) #[tt, tt, tt, tt, tt, tt, tt, tt, tt, tt, tt, tt, tt, tt, tt, tt, tt, tt, tt, tt, tt, tt, tt, tt, tt, tt, tt, tt, tt, tt, tt, tt, tt, tt, tt, tt, tt, tt, tt, tt, tt, tt, tt, tt, tt, ff, tt, ff, ff, ff] (take_ofW HT_.out HW_.out (by kernel_rfl)) hHeld ?_
           refine one_ (i := 45) (N := some 96) #[tt, tt, tt, tt, tt, tt, tt, tt, tt, tt, tt, tt, tt, tt, tt, tt, tt, tt, tt, tt, tt, tt, tt, tt, tt, tt, tt, tt, tt, tt, tt, tt, tt, tt, tt, tt, tt, tt, tt, tt, tt, tt, tt, tt, tt, tt, tt, ff, ff, ff] rfl rfl (one_of HT_.out (by kernel_rfl)) (by decide) (fun K hK => ?_)
           refine goes_ Try.func28 (by kernel_rfl) rfl #[.agg #[.slice aH ar.length aI, .int .i64 aW, .slice a6 aJ.length a7, .slice bg aL.length bh]] (by rfl) rfl rfl zg ?_
           with_reducible refine (laws_aboard.calls kj3 _ _ ar aW _ _ aJ _ _ aL bx _ ?side1 ?side2 ?side3 ?side4 ?side5 ?side6 A70.out).mono ?_
           (case side1 => exact zs (Kd.R_reads' aA.out).2.2)
           (case side2 => exact (Kd.R_reads' aA.out).2.1)
           (case side3 => exact zs (Kd.S_reads' aF.out).2.2)
           (case side4 => exact (Kd.S_reads' aF.out).2.1)
           (case side5 => exact zs (Kd.S_reads' aG.out).2.2)
           (case side6 => exact (Kd.S_reads' aG.out).2.1)
           rintro e w92 ⟨rfl, hb⟩
           refine ⟨_, rfl, ?_⟩
           have bz := zK (Kd.R_below (zR ao) hb)
           have bA := zK (Kd.S_below (zT au) hb)
           have bF := zK (Kd.S_below (zT av) hb)
           have bG := zK (Kd.R_below (zR ax) hb)
           have bL := zK (Kd.S_below (zT aC) hb)
           have bN := zK (Kd.S_below (zT aD) hb)
           have bO := zK (Kd.R_below (zR aA) hb)
           have bP := zK (Kd.S_below (zT aF) hb)
           have bQ := zK (Kd.S_below (zT aG) hb)
           have bT := zK (Kd.R_below (zR bk) hb)
           have a0 := zK (Kd.S_below (zT br) hb)
           have a3 := zK (Kd.S_below (zT bs) hb)
           have a4 := zK (Kd.R_below (zR bC) hb)
           have a5 := zK (Kd.S_below (zT bI) hb)
           have bB := zK (Kd.S_below (zT bJ) hb)
           have bE := zK (Kd.R_below (zR bW) hb)
           have bU := zK (Kd.S_below (zT bX) hb)
           have b7 := zK (Kd.S_below (zT bY) hb)
           have b8 := zK (blk_below (g := am) (o := .cells #[.slice aQ ab.length aR, .int .i64 a0_1, .slice aS ac.length aT, .slice aU ad.length aV] 28 (0, 0)) (zk aa) hb)
           have b9 := zK (blk_below (g := aq) (o := .cells #[.slice aO ap.length aP, .int .i64 aB, .slice bl ay.length bm, .slice bo az.length bp] 28 (0, 0)) (zk af) hb)
           have cc := zK (blk_below (g := aj) (o := .cells #[.slice aM ag.length aK, .int .i64 an, .slice be ak.length bf, .slice bi al.length bj] 28 (0, 0)) (zk ae) hb)
           have cd := zK (blk_below (g := ah) (o := .cells #[.slice aH ar.length aI, .int .i64 aW, .slice a6 aJ.length a7, .slice bg aL.length bh] 28 (0, 0)) (zk ai) hb)
           have cf := zK (below_step (zb HB) hb)
           clear ao au av ax aC aD aA aF aG bk br bs bC bI bJ bW bX bY aa af ae ai HB; have ao := bz; have au := bA; have av := bF; have ax := bG; have aC := bL; have aD := bN; have aA := bO; have aF := bP; have aG := bQ; have bk := bT; have br := a0; have bs := a3; have bC := a4; have bI := a5; have bJ := bB; have bW := bE; have bX := bU; have bY := b7; have aa := b8; have af := b9; have ae := cc; have ai := cd; have HB := cf; clear bz bA bF bG bL bN bO bP bQ bT a0 a3 a4 a5 bB bE bU b7 b8 b9 cc cd cf; (try clear hb); (try clear hb2); (try clear hk); (try clear hi)
           refine hK.out _ _ ⟨(blk_cell aa.out 0).trans rfl, (blk_cell aa.out 1).trans rfl, (blk_cell aa.out 2).trans rfl, (blk_cell aa.out 3).trans rfl, (blk_cell af.out 0).trans rfl, (blk_cell af.out 1).trans rfl, (blk_cell af.out 2).trans rfl, (blk_cell af.out 3).trans rfl, (blk_cell ae.out 0).trans rfl, (blk_cell ae.out 1).trans rfl, (blk_cell ae.out 2).trans rfl, (blk_cell ae.out 3).trans rfl, (blk_cell ai.out 0).trans rfl, (blk_cell ai.out 1).trans rfl, (blk_cell ai.out 2).trans rfl, (blk_cell ai.out 3).trans rfl⟩ (fun hHeld => ?_)
           clear hK K
           refine norm_ (a' := ?_) ?_ ?_
           rotate_left
           ·show Act.put _ (some 96) _ = _
            simp only [Act.put, zp, zq, zr, i64_w, i32_w]
            rfl
           refine one_ (i := 47) (N := some 98) #[tt, tt, tt, tt, tt, tt, tt, tt, tt, tt, tt, tt, tt, tt, tt, tt, tt, tt, tt, tt, tt, tt, tt, tt, tt, tt, tt, tt, tt, tt, tt, tt, tt, tt, tt, tt, tt, tt, tt, tt, tt, tt, tt, tt, tt, tt, tt, tt, ff, ff] rfl rfl (one_of HT_.out (by kernel_rfl)) (by decide) (fun K hK => ?_)
           refine goes_ Try.func28 (by kernel_rfl) rfl #[.agg #[.slice aQ ab.length aR, .int .i64 a0_1, .slice aS ac.length aT, .slice aU ad.length aV]] (by rfl) rfl rfl zg ?_
           with_reducible refine (laws_aboard.calls kj3 _ _ ab a0_1 _ _ ac _ _ ad bv _ ?side1 ?side2 ?side3 ?side4 ?side5 ?side6 A71.out).mono ?_
           (case side1 => exact zs (Kd.C_below b1.out HB.out))
           (case side2 => exact b2.out)
           (case side3 => exact zs (Kd.C_below b3.out HB.out))
           (case side4 => exact b4.out)
           (case side5 => exact zs (Kd.C_below b5.out HB.out))
           (case side6 => exact b6.out)
           rintro e w93 ⟨rfl, hb⟩
           refine ⟨_, rfl, ?_⟩
           have bz := zK (Kd.R_below (zR ao) hb)
           have bA := zK (Kd.S_below (zT au) hb)
           have bF := zK (Kd.S_below (zT av) hb)
           have bG := zK (Kd.R_below (zR ax) hb)
           have bL := zK (Kd.S_below (zT aC) hb)
           have bN := zK (Kd.S_below (zT aD) hb)
           have bO := zK (Kd.R_below (zR aA) hb)
           have bP := zK (Kd.S_below (zT aF) hb)
           have bQ := zK (Kd.S_below (zT aG) hb)
           have bT := zK (Kd.R_below (zR bk) hb)
           have a0 := zK (Kd.S_below (zT br) hb)
           have a3 := zK (Kd.S_below (zT bs) hb)
           have a4 := zK (Kd.R_below (zR bC) hb)
           have a5 := zK (Kd.S_below (zT bI) hb)
           have bB := zK (Kd.S_below (zT bJ) hb)
           have bE := zK (Kd.R_below (zR bW) hb)
           have bU := zK (Kd.S_below (zT bX) hb)
           have b7 := zK (Kd.S_below (zT bY) hb)
           have b8 := zK (blk_below (g := am) (o := .cells #[.slice aQ ab.length aR, .int .i64 a0_1, .slice aS ac.length aT, .slice aU ad.length aV] 28 (0, 0)) (zk aa) hb)
           have b9 := zK (blk_below (g := aq) (o := .cells #[.slice aO ap.length aP, .int .i64 aB, .slice bl ay.length bm, .slice bo az.length bp] 28 (0, 0)) (zk af) hb)
           have cc := zK (blk_below (g := aj) (o := .cells #[.slice aM ag.length aK, .int .i64 an, .slice be ak.length bf, .slice bi al.length bj] 28 (0, 0)) (zk ae) hb)
           have cd := zK (blk_below (g := ah) (o := .cells #[.slice aH ar.length aI, .int .i64 aW, .slice a6 aJ.length a7, .slice bg aL.length bh] 28 (0, 0)) (zk ai) hb)
           have cf := zK (below_step (zb HB) hb)
           clear ao au av ax aC aD aA aF aG bk br bs bC bI bJ bW bX bY aa af ae ai HB; have ao := bz; have au := bA; have av := bF; have ax := bG; have aC := bL; have aD := bN; have aA := bO; have aF := bP; have aG := bQ; have bk := bT; have br := a0; have bs := a3; have bC := a4; have bI := a5; have bJ := bB; have bW := bE; have bX := bU; have bY := b7; have aa := b8; have af := b9; have ae := cc; have ai := cd; have HB := cf; clear bz bA bF bG bL bN bO bP bQ bT a0 a3 a4 a5 bB bE bU b7 b8 b9 cc cd cf; (try clear hb); (try clear hb2); (try clear hk); (try clear hi)
           refine hK.out _ _ ⟨(blk_cell aa.out 0).trans rfl, (blk_cell aa.out 1).trans rfl, (blk_cell aa.out 2).trans rfl, (blk_cell aa.out 3).trans rfl, (blk_cell af.out 0).trans rfl, (blk_cell af.out 1).trans rfl, (blk_cell af.out 2).trans rfl, (blk_cell af.out 3).trans rfl, (blk_cell ae.out 0).trans rfl, (blk_cell ae.out 1).trans rfl, (blk_cell ae.out 2).trans rfl, (blk_cell ae.out 3).trans rfl, (blk_cell ai.out 0).trans rfl, (blk_cell ai.out 1).trans rfl, (blk_cell ai.out 2).trans rfl, (blk_cell ai.out 3).trans rfl⟩ (fun hHeld => ?_)
           clear hK K
           refine norm_ (a' := ?_) ?_ ?_
           rotate_left
           ·show Act.put _ (some 98) _ = _
            simp only [Act.put, zp, zq, zr, i64_w, i32_w]
            rfl
           refine zu 48 (some 99) #[tt, tt, tt, tt, tt, tt, tt, tt, tt, tt, tt, tt, tt, tt, tt, tt, tt, tt, tt, tt, tt, tt, tt, tt, tt, tt, tt, tt, tt, tt, tt, tt, tt, tt, tt, tt, tt, tt, tt, tt, tt, tt, tt, tt, tt, tt, tt, tt, tt, ff] (any_of HT_.out (by kernel_rfl)) ?_
           refine zu 49 (some 100) #[tt, tt, tt, tt, tt, tt, tt, tt, tt, tt, tt, tt, tt, tt, tt, tt, tt, tt, tt, tt, tt, tt, tt, tt, tt, tt, tt, tt, tt, tt, tt, tt, tt, tt, tt, tt, tt, tt, tt, tt, tt, tt, tt, tt, tt, tt, tt, tt, tt, tt] (any_of HT_.out (by kernel_rfl)) ?_
           refine done_ (done_of HT_.out (by kernel_rfl)) ?_
           try go_wp2
           go_meet
           case rel => exact ⟨_, ((bx != bv)), zf, H', ⟨by have := d2.out; first | omega | exact Nat.le_refl _⟩, ⟨by (with_reducible repeat (first | apply Kd.R_alloc | apply Kd.R_drewN | apply Kd.R_drew)); exact Kd.R_mono ao.out (fun _ hk => ⟨hk.1.1.1.1, hk.1.1.1.2⟩)⟩, ⟨by (with_reducible repeat (first | apply Kd.S_alloc | apply Kd.S_drewN | apply Kd.S_drew)); exact Kd.S_mono au.out (fun _ hk => ⟨hk.1.1.1.1.1.1.1, ⟨hk.1.1.1.1.1.1.2.1, ⟨hk.1.1.1.1.1.1.2.2.1, ⟨hk.1.1.1.1.1.1.2.2.2.1, hk.1.1.1.1.1.1.2.2.2.2⟩⟩⟩⟩)⟩, ⟨by (with_reducible repeat (first | apply Kd.S_alloc | apply Kd.S_drewN | apply Kd.S_drew)); exact Kd.S_mono av.out (fun _ hk => ⟨hk.1.1.1.1.1.1.1, ⟨hk.1.1.1.1.1.1.2.1, ⟨hk.1.1.1.1.1.1.2.2.1, ⟨hk.1.1.1.1.1.1.2.2.2.1, hk.1.1.1.1.1.1.2.2.2.2⟩⟩⟩⟩)⟩, ⟨by (with_reducible repeat (first | apply Kd.R_alloc | apply Kd.R_drewN | apply Kd.R_drew)); exact Kd.R_mono ax.out (fun _ hk => ⟨hk.1.1.1.1, hk.1.1.1.2⟩)⟩, ⟨by (with_reducible repeat (first | apply Kd.S_alloc | apply Kd.S_drewN | apply Kd.S_drew)); exact Kd.S_mono aC.out (fun _ hk => ⟨hk.1.1.1.1.1.1.1, ⟨hk.1.1.1.1.1.1.2.1, ⟨hk.1.1.1.1.1.1.2.2.1, ⟨hk.1.1.1.1.1.1.2.2.2.1, hk.1.1.1.1.1.1.2.2.2.2⟩⟩⟩⟩)⟩, ⟨by (with_reducible repeat (first | apply Kd.S_alloc | apply Kd.S_drewN | apply Kd.S_drew)); exact Kd.S_mono aD.out (fun _ hk => ⟨hk.1.1.1.1.1.1.1, ⟨hk.1.1.1.1.1.1.2.1, ⟨hk.1.1.1.1.1.1.2.2.1, ⟨hk.1.1.1.1.1.1.2.2.2.1, hk.1.1.1.1.1.1.2.2.2.2⟩⟩⟩⟩)⟩, ⟨by (with_reducible repeat (first | apply Kd.R_alloc | apply Kd.R_drewN | apply Kd.R_drew)); exact Kd.R_mono aA.out (fun _ hk => ⟨hk.1.1.1.1, hk.1.1.1.2⟩)⟩, ⟨by (with_reducible repeat (first | apply Kd.S_alloc | apply Kd.S_drewN | apply Kd.S_drew)); exact Kd.S_mono aF.out (fun _ hk => ⟨hk.1.1.1.1.1.1.1, ⟨hk.1.1.1.1.1.1.2.1, ⟨hk.1.1.1.1.1.1.2.2.1, ⟨hk.1.1.1.1.1.1.2.2.2.1, hk.1.1.1.1.1.1.2.2.2.2⟩⟩⟩⟩)⟩, ⟨by (with_reducible repeat (first | apply Kd.S_alloc | apply Kd.S_drewN | apply Kd.S_drew)); exact Kd.S_mono aG.out (fun _ hk => ⟨hk.1.1.1.1.1.1.1, ⟨hk.1.1.1.1.1.1.2.1, ⟨hk.1.1.1.1.1.1.2.2.1, ⟨hk.1.1.1.1.1.1.2.2.2.1, hk.1.1.1.1.1.1.2.2.2.2⟩⟩⟩⟩)⟩, ⟨zk aa⟩, ⟨zk af⟩, ⟨zk ae⟩, ⟨zk ai⟩, ⟨zb HB⟩⟩
          ·rw [if_neg dM] at H
           have ct : (bw == bu) = false := beq_eq_false_iff_ne.mpr dM
           have eg : (bw != bu) = true := bne_iff_ne.mpr dM
           (first | rw [ct] | (simp only [i64_w, i32_w]; rw [ct]) | skip)
           exact absurd (H.trans (congrArg some hrt.out)) (by cases kj3 <;> simp [laws_FnLoopTurns.j1])
         ·replace c66 := Bool.eq_false_iff.mpr c66
          subst c66
          have H1 : (laws_FnLoopTurns.j1 kj3 true ab a0_1 ac ad ag an ak al) = some r := by rw [if_neg (show ¬ (false = true) by decide)] at H; exact H
          clear H; have H := H1; clear H1
          exact absurd (H.trans (congrArg some hrt.out)) (by cases kj3 <;> simp [laws_FnLoopTurns.j1])
        ·replace c64 := Bool.eq_false_iff.mpr c64
         subst c64
         have H1 : (laws_FnLoopTurns.j1 kj3 true ab a0_1 ac ad ag an ak al) = some r := by rw [if_neg (show ¬ (false = true) by decide)] at H; exact H
         clear H; have H := H1; clear H1
         exact absurd (H.trans (congrArg some hrt.out)) (by cases kj3 <;> simp [laws_FnLoopTurns.j1])
       ·replace c60 := Bool.eq_false_iff.mpr c60
        subst c60
        have H1 : (laws_FnLoopTurns.j1 kj3 true ab a0_1 ac ad ag an ak al) = some r := by rw [if_neg (show ¬ (false = true) by decide)] at H; exact H
        clear H; have H := H1; clear H1
        exact absurd (H.trans (congrArg some hrt.out)) (by cases kj3 <;> simp [laws_FnLoopTurns.j1])
      ·replace c57 := Bool.eq_false_iff.mpr c57
       subst c57
       have H1 : (laws_FnLoopTurns.j1 kj3 true ab a0_1 ac ad ag an ak al) = some r := by rw [if_neg (show ¬ (false = true) by decide)] at H; exact H
       clear H; have H := H1; clear H1
       exact absurd (H.trans (congrArg some hrt.out)) (by cases kj3 <;> simp [laws_FnLoopTurns.j1])
     ·replace c55 := Bool.eq_false_iff.mpr c55
      subst c55
      have H1 : (laws_FnLoopTurns.j1 kj3 true ab a0_1 ac ad ag an ak al) = some r := by rw [if_neg (show ¬ (false = true) by decide)] at H; exact H
      clear H; have H := H1; clear H1
      exact absurd (H.trans (congrArg some hrt.out)) (by cases kj3 <;> simp [laws_FnLoopTurns.j1])
    case rest =>
     clear dL
     obtain ⟨kq, cm, rfl, HA, dr, aY, a8, a9, aN, ba, bb, aZ, bc, bd, aa, af, ae, ai, HB⟩ := hcut
     cases kq with
     | zero => exact absurd HA.out (by simp [laws_FnLoopTurns.j1])
     | succ kj25 =>
      have H := HA.out; clear HA
      simp only [laws_FnLoopTurns.j1] at H
      by_cases c94 : cm = true
      ·subst c94
       have H1 : (some false) = some r := by rw [if_pos rfl] at H; exact H
       clear H; have H := H1; clear H1
       exact absurd (H.trans (congrArg some hrt.out)) (by simp)
      ·replace c94 := Bool.eq_false_iff.mpr c94
       subst c94
       have H1 : ((impl_Stuck.f kj25 ab a0_1 ac ad).bind fun bD => ((spec_Stuck.f kj25 ab a0_1 ac ad).bind fun cu => ((laws_sameInts.f kj25 bD cu).bind fun cv => (if cv = true then (laws_FnLoopTurns.l0 kj25 bD 0 0 ag an ak al) else (some false))))) = some r := by rw [if_neg (show ¬ (false = true) by decide)] at H; exact H
       clear H; have H := H1; clear H1; replace H := Option.bind_eq_some_iff.mp H
       obtain ⟨bD, et, H⟩ := H
       replace H : ((spec_Stuck.f kj25 ab a0_1 ac ad).bind fun cu => ((laws_sameInts.f kj25 bD cu).bind fun cv => (if cv = true then (laws_FnLoopTurns.l0 kj25 bD 0 0 ag an ak al) else (some false)))) = some r := H
       have A95 := zK et; clear et; replace H := Option.bind_eq_some_iff.mp H
       obtain ⟨cu, eu, H⟩ := H
       replace H : ((laws_sameInts.f kj25 bD cu).bind fun cv => (if cv = true then (laws_FnLoopTurns.l0 kj25 bD 0 0 ag an ak al) else (some false))) = some r := H
       have A96 := zK eu; clear eu; replace H := Option.bind_eq_some_iff.mp H
       obtain ⟨cv, ew, H⟩ := H
       replace H : (if cv = true then (laws_FnLoopTurns.l0 kj25 bD 0 0 ag an ak al) else (some false)) = some r := H
       have A97 := zK ew; clear ew
       by_cases c98 : cv = true
       ·subst c98
        have H1 : (laws_FnLoopTurns.l0 kj25 bD 0 0 ag an ak al) = some r := by rw [if_pos rfl] at H; exact H
        clear H; have H := H1; clear H1; have H' := zK H; clear H; have hnb99 := bZ.out; have hnc99 := cp.out; have hnb100 := bH.out; have hnc100 := cb.out; have hnb101 := b0.out; have hnc101 := cq.out
        have cS : wc.cell? ⟨am, 0, none⟩ = some (.slice aQ ab.length aR) := (blk_cell aa.out 0).trans rfl
        have cT : wc.cell? ⟨am, 1, none⟩ = some (.int .i64 a0_1) := (blk_cell aa.out 1).trans rfl
        have cU : wc.cell? ⟨am, 2, none⟩ = some (.slice aS ac.length aT) := (blk_cell aa.out 2).trans rfl
        have cV : wc.cell? ⟨am, 3, none⟩ = some (.slice aU ad.length aV) := (blk_cell aa.out 3).trans rfl
        have cW := blk_frozen aa.out 0; have cX := blk_frozen aa.out 1; have cY := blk_frozen aa.out 2; have cZ := blk_frozen aa.out 3
        go_wp2_with (first | ((with_reducible refine gate_callee (f := 29) rfl ?_); refine goesL_ (some 102) rfl rfl Try.func29 (by kernel_rfl) rfl #[.agg #[.slice aQ ab.length aR, .int .i64 a0_1, .slice aS ac.length aT, .slice aU ad.length aV]] rfl zg ?_; (with_reducible refine (impl_Stuck.calls kj25 _ _ ab a0_1 _ _ ac _ _ ad bD _ ?side1 ?side2 ?side3 ?side4 ?side5 ?side6 A95.out).mono ?_); (case side1 => exact zs (Kd.C_below b1.out HB.out)); (case side2 => exact b2.out); (case side3 => exact zs (Kd.C_below b3.out HB.out)); (case side4 => exact b4.out); (case side5 => exact zs (Kd.C_below b5.out HB.out)); (case side6 => exact b6.out); rintro e dt ⟨v598, rfl, ho0, hb⟩; refine ⟨_, rfl, ?_⟩; have bz := zK (Kd.R_elder' (zR aY) (Kd.R_base ho0) hb); have bA := zK (Kd.S_elder' (zT a8) (Kd.R_base ho0) hb); have bF := zK (Kd.S_elder' (zT a9) (Kd.R_base ho0) hb); have bG := zK (Kd.R_elder' (zR aN) (Kd.R_base ho0) hb); have bL := zK (Kd.S_elder' (zT ba) (Kd.R_base ho0) hb); have bN := zK (Kd.S_elder' (zT bb) (Kd.R_base ho0) hb); have bO := zK (Kd.R_elder' (zR aZ) (Kd.R_base ho0) hb); have bP := zK (Kd.S_elder' (zT bc) (Kd.R_base ho0) hb); have bQ := zK (Kd.S_elder' (zT bd) (Kd.R_base ho0) hb); have bT := zK (Kd.R_lower (Kd.R_new' (Kd.R_new' (Kd.R_new' ho0 (Kd.R_lt (zR aY))) (Kd.R_lt (zR aN))) (Kd.R_lt (zR aZ))) (below_size (zb HB))); have a0 := zK (blk_below (g := am) (o := .cells #[.slice aQ ab.length aR, .int .i64 a0_1, .slice aS ac.length aT, .slice aU ad.length aV] 28 (0, 0)) (zk aa) hb); have a3 := zK (blk_below (g := aq) (o := .cells #[.slice aO ap.length aP, .int .i64 aB, .slice bl ay.length bm, .slice bo az.length bp] 28 (0, 0)) (zk af) hb); have a4 := zK (blk_below (g := aj) (o := .cells #[.slice aM ag.length aK, .int .i64 an, .slice be ak.length bf, .slice bi al.length bj] 28 (0, 0)) (zk ae) hb); have a5 := zK (blk_below (g := ah) (o := .cells #[.slice aH ar.length aI, .int .i64 aW, .slice a6 aJ.length a7, .slice bg aL.length bh] 28 (0, 0)) (zk ai) hb); have bB := zK (below_step (zb HB) hb); clear aY; clear a8; clear a9; clear aN; clear ba; clear bb; clear aZ; clear bc; clear bd; clear aa; clear af; clear ae; clear ai; clear HB; have aY := bz; have a8 := bA; have a9 := bF; have aN := bG; have ba := bL; have bb := bN; have aZ := bO; have bc := bP; have bd := bQ; have cl := bT; have aa := a0; have af := a3; have ae := a4; have ai := a5; have HB := bB; clear bz bA bF bG bL bN bO bP bQ bT a0 a3 a4 a5 bB; (try clear hb); (try clear ho0); have c0 : dt.cell? ⟨am, 0, none⟩ = some (.slice aQ ab.length aR) := (blk_cell aa.out 0).trans rfl; have c1 : dt.cell? ⟨am, 1, none⟩ = some (.int .i64 a0_1) := (blk_cell aa.out 1).trans rfl; have da : dt.cell? ⟨am, 2, none⟩ = some (.slice aS ac.length aT) := (blk_cell aa.out 2).trans rfl; have db : dt.cell? ⟨am, 3, none⟩ = some (.slice aU ad.length aV) := (blk_cell aa.out 3).trans rfl; have dc := blk_frozen aa.out 0; have dd := blk_frozen aa.out 1; have de := blk_frozen aa.out 2; have df := blk_frozen aa.out 3) | ((with_reducible refine gate_callee (f := 30) rfl ?_); refine goesL_ (some 105) rfl rfl Try.func30 (by kernel_rfl) rfl #[.agg #[.slice aQ ab.length aR, .int .i64 a0_1, .slice aS ac.length aT, .slice aU ad.length aV]] rfl zg ?_; (with_reducible refine (spec_Stuck.calls kj25 _ _ ab a0_1 _ _ ac _ _ ad cu _ ?side1 ?side2 ?side3 ?side4 ?side5 ?side6 A96.out).mono ?_); (case side1 => exact zs (Kd.C_below b1.out HB.out)); (case side2 => exact b2.out); (case side3 => exact zs (Kd.C_below b3.out HB.out)); (case side4 => exact b4.out); (case side5 => exact zs (Kd.C_below b5.out HB.out)); (case side6 => exact b6.out); rintro e w105 ⟨v601, rfl, ho0, hb⟩; refine ⟨_, rfl, ?_⟩; have bz := zK (Kd.R_elder' (zR aY) (Kd.R_base ho0) hb); have bA := zK (Kd.S_elder' (zT a8) (Kd.R_base ho0) hb); have bF := zK (Kd.S_elder' (zT a9) (Kd.R_base ho0) hb); have bG := zK (Kd.R_elder' (zR aN) (Kd.R_base ho0) hb); have bL := zK (Kd.S_elder' (zT ba) (Kd.R_base ho0) hb); have bN := zK (Kd.S_elder' (zT bb) (Kd.R_base ho0) hb); have bO := zK (Kd.R_elder' (zR aZ) (Kd.R_base ho0) hb); have bP := zK (Kd.S_elder' (zT bc) (Kd.R_base ho0) hb); have bQ := zK (Kd.S_elder' (zT bd) (Kd.R_base ho0) hb); have bT := zK (Kd.R_elder' (zR cl) (Kd.R_base ho0) hb); have a0 := zK (Kd.R_lower (Kd.R_new' (Kd.R_new' (Kd.R_new' (Kd.R_new' ho0 (Kd.R_lt (zR aY))) (Kd.R_lt (zR aN))) (Kd.R_lt (zR aZ))) (Kd.R_lt (zR cl))) (below_size (zb HB))); have a3 := zK (blk_below (g := am) (o := .cells #[.slice aQ ab.length aR, .int .i64 a0_1, .slice aS ac.length aT, .slice aU ad.length aV] 28 (0, 0)) (zk aa) hb); have a4 := zK (blk_below (g := aq) (o := .cells #[.slice aO ap.length aP, .int .i64 aB, .slice bl ay.length bm, .slice bo az.length bp] 28 (0, 0)) (zk af) hb); have a5 := zK (blk_below (g := aj) (o := .cells #[.slice aM ag.length aK, .int .i64 an, .slice be ak.length bf, .slice bi al.length bj] 28 (0, 0)) (zk ae) hb); have bB := zK (blk_below (g := ah) (o := .cells #[.slice aH ar.length aI, .int .i64 aW, .slice a6 aJ.length a7, .slice bg aL.length bh] 28 (0, 0)) (zk ai) hb); have bE := zK (below_step (zb HB) hb); clear aY; clear a8; clear a9; clear aN; clear ba; clear bb; clear aZ; clear bc; clear bd; clear cl; clear aa; clear af; clear ae; clear ai; clear HB; have aY := bz; have a8 := bA; have a9 := bF; have aN := bG; have ba := bL; have bb := bN; have aZ := bO; have bc := bP; have bd := bQ; have cl := bT; have dg := a0; have aa := a3; have af := a4; have ae := a5; have ai := bB; have HB := bE; clear bz bA bF bG bL bN bO bP bQ bT a0 a3 a4 a5 bB bE; (try clear hb); (try clear ho0); obtain ⟨cg, ch, ex⟩ := Kd.R_slice cl.out; subst ex; obtain ⟨ey, ez, eA⟩ := Kd.R_slice dg.out; subst eA) | ((with_reducible refine gate_callee (f := 27) rfl ?_); refine goesL_ (some 106) rfl rfl Try.func27 (by kernel_rfl) rfl #[.slice cg bD.length ch, .slice ey cu.length ez] rfl zg ?_; (with_reducible refine (laws_sameInts.calls kj25 _ _ bD _ _ cu true _ ?side1 ?side2 ?side3 ?side4 A97.out).mono ?_); (case side1 => exact zs (Kd.R_reads' cl.out).2.2); (case side2 => exact (Kd.R_reads' cl.out).2.1); (case side3 => exact zs (Kd.R_reads' dg.out).2.2); (case side4 => exact (Kd.R_reads' dg.out).2.1); rintro e w' ⟨rfl, ⟨nd, rfl⟩⟩; refine ⟨_, rfl, ?_⟩))
        go_loopg [12, 13] kj25 (fun kq v12 v13 w' => ∃ (bK : Int) (bn : Int), v12 = .int .i64 bK ∧ v13 = .int .i64 bn ∧ Aside0 (laws_FnLoopTurns.l0 kq bD bK bn ag an ak al = some r) ∧ Aside0 (kq ≤ kj25) ∧ Aside0 (Kd.R (Kd.int .i64) 3 w' w.heap.size (fun k_ => some k_ ≠ ((.slice aO ap.length aP) : Value).ownBlock ∧ some k_ ≠ ((.slice aM ag.length aK) : Value).ownBlock ∧ some k_ ≠ ((.slice aH ar.length aI) : Value).ownBlock) (.slice cg bD.length ch) bD) ∧ Aside0 (Kd.R (Kd.int .i64) 3 w' w.heap.size (fun k_ => some k_ ≠ ((.slice cg bD.length ch) : Value).ownBlock ∧ some k_ ≠ ((.slice aM ag.length aK) : Value).ownBlock ∧ some k_ ≠ ((.slice aH ar.length aI) : Value).ownBlock) (.slice aO ap.length aP) ap) ∧ Aside0 (Kd.S k69 69 w' w.heap.size (fun k_ => some k_ ≠ ((.slice cg bD.length ch) : Value).ownBlock ∧ some k_ ≠ ((.slice aO ap.length aP) : Value).ownBlock ∧ some k_ ≠ ((.slice aM ag.length aK) : Value).ownBlock ∧ some k_ ≠ ((.slice be ak.length bf) : Value).ownBlock ∧ some k_ ≠ ((.slice aH ar.length aI) : Value).ownBlock ∧ some k_ ≠ ((.slice a6 aJ.length a7) : Value).ownBlock) (.slice bl ay.length bm) ay) ∧ Aside0 (Kd.S k74 74 w' w.heap.size (fun k_ => some k_ ≠ ((.slice cg bD.length ch) : Value).ownBlock ∧ some k_ ≠ ((.slice aO ap.length aP) : Value).ownBlock ∧ some k_ ≠ ((.slice aM ag.length aK) : Value).ownBlock ∧ some k_ ≠ ((.slice bi al.length bj) : Value).ownBlock ∧ some k_ ≠ ((.slice aH ar.length aI) : Value).ownBlock ∧ some k_ ≠ ((.slice bg aL.length bh) : Value).ownBlock) (.slice bo az.length bp) az) ∧ Aside0 (Kd.R (Kd.int .i64) 3 w' w.heap.size (fun k_ => some k_ ≠ ((.slice cg bD.length ch) : Value).ownBlock ∧ some k_ ≠ ((.slice aO ap.length aP) : Value).ownBlock ∧ some k_ ≠ ((.slice aH ar.length aI) : Value).ownBlock) (.slice aM ag.length aK) ag) ∧ Aside0 (Kd.S k69 69 w' w.heap.size (fun k_ => some k_ ≠ ((.slice cg bD.length ch) : Value).ownBlock ∧ some k_ ≠ ((.slice aO ap.length aP) : Value).ownBlock ∧ some k_ ≠ ((.slice bl ay.length bm) : Value).ownBlock ∧ some k_ ≠ ((.slice aM ag.length aK) : Value).ownBlock ∧ some k_ ≠ ((.slice aH ar.length aI) : Value).ownBlock ∧ some k_ ≠ ((.slice a6 aJ.length a7) : Value).ownBlock) (.slice be ak.length bf) ak) ∧ Aside0 (Kd.S k74 74 w' w.heap.size (fun k_ => some k_ ≠ ((.slice cg bD.length ch) : Value).ownBlock ∧ some k_ ≠ ((.slice aO ap.length aP) : Value).ownBlock ∧ some k_ ≠ ((.slice bo az.length bp) : Value).ownBlock ∧ some k_ ≠ ((.slice aM ag.length aK) : Value).ownBlock ∧ some k_ ≠ ((.slice aH ar.length aI) : Value).ownBlock ∧ some k_ ≠ ((.slice bg aL.length bh) : Value).ownBlock) (.slice bi al.length bj) al) ∧ Aside0 (Kd.R (Kd.int .i64) 3 w' w.heap.size (fun k_ => some k_ ≠ ((.slice cg bD.length ch) : Value).ownBlock ∧ some k_ ≠ ((.slice aO ap.length aP) : Value).ownBlock ∧ some k_ ≠ ((.slice aM ag.length aK) : Value).ownBlock) (.slice aH ar.length aI) ar) ∧ Aside0 (Kd.S k69 69 w' w.heap.size (fun k_ => some k_ ≠ ((.slice cg bD.length ch) : Value).ownBlock ∧ some k_ ≠ ((.slice aO ap.length aP) : Value).ownBlock ∧ some k_ ≠ ((.slice bl ay.length bm) : Value).ownBlock ∧ some k_ ≠ ((.slice aM ag.length aK) : Value).ownBlock ∧ some k_ ≠ ((.slice be ak.length bf) : Value).ownBlock ∧ some k_ ≠ ((.slice aH ar.length aI) : Value).ownBlock) (.slice a6 aJ.length a7) aJ) ∧ Aside0 (Kd.S k74 74 w' w.heap.size (fun k_ => some k_ ≠ ((.slice cg bD.length ch) : Value).ownBlock ∧ some k_ ≠ ((.slice aO ap.length aP) : Value).ownBlock ∧ some k_ ≠ ((.slice bo az.length bp) : Value).ownBlock ∧ some k_ ≠ ((.slice aM ag.length aK) : Value).ownBlock ∧ some k_ ≠ ((.slice bi al.length bj) : Value).ownBlock ∧ some k_ ≠ ((.slice aH ar.length aI) : Value).ownBlock) (.slice bg aL.length bh) aL) ∧ Aside0 (w'.heap[am]? = some (.cells #[(.slice aQ ab.length aR), .int .i64 a0_1, (.slice aS ac.length aT), (.slice aU ad.length aV)] 28 (0, 0))) ∧ Aside0 (w'.heap[aq]? = some (.cells #[(.slice aO ap.length aP), .int .i64 aB, (.slice bl ay.length bm), (.slice bo az.length bp)] 28 (0, 0))) ∧ Aside0 (w'.heap[aj]? = some (.cells #[(.slice aM ag.length aK), .int .i64 an, (.slice be ak.length bf), (.slice bi al.length bj)] 28 (0, 0))) ∧ Aside0 (w'.heap[ah]? = some (.cells #[(.slice aH ar.length aI), .int .i64 aW, (.slice a6 aJ.length a7), (.slice bg aL.length bh)] 28 (0, 0))) ∧ Aside0 (Below w.heap.size w w'))
        case atStart => exact ⟨(0), (0), zf, zf, H', ⟨Nat.le_refl _⟩, ⟨by (with_reducible repeat (first | apply Kd.R_alloc | apply Kd.R_drewN | apply Kd.R_drew)); exact Kd.R_mono cl.out (fun _ hk => ⟨hk.1.1.1.2, ⟨hk.1.1.2, hk.1.2⟩⟩)⟩, ⟨by (with_reducible repeat (first | apply Kd.R_alloc | apply Kd.R_drewN | apply Kd.R_drew)); exact Kd.R_mono aY.out (fun _ hk => ⟨hk.1.2, ⟨hk.1.1.1, hk.1.1.2⟩⟩)⟩, ⟨by (with_reducible repeat (first | apply Kd.S_alloc | apply Kd.S_drewN | apply Kd.S_drew)); exact Kd.S_mono a8.out (fun _ hk => ⟨hk.1.2, ⟨hk.1.1.1, ⟨hk.1.1.2.1, ⟨hk.1.1.2.2.1, ⟨hk.1.1.2.2.2.1, hk.1.1.2.2.2.2⟩⟩⟩⟩⟩)⟩, ⟨by (with_reducible repeat (first | apply Kd.S_alloc | apply Kd.S_drewN | apply Kd.S_drew)); exact Kd.S_mono a9.out (fun _ hk => ⟨hk.1.2, ⟨hk.1.1.1, ⟨hk.1.1.2.1, ⟨hk.1.1.2.2.1, ⟨hk.1.1.2.2.2.1, hk.1.1.2.2.2.2⟩⟩⟩⟩⟩)⟩, ⟨by (with_reducible repeat (first | apply Kd.R_alloc | apply Kd.R_drewN | apply Kd.R_drew)); exact Kd.R_mono aN.out (fun _ hk => ⟨hk.1.2, ⟨hk.1.1.1, hk.1.1.2⟩⟩)⟩, ⟨by (with_reducible repeat (first | apply Kd.S_alloc | apply Kd.S_drewN | apply Kd.S_drew)); exact Kd.S_mono ba.out (fun _ hk => ⟨hk.1.2, ⟨hk.1.1.1, ⟨hk.1.1.2.1, ⟨hk.1.1.2.2.1, ⟨hk.1.1.2.2.2.1, hk.1.1.2.2.2.2⟩⟩⟩⟩⟩)⟩, ⟨by (with_reducible repeat (first | apply Kd.S_alloc | apply Kd.S_drewN | apply Kd.S_drew)); exact Kd.S_mono bb.out (fun _ hk => ⟨hk.1.2, ⟨hk.1.1.1, ⟨hk.1.1.2.1, ⟨hk.1.1.2.2.1, ⟨hk.1.1.2.2.2.1, hk.1.1.2.2.2.2⟩⟩⟩⟩⟩)⟩, ⟨by (with_reducible repeat (first | apply Kd.R_alloc | apply Kd.R_drewN | apply Kd.R_drew)); exact Kd.R_mono aZ.out (fun _ hk => ⟨hk.1.2, ⟨hk.1.1.1, hk.1.1.2⟩⟩)⟩, ⟨by (with_reducible repeat (first | apply Kd.S_alloc | apply Kd.S_drewN | apply Kd.S_drew)); exact Kd.S_mono bc.out (fun _ hk => ⟨hk.1.2, ⟨hk.1.1.1, ⟨hk.1.1.2.1, ⟨hk.1.1.2.2.1, ⟨hk.1.1.2.2.2.1, hk.1.1.2.2.2.2⟩⟩⟩⟩⟩)⟩, ⟨by (with_reducible repeat (first | apply Kd.S_alloc | apply Kd.S_drewN | apply Kd.S_drew)); exact Kd.S_mono bd.out (fun _ hk => ⟨hk.1.2, ⟨hk.1.1.1, ⟨hk.1.1.2.1, ⟨hk.1.1.2.2.1, ⟨hk.1.1.2.2.2.1, hk.1.1.2.2.2.2⟩⟩⟩⟩⟩)⟩, ⟨zk aa⟩, ⟨zk af⟩, ⟨zk ae⟩, ⟨zk ai⟩, ⟨zb HB⟩⟩
        case round =>
         clear H' cS cT cU cV c0 c1 da db cW cX cY cZ dc dd de df
         obtain ⟨bK, bn, rfl, rfl, HA, HK3, cn, aY, a8, a9, aN, ba, bb, aZ, bc, bd, aa, af, ae, ai, HB⟩ := hrel
         cases gk with
         | zero => exact absurd HA.out (by simp [laws_FnLoopTurns.l0])
         | succ k3 =>
          have H := HA.out; clear HA
          simp only [laws_FnLoopTurns.l0] at H
          by_cases cF : bn < (ag.length : Int)
          ·rw [if_pos cF] at H
           have dN : decide (bn < (ag.length : Int)) = true := decide_eq_true cF
           clear cF
           by_cases du : 0 ≤ bn
           ·rw [if_pos du] at H
            have c109b0 : decide (0 ≤ bn) = true := decide_eq_true du
            clear du
            by_cases cw : (rd ag bn) = 0
            ·rw [if_pos cw] at H
             have dO : ((rd ag bn) == 0) = true := beq_iff_eq.mpr cw
             have dP : ((rd ag bn) != 0) = false := bne_eq_false_iff_eq.mpr cw
             clear cw; have H' := zK H; clear H; have hnb111 := cb.out; have hnc111 := bH.out; have hnb112 := ci.out; have hnc112 := bR.out; have hnb113 := bS.out; have hnc113 := cj.out
             have eB : wr.cell? ⟨aj, 0, none⟩ = some (.slice aM ag.length aK) := (blk_cell ae.out 0).trans rfl
             have eC : wr.cell? ⟨aj, 1, none⟩ = some (.int .i64 an) := (blk_cell ae.out 1).trans rfl
             have eD : wr.cell? ⟨aj, 2, none⟩ = some (.slice be ak.length bf) := (blk_cell ae.out 2).trans rfl
             have eE : wr.cell? ⟨aj, 3, none⟩ = some (.slice bi al.length bj) := (blk_cell ae.out 3).trans rfl
             have eF := blk_frozen ae.out 0; have eG := blk_frozen ae.out 1; have eH := blk_frozen ae.out 2; have eI := blk_frozen ae.out 3
             have cx : 0 ≤ (bn : Int) := zd
             have cy : bn < (ag.length : Int) := zd
             obtain ⟨cB, dQ, dv⟩ := Kd.at_int (Kd.R_reads' aN.out).2.2 bn cx cy
             cases dQ
             replace cx := eq_true cx; replace cy := eq_true cy
             go_wp2
             go_roundg k3
             case measure => have := d2.out; have := dr.out; have := HK3.out; omega
             case rel => exact ⟨(bK), (wrap64 (bn + 1)), zf, zf, H', ⟨by have := d2.out; have := dr.out; have := HK3.out; omega⟩, ⟨zR cn⟩, ⟨zR aY⟩, ⟨zT a8⟩, ⟨zT a9⟩, ⟨zR aN⟩, ⟨zT ba⟩, ⟨zT bb⟩, ⟨zR aZ⟩, ⟨zT bc⟩, ⟨zT bd⟩, ⟨zk aa⟩, ⟨zk af⟩, ⟨zk ae⟩, ⟨zk ai⟩, ⟨zb HB⟩⟩
            ·rw [if_neg cw] at H
             have dO : ((rd ag bn) == 0) = false := beq_eq_false_iff_ne.mpr cw
             have dP : ((rd ag bn) != 0) = true := bne_iff_ne.mpr cw
             by_cases cG : bK ≥ (bD.length : Int)
             ·rw [if_pos cG] at H
              have dR : decide ((bD.length : Int) ≤ bK) = true := decide_eq_true cG
              clear cG
              exact absurd (H.trans (congrArg some hrt.out)) (by simp)
             ·rw [if_neg cG] at H
              have dR : decide ((bD.length : Int) ≤ bK) = false := decide_eq_false cG
              clear cG
              by_cases dw : 0 ≤ bK
              ·rw [if_pos dw] at H
               have c116b0 : decide (0 ≤ bK) = true := decide_eq_true dw
               clear dw
               by_cases dx : bK < (bD.length : Int)
               ·rw [if_pos dx] at H
                have c117b0 : decide (bK < (bD.length : Int)) = true := decide_eq_true dx
                clear dx
                by_cases cz : (rd bD bK) = (rd ag bn)
                ·rw [if_pos cz] at H
                 have dS : ((rd bD bK) == (rd ag bn)) = true := beq_iff_eq.mpr cz
                 have dT : ((rd bD bK) != (rd ag bn)) = false := bne_eq_false_iff_eq.mpr cz
                 clear cz; have H' := zK H; clear H; have hnb119 := cb.out; have hnc119 := bH.out; have hnb120 := ci.out; have hnc120 := bR.out; have hnb121 := bS.out; have hnc121 := cj.out
                 have eJ : wr.cell? ⟨aj, 0, none⟩ = some (.slice aM ag.length aK) := (blk_cell ae.out 0).trans rfl
                 have eK : wr.cell? ⟨aj, 1, none⟩ = some (.int .i64 an) := (blk_cell ae.out 1).trans rfl
                 have eL : wr.cell? ⟨aj, 2, none⟩ = some (.slice be ak.length bf) := (blk_cell ae.out 2).trans rfl
                 have eM : wr.cell? ⟨aj, 3, none⟩ = some (.slice bi al.length bj) := (blk_cell ae.out 3).trans rfl
                 have eN := blk_frozen ae.out 0; have eO := blk_frozen ae.out 1; have eP := blk_frozen ae.out 2; have eQ := blk_frozen ae.out 3
                 have cx : 0 ≤ (bn : Int) := zd
                 have cy : bn < (ag.length : Int) := zd
                 obtain ⟨cB, dQ, dv⟩ := Kd.at_int (Kd.R_reads' aN.out).2.2 bn cx cy
                 cases dQ
                 replace cx := eq_true cx; replace cy := eq_true cy
                 try go_wp2
                 have bz := zK (Kd.R_drew cn.out)
                 have bA := zK (Kd.R_drew aY.out)
                 have bF := zK (Kd.S_drew a8.out)
                 have bG := zK (Kd.S_drew a9.out)
                 have bL := zK (Kd.R_drew aN.out)
                 have bN := zK (Kd.S_drew ba.out)
                 have bO := zK (Kd.S_drew bb.out)
                 have bP := zK (Kd.R_drew aZ.out)
                 have bQ := zK (Kd.S_drew bc.out)
                 have bT := zK (Kd.S_drew bd.out)
                 have a0 := zK (zD aa.out)
                 have a3 := zK (zD af.out)
                 have a4 := zK (zD ae.out)
                 have a5 := zK (zD ai.out)
                 have bB := zK (zE HB.out)
                 clear cn aY a8 a9 aN ba bb aZ bc bd aa af ae ai HB; have cn := bz; have aY := bA; have a8 := bF; have a9 := bG; have aN := bL; have ba := bN; have bb := bO; have aZ := bP; have bc := bQ; have bd := bT; have aa := a0; have af := a3; have ae := a4; have ai := a5; have HB := bB; clear bz bA bF bG bL bN bO bP bQ bT a0 a3 a4 a5 bB
                 have dU : 0 ≤ (bK : Int) := zd
                 have dV : bK < (bD.length : Int) := zd
                 obtain ⟨eR, e605, cC⟩ := Kd.at_int (Kd.R_reads' cn.out).2.2 bK dU dV
                 cases e605
                 replace dU := eq_true dU; replace dV := eq_true dV
                 have dW : 0 ≤ (bn : Int) := zd
                 have dX : bn < (ag.length : Int) := zd
                 obtain ⟨eS, e606, cD⟩ := Kd.at_int (Kd.R_reads' aN.out).2.2 bn dW dX
                 obtain rfl : cB = eS := (by injection e606)
                 replace dW := eq_true dW; replace dX := eq_true dX
                 refine start_ (n := 16) (S := fun w' => w'.cell? ⟨aj, 0, none⟩ = some (.slice (some cB) ag.length aK) ∧ w'.cell? ⟨aj, 1, none⟩ = some (.int .i64 an) ∧ w'.cell? ⟨aj, 2, none⟩ = some (.slice be ak.length bf) ∧ w'.cell? ⟨aj, 3, none⟩ = some (.slice bi al.length bj) ∧ w'.cell? (eR.add (bK).toNat) = some (.int .i64 (rd bD bK)) ∧ w'.cell? (cB.add (bn).toNat) = some (.int .i64 (rd ag bn))) (ds := []) #[ff, ff, ff, ff, ff, ff, ff, ff, ff, ff, ff, ff, ff, ff, ff, ff] (by kernel_rfl) rfl rfl ⟨(blk_cell ae.out 0).trans rfl, (blk_cell ae.out 1).trans rfl, (blk_cell ae.out 2).trans rfl, (blk_cell ae.out 3).trans rfl, cC, cD⟩ (fun hHeld => ?_); refine with_tabW laws_FnLoopTurns.tab17 laws_FnLoopTurns.bits17 (fun HT_ HW_ => ?_)
                 generalize wr.drew = w123 at cn aY a8 a9 aN ba bb aZ bc bd aa af ae ai HB cC cD hHeld ⊢
                 refine zu 0 (some 121) #[tt, ff, ff, ff, ff, ff, ff, ff, ff, ff, ff, ff, ff, ff, ff, ff] (any_of HT_.out (by kernel_rfl)) ?_
                 refine zu 1 (some 122) #[tt, tt, ff, ff, ff, ff, ff, ff, ff, ff, ff, ff, ff, ff, ff, ff] (any_of HT_.out (by kernel_rfl)) ?_
                 refine zu 2 (some 123) #[tt, tt, tt, ff, ff, ff, ff, ff, ff, ff, ff, ff, ff, ff, ff, ff] (any_of HT_.out (by kernel_rfl)) ?_
                 refine zu 3 (some 124) #[tt, tt, tt, tt, ff, ff, ff, ff, ff, ff, ff, ff, ff, ff, ff, ff] (any_of HT_.out (by kernel_rfl)) ?_
                 refine zu 4 (some 125) #[tt, tt, tt, tt, tt, ff, ff, ff, ff, ff, ff, ff, ff, ff, ff, ff] (any_of HT_.out (by kernel_rfl)) ?_
                 refine zu 5 (some 126) #[tt, tt, tt, tt, tt, tt, ff, ff, ff, ff, ff, ff, ff, ff, ff, ff] (any_of HT_.out (by kernel_rfl)) ?_
                 refine zu 6 (some 127) #[tt, tt, tt, tt, tt, tt, tt, ff, ff, ff, ff, ff, ff, ff, ff, ff] (any_of HT_.out (by kernel_rfl)) ?_
                 refine zu 7 (some 128) #[tt, tt, tt, tt, tt, tt, tt, tt, ff, ff, ff, ff, ff, ff, ff, ff] (any_of HT_.out (by kernel_rfl)) ?_
                 refine zu 9 (some 130) #[tt, tt, tt, tt, tt, tt, tt, tt, ff, tt, ff, ff, ff, ff, ff, ff] (any_of HT_.out (by kernel_rfl)) ?_
                 refine zu 11 (some 132) #[tt, tt, tt, tt, tt, tt, tt, tt, ff, tt, ff, tt, ff, ff, ff, ff] (any_of HT_.out (by kernel_rfl)) ?_
                 refine zt 8 (some 129) #[tt, tt, tt, tt, tt, tt, tt, tt, tt, tt, ff, tt, ff, ff, ff, ff] (take_ofW HT_.out HW_.out (by kernel_rfl)) hHeld ?_
                 refine zt 10 (some 131) #[tt, tt, tt, tt, tt, tt, tt, tt, tt, tt, tt, tt, ff, ff, ff, ff] (take_ofW HT_.out HW_.out (by kernel_rfl)) hHeld ?_
                 refine zu 12 (some 133) #[tt, tt, tt, tt, tt, tt, tt, tt, tt, tt, tt, tt, tt, ff, ff, ff] (any_of HT_.out (by kernel_rfl)) ?_
                 refine zt 13 (some 134) #[tt, tt, tt, tt, tt, tt, tt, tt, tt, tt, tt, tt, tt, tt, ff, ff] (take_ofW HT_.out HW_.out (by kernel_rfl)) hHeld ?_
                 refine zu 14 (some 135) #[tt, tt, tt, tt, tt, tt, tt, tt, tt, tt, tt, tt, tt, tt, tt, ff] (any_of HT_.out (by kernel_rfl)) ?_
                 refine zu 15 (some 136) #[tt, tt, tt, tt, tt, tt, tt, tt, tt, tt, tt, tt, tt, tt, tt, tt] (any_of HT_.out (by kernel_rfl)) ?_
                 refine done_ (done_of HT_.out (by kernel_rfl)) ?_
                 try go_wp2
                 go_roundg k3
                 case measure => have := d2.out; have := dr.out; have := HK3.out; omega
                 case rel => exact ⟨(wrap64 (bK + 1)), (wrap64 (bn + 1)), zf, zf, H', ⟨by have := d2.out; have := dr.out; have := HK3.out; omega⟩, ⟨zR cn⟩, ⟨zR aY⟩, ⟨zT a8⟩, ⟨zT a9⟩, ⟨zR aN⟩, ⟨zT ba⟩, ⟨zT bb⟩, ⟨zR aZ⟩, ⟨zT bc⟩, ⟨zT bd⟩, ⟨zk aa⟩, ⟨zk af⟩, ⟨zk ae⟩, ⟨zk ai⟩, ⟨zb HB⟩⟩
                ·rw [if_neg cz] at H
                 have dS : ((rd bD bK) == (rd ag bn)) = false := beq_eq_false_iff_ne.mpr cz
                 have dT : ((rd bD bK) != (rd ag bn)) = true := bne_iff_ne.mpr cz
                 exact absurd (H.trans (congrArg some hrt.out)) (by simp)
               ·rw [if_neg dx] at H
                exact absurd H (by simp)
              ·rw [if_neg dw] at H
               exact absurd H (by simp)
           ·rw [if_neg du] at H
            exact absurd H (by simp)
          ·rw [if_neg cF] at H
           have dN : decide (bn < (ag.length : Int)) = false := decide_eq_false cF
           clear cF; obtain rfl := Option.some.inj H; have hnb124 := cb.out; have hnc124 := bH.out; have hnb125 := ci.out; have hnc125 := bR.out; have hnb126 := bS.out; have hnc126 := cj.out
           have eT : wr.cell? ⟨aj, 0, none⟩ = some (.slice aM ag.length aK) := (blk_cell ae.out 0).trans rfl
           have eU : wr.cell? ⟨aj, 1, none⟩ = some (.int .i64 an) := (blk_cell ae.out 1).trans rfl
           have eV : wr.cell? ⟨aj, 2, none⟩ = some (.slice be ak.length bf) := (blk_cell ae.out 2).trans rfl
           have eW : wr.cell? ⟨aj, 3, none⟩ = some (.slice bi al.length bj) := (blk_cell ae.out 3).trans rfl
           have eX := blk_frozen ae.out 0; have eY := blk_frozen ae.out 1; have eZ := blk_frozen ae.out 2; have e0 := blk_frozen ae.out 3
           go_wp2
           go_ret
           exact ⟨ze, zb HB⟩
       ·replace c98 := Bool.eq_false_iff.mpr c98
        subst c98
        have H1 : (some false) = some r := by rw [if_neg (show ¬ (false = true) by decide)] at H; exact H
        clear H; have H := H1; clear H1
        exact absurd (H.trans (congrArg some hrt.out)) (by simp)
end Go.Proofs.Ytmjhbdmicejppaa.Px
