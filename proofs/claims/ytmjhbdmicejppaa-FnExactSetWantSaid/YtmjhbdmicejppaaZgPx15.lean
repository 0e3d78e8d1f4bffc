import Derived.Test.YtmjhbdmicejppaaZgPx0
import Derived.Test.YtmjhbdmicejppaaZgPx12
namespace Go.Proofs.Ytmjhbdmicejppaa.Px
open Go.RowKit Go.Proofs.YtmjhbdmicejppaaW.PrintWords Go.Proofs.YtmjhbdmicejppaaW.PrintLast Go.Proofs.YtmjhbdmicejppaaW.PrintMore
attribute [local go_sem] max2_int min2_int max_two min_two max_three min_three max_four min_four   
set_option linter.unusedVariables false
set_option linter.unusedSimpArgs false
def laws_heldChuteS.l0 : Nat → List (S69) → Int → Int → Option (Int)
 | 0, _, _, _ => none
 | k + 1, x0, x1, x5 => if x5 < (x0.length : Int) then (if 0 ≤ x5 then (if ((rd_T69 x0 x5).f0) = x1 then (if ((rd_T69 x0 x5).f1) = (wrap64 (x1 + 1)) then ((laws_heldIntS.f k ((rd_T69 x0 x5).f2) (wrap64 ((wrap64 (x1 + 1)) + 1))).bind fun t896 => (if t896 < 0 then (some (-1)) else (laws_heldChuteS.l0 k x0 t896 (wrap64 (x5 + 1))))) else (some (-1))) else (some (-1))) else (none)) else (some x1)
def laws_heldChuteS.f (k : Nat) (l0 : List (S69)) (a1 : Int) : Option (Int) := laws_heldChuteS.l0 k l0 a1 0
set_option maxHeartbeats 8000000 in
set_option maxRecDepth 100000 in
theorem laws_heldChuteS.calls (k : Nat) (A0 : Option Addr) (c0 : Nat) (l0 : List (S69)) (a1 : Int) (r : Int) (w : World) (hr0 : Kd.C k69 w A0 l0.length l0) (hc0 : l0.length ≤ c0) (h : laws_heldChuteS.f k l0 a1 = some r) :
  Calls Try.prog 82 #[.slice A0 l0.length c0, .int .i64 a1] w fun e w' => e = .returned (.int .i64 r) ∧ Drawn0 w w' := by
 have aN := zK hr0; have HC0 := zK hc0; clear hr0 hc0
 have H : (laws_heldChuteS.l0 k l0 a1 0) = some r := h
 clear h; have H' := zK H; clear H
 go_enter Try.func82, Try.ntmps82
 go_wp2
 go_loopg [1, 5] k (fun kq v1 v5 w' => ∃ (ag : Int) (aa : Int), v1 = .int .i64 ag ∧ v5 = .int .i64 aa ∧ Aside0 (laws_heldChuteS.l0 kq l0 ag aa = some r) ∧ Aside0 (kq ≤ k) ∧ Drawn0 w w')
 case atStart => exact ⟨(a1), (0), zf, zf, H', ⟨Nat.le_refl _⟩, by repeat (first | exact Drawn0.refl _ | apply Drawn0.step)⟩
 case round =>
  clear H'
  try clear p2
  obtain ⟨ag, aa, rfl, rfl, HA, HK1, ⟨m1, rfl⟩⟩ := hrel
  cases gk with
  | zero => exact absurd HA.out (by simp [laws_heldChuteS.l0])
  | succ k1 =>
   have H := HA.out; clear HA
   simp only [laws_heldChuteS.l0] at H
   by_cases c3 : aa < (l0.length : Int)
   ·rw [if_pos c3] at H
    have c3b0 : decide (aa < (l0.length : Int)) = true := decide_eq_true c3
    clear c3
    by_cases c4 : 0 ≤ aa
    ·rw [if_pos c4] at H
     have c4b0 : decide (0 ≤ aa) = true := decide_eq_true c4
     clear c4
     by_cases c5 : ((rd_T69 l0 aa).f0) = ag
     ·rw [if_pos c5] at H
      have c5b0 : (((rd_T69 l0 aa).f0) == ag) = true := beq_iff_eq.mpr c5
      have c5b1 : (((rd_T69 l0 aa).f0) != ag) = false := bne_eq_false_iff_eq.mpr c5
      clear c5
      by_cases c6 : ((rd_T69 l0 aa).f1) = (wrap64 (ag + 1))
      ·rw [if_pos c6] at H
       have c6b0 : (((rd_T69 l0 aa).f1) == (wrap64 (ag + 1))) = true := beq_iff_eq.mpr c6
       have c6b1 : (((rd_T69 l0 aa).f1) != (wrap64 (ag + 1))) = false := bne_eq_false_iff_eq.mpr c6
       clear c6; replace H := Option.bind_eq_some_iff.mp H
       obtain ⟨aA, A70, H⟩ := H
       replace H : (if aA < 0 then (some (-1)) else (laws_heldChuteS.l0 k1 l0 aA (wrap64 (aa + 1)))) = some r := H
       have A7 := zK A70; clear A70
       by_cases c8 : aA < 0
       ·rw [if_pos c8] at H
        have c8b0 : decide (aA < 0) = true := decide_eq_true c8
        clear c8; obtain rfl := Option.some.inj H
        have ah : 0 ≤ (aa : Int) := zd
        have ai : aa < (l0.length : Int) := zd
        obtain ⟨am, an, ao, aC, ar, au, ad, ab, ac⟩ := at_T69 aN.out aa ah ai
        cases aC
        have av := zK ac; have aw := zK ab; clear ac ab; replace ah := eq_true ah; replace ai := eq_true ai
        have ap : 0 ≤ (aa : Int) := zd
        have aq : aa < (l0.length : Int) := zd
        obtain ⟨aB, aJ, aK, aL, aF, aG, aj, ae, af⟩ := at_T69 aN.out aa ap aq
        obtain rfl : am = aB := (by injection aL)
        have aH := zK af; have aI := zK ae; clear af ae; replace ap := eq_true ap; replace aq := eq_true aq
        have ea_ := Option.some.inj (ad.symm.trans aj)
        injection ea_ with ea_ en_ ec_
        subst ea_; subst ec_; clear en_
        have aD : 0 ≤ (aa : Int) := zd
        have aE : aa < (l0.length : Int) := zd
        obtain ⟨aM, aQ, aR, aS, aO, aP, ax, ak, al⟩ := at_T69 aN.out aa aD aE
        obtain rfl : am = aM := (by injection aS)
        have ay := zK al; have az := zK ak; clear al ak; replace aD := eq_true aD; replace aE := eq_true aE
        have ea_ := Option.some.inj (ad.symm.trans ax)
        injection ea_ with ea_ en_ ec_
        subst ea_; subst ec_; clear en_
        go_wp2_with (first | ((with_reducible refine gate_callee (f := 45) rfl ?_); refine goesL_ (some 36) rfl rfl Try.func45 (by kernel_rfl) rfl #[.slice an ((rd_T69 l0 aa).f2).length ao, .int .i64 (wrap64 ((wrap64 (ag + 1)) + 1))] rfl zg ?_; (with_reducible refine (laws_heldIntS.calls k1 _ _ ((rd_T69 l0 aa).f2) (wrap64 ((wrap64 (ag + 1)) + 1)) aA _ ?side1 ?side2 A7.out).mono ?_); (case side1 => repeat (first | exact ay.out | (with_reducible refine Kd.C_alloc ?_ _) | (with_reducible refine Kd.C_drewN ?_ _) | (with_reducible refine Kd.C_drew ?_))); (case side2 => exact az.out); rintro e w' ⟨rfl, ⟨nd, rfl⟩⟩; refine ⟨_, rfl, ?_⟩))
        go_ret
        exact ⟨by first | rfl | (simp; done) | (simp [*]; done), by repeat (first | exact Drawn0.refl _ | apply Drawn0.step)⟩
       ·rw [if_neg c8] at H
        have c8b0 : decide (aA < 0) = false := decide_eq_false c8
        clear c8; have H' := zK H; clear H
        have ah : 0 ≤ (aa : Int) := zd
        have ai : aa < (l0.length : Int) := zd
        obtain ⟨am, an, ao, aC, ar, au, ad, ab, ac⟩ := at_T69 aN.out aa ah ai
        cases aC
        have av := zK ac; have aw := zK ab; clear ac ab; replace ah := eq_true ah; replace ai := eq_true ai
        have ap : 0 ≤ (aa : Int) := zd
        have aq : aa < (l0.length : Int) := zd
        obtain ⟨aB, aJ, aK, aL, aF, aG, aj, ae, af⟩ := at_T69 aN.out aa ap aq
        obtain rfl : am = aB := (by injection aL)
        have aH := zK af; have aI := zK ae; clear af ae; replace ap := eq_true ap; replace aq := eq_true aq
        have ea_ := Option.some.inj (ad.symm.trans aj)
        injection ea_ with ea_ en_ ec_
        subst ea_; subst ec_; clear en_
        have aD : 0 ≤ (aa : Int) := zd
        have aE : aa < (l0.length : Int) := zd
        obtain ⟨aM, aQ, aR, aS, aO, aP, ax, ak, al⟩ := at_T69 aN.out aa aD aE
        obtain rfl : am = aM := (by injection aS)
        have ay := zK al; have az := zK ak; clear al ak; replace aD := eq_true aD; replace aE := eq_true aE
        have ea_ := Option.some.inj (ad.symm.trans ax)
        injection ea_ with ea_ en_ ec_
        subst ea_; subst ec_; clear en_
        go_wp2_with (first | ((with_reducible refine gate_callee (f := 45) rfl ?_); refine goesL_ (some 36) rfl rfl Try.func45 (by kernel_rfl) rfl #[.slice an ((rd_T69 l0 aa).f2).length ao, .int .i64 (wrap64 ((wrap64 (ag + 1)) + 1))] rfl zg ?_; (with_reducible refine (laws_heldIntS.calls k1 _ _ ((rd_T69 l0 aa).f2) (wrap64 ((wrap64 (ag + 1)) + 1)) aA _ ?side1 ?side2 A7.out).mono ?_); (case side1 => repeat (first | exact ay.out | (with_reducible refine Kd.C_alloc ?_ _) | (with_reducible refine Kd.C_drewN ?_ _) | (with_reducible refine Kd.C_drew ?_))); (case side2 => exact az.out); rintro e w' ⟨rfl, ⟨nd, rfl⟩⟩; refine ⟨_, rfl, ?_⟩))
        go_roundg k1
        case measure => have := HK1.out; omega
        case rel => exact ⟨(aA), (wrap64 (aa + 1)), zf, zf, H', ⟨by have := HK1.out; omega⟩, by repeat (first | exact Drawn0.refl _ | apply Drawn0.step)⟩
      ·rw [if_neg c6] at H
       have c6b0 : (((rd_T69 l0 aa).f1) == (wrap64 (ag + 1))) = false := beq_eq_false_iff_ne.mpr c6
       have c6b1 : (((rd_T69 l0 aa).f1) != (wrap64 (ag + 1))) = true := bne_iff_ne.mpr c6
       obtain rfl := Option.some.inj H
       have ah : 0 ≤ (aa : Int) := zd
       have ai : aa < (l0.length : Int) := zd
       obtain ⟨am, an, ao, aC, ar, au, ad, ab, ac⟩ := at_T69 aN.out aa ah ai
       cases aC
       have av := zK ac; have aw := zK ab; clear ac ab; replace ah := eq_true ah; replace ai := eq_true ai
       have ap : 0 ≤ (aa : Int) := zd
       have aq : aa < (l0.length : Int) := zd
       obtain ⟨aB, aJ, aK, aL, aF, aG, aj, ae, af⟩ := at_T69 aN.out aa ap aq
       obtain rfl : am = aB := (by injection aL)
       have aH := zK af; have aI := zK ae; clear af ae; replace ap := eq_true ap; replace aq := eq_true aq
       have ea_ := Option.some.inj (ad.symm.trans aj)
       injection ea_ with ea_ en_ ec_
       subst ea_; subst ec_; clear en_
       go_wp2
       go_ret
       exact ⟨by first | rfl | (simp; done) | (simp [*]; done), by repeat (first | exact Drawn0.refl _ | apply Drawn0.step)⟩
     ·rw [if_neg c5] at H
      have c5b0 : (((rd_T69 l0 aa).f0) == ag) = false := beq_eq_false_iff_ne.mpr c5
      have c5b1 : (((rd_T69 l0 aa).f0) != ag) = true := bne_iff_ne.mpr c5
      obtain rfl := Option.some.inj H
      have ah : 0 ≤ (aa : Int) := zd
      have ai : aa < (l0.length : Int) := zd
      obtain ⟨am, an, ao, aC, ar, au, ad, ab, ac⟩ := at_T69 aN.out aa ah ai
      cases aC
      have av := zK ac; have aw := zK ab; clear ac ab; replace ah := eq_true ah; replace ai := eq_true ai
      go_wp2
      go_ret
      exact ⟨by first | rfl | (simp; done) | (simp [*]; done), by repeat (first | exact Drawn0.refl _ | apply Drawn0.step)⟩
    ·rw [if_neg c4] at H
     exact absurd H (by simp)
   ·rw [if_neg c3] at H
    have c3b0 : decide (aa < (l0.length : Int)) = false := decide_eq_false c3
    clear c3; obtain rfl := Option.some.inj H
    go_wp2
    go_ret
    exact ⟨by first | rfl | (simp; done) | (simp [*]; done), by repeat (first | exact Drawn0.refl _ | apply Drawn0.step)⟩
def laws_heldWantS.l0 : Nat → List (S74) → Int → Int → Option (Int)
 | 0, _, _, _ => none
 | k + 1, x0, x1, x5 => if x5 < (x0.length : Int) then (if 0 ≤ x5 then (if ((rd_T74 x0 x5).f0) = x1 then ((laws_heldIntS.f k ((rd_T74 x0 x5).f1) (wrap64 (x1 + 1))).bind fun t899 => (if t899 < 0 then (some (-1)) else (laws_heldWantS.l0 k x0 t899 (wrap64 (x5 + 1))))) else (some (-1))) else (none)) else (some x1)
def laws_heldWantS.f (k : Nat) (l0 : List (S74)) (a1 : Int) : Option (Int) := laws_heldWantS.l0 k l0 a1 0
set_option maxHeartbeats 8000000 in
set_option maxRecDepth 100000 in
theorem laws_heldWantS.calls (k : Nat) (A0 : Option Addr) (c0 : Nat) (l0 : List (S74)) (a1 : Int) (r : Int) (w : World) (hr0 : Kd.C k74 w A0 l0.length l0) (hc0 : l0.length ≤ c0) (h : laws_heldWantS.f k l0 a1 = some r) :
  Calls Try.prog 83 #[.slice A0 l0.length c0, .int .i64 a1] w fun e w' => e = .returned (.int .i64 r) ∧ Drawn0 w w' := by
 have aD := zK hr0; have HC0 := zK hc0; clear hr0 hc0
 have H : (laws_heldWantS.l0 k l0 a1 0) = some r := h
 clear h; have H' := zK H; clear H
 go_enter Try.func83, Try.ntmps83
 go_wp2
 go_loopg [1, 5] k (fun kq v1 v5 w' => ∃ (af : Int) (aa : Int), v1 = .int .i64 af ∧ v5 = .int .i64 aa ∧ Aside0 (laws_heldWantS.l0 kq l0 af aa = some r) ∧ Aside0 (kq ≤ k) ∧ Drawn0 w w')
 case atStart => exact ⟨(a1), (0), zf, zf, H', ⟨Nat.le_refl _⟩, by repeat (first | exact Drawn0.refl _ | apply Drawn0.step)⟩
 case round =>
  clear H'
  try clear p2
  obtain ⟨af, aa, rfl, rfl, HA, HK1, ⟨m1, rfl⟩⟩ := hrel
  cases gk with
  | zero => exact absurd HA.out (by simp [laws_heldWantS.l0])
  | succ k1 =>
   have H := HA.out; clear HA
   simp only [laws_heldWantS.l0] at H
   by_cases c3 : aa < (l0.length : Int)
   ·rw [if_pos c3] at H
    have c3b0 : decide (aa < (l0.length : Int)) = true := decide_eq_true c3
    clear c3
    by_cases c4 : 0 ≤ aa
    ·rw [if_pos c4] at H
     have c4b0 : decide (0 ≤ aa) = true := decide_eq_true c4
     clear c4
     by_cases c5 : ((rd_T74 l0 aa).f0) = af
     ·rw [if_pos c5] at H
      have c5b0 : (((rd_T74 l0 aa).f0) == af) = true := beq_iff_eq.mpr c5
      have c5b1 : (((rd_T74 l0 aa).f0) != af) = false := bne_eq_false_iff_eq.mpr c5
      clear c5; replace H := Option.bind_eq_some_iff.mp H
      obtain ⟨ao, A60, H⟩ := H
      replace H : (if ao < 0 then (some (-1)) else (laws_heldWantS.l0 k1 l0 ao (wrap64 (aa + 1)))) = some r := H
      have A6 := zK A60; clear A60
      by_cases c7 : ao < 0
      ·rw [if_pos c7] at H
       have c7b0 : decide (ao < 0) = true := decide_eq_true c7
       clear c7; obtain rfl := Option.some.inj H
       have ah : 0 ≤ (aa : Int) := zd
       have ai : aa < (l0.length : Int) := zd
       obtain ⟨ar, aj, ak, ax, au, ag, ab, ac⟩ := at_T74 aD.out aa ah ai
       cases ax
       have av := zK ac; have aw := zK ab; clear ac ab; replace ah := eq_true ah; replace ai := eq_true ai
       have ap : 0 ≤ (aa : Int) := zd
       have aq : aa < (l0.length : Int) := zd
       obtain ⟨ay, aA, aB, aC, az, al, ad, ae⟩ := at_T74 aD.out aa ap aq
       obtain rfl : ar = ay := (by injection aC)
       have am := zK ae; have an := zK ad; clear ae ad; replace ap := eq_true ap; replace aq := eq_true aq
       have ea_ := Option.some.inj (ag.symm.trans al)
       injection ea_ with ea_ en_ ec_
       subst ea_; subst ec_; clear en_
       go_wp2_with (first | ((with_reducible refine gate_callee (f := 45) rfl ?_); refine goesL_ (some 27) rfl rfl Try.func45 (by kernel_rfl) rfl #[.slice aj ((rd_T74 l0 aa).f1).length ak, .int .i64 (wrap64 (af + 1))] rfl zg ?_; (with_reducible refine (laws_heldIntS.calls k1 _ _ ((rd_T74 l0 aa).f1) (wrap64 (af + 1)) ao _ ?side1 ?side2 A6.out).mono ?_); (case side1 => repeat (first | exact am.out | (with_reducible refine Kd.C_alloc ?_ _) | (with_reducible refine Kd.C_drewN ?_ _) | (with_reducible refine Kd.C_drew ?_))); (case side2 => exact an.out); rintro e w' ⟨rfl, ⟨nd, rfl⟩⟩; refine ⟨_, rfl, ?_⟩))
       go_ret
       exact ⟨by first | rfl | (simp; done) | (simp [*]; done), by repeat (first | exact Drawn0.refl _ | apply Drawn0.step)⟩
      ·rw [if_neg c7] at H
       have c7b0 : decide (ao < 0) = false := decide_eq_false c7
       clear c7; have H' := zK H; clear H
       have ah : 0 ≤ (aa : Int) := zd
       have ai : aa < (l0.length : Int) := zd
       obtain ⟨ar, aj, ak, ax, au, ag, ab, ac⟩ := at_T74 aD.out aa ah ai
       cases ax
       have av := zK ac; have aw := zK ab; clear ac ab; replace ah := eq_true ah; replace ai := eq_true ai
       have ap : 0 ≤ (aa : Int) := zd
       have aq : aa < (l0.length : Int) := zd
       obtain ⟨ay, aA, aB, aC, az, al, ad, ae⟩ := at_T74 aD.out aa ap aq
       obtain rfl : ar = ay := (by injection aC)
       have am := zK ae; have an := zK ad; clear ae ad; replace ap := eq_true ap; replace aq := eq_true aq
       have ea_ := Option.some.inj (ag.symm.trans al)
       injection ea_ with ea_ en_ ec_
       subst ea_; subst ec_; clear en_
       go_wp2_with (first | ((with_reducible refine gate_callee (f := 45) rfl ?_); refine goesL_ (some 27) rfl rfl Try.func45 (by kernel_rfl) rfl #[.slice aj ((rd_T74 l0 aa).f1).length ak, .int .i64 (wrap64 (af + 1))] rfl zg ?_; (with_reducible refine (laws_heldIntS.calls k1 _ _ ((rd_T74 l0 aa).f1) (wrap64 (af + 1)) ao _ ?side1 ?side2 A6.out).mono ?_); (case side1 => repeat (first | exact am.out | (with_reducible refine Kd.C_alloc ?_ _) | (with_reducible refine Kd.C_drewN ?_ _) | (with_reducible refine Kd.C_drew ?_))); (case side2 => exact an.out); rintro e w' ⟨rfl, ⟨nd, rfl⟩⟩; refine ⟨_, rfl, ?_⟩))
       go_roundg k1
       case measure => have := HK1.out; omega
       case rel => exact ⟨(ao), (wrap64 (aa + 1)), zf, zf, H', ⟨by have := HK1.out; omega⟩, by repeat (first | exact Drawn0.refl _ | apply Drawn0.step)⟩
     ·rw [if_neg c5] at H
      have c5b0 : (((rd_T74 l0 aa).f0) == af) = false := beq_eq_false_iff_ne.mpr c5
      have c5b1 : (((rd_T74 l0 aa).f0) != af) = true := bne_iff_ne.mpr c5
      obtain rfl := Option.some.inj H
      have ah : 0 ≤ (aa : Int) := zd
      have ai : aa < (l0.length : Int) := zd
      obtain ⟨ar, aj, ak, ax, au, ag, ab, ac⟩ := at_T74 aD.out aa ah ai
      cases ax
      have av := zK ac; have aw := zK ab; clear ac ab; replace ah := eq_true ah; replace ai := eq_true ai
      go_wp2
      go_ret
      exact ⟨by first | rfl | (simp; done) | (simp [*]; done), by repeat (first | exact Drawn0.refl _ | apply Drawn0.step)⟩
    ·rw [if_neg c4] at H
     exact absurd H (by simp)
   ·rw [if_neg c3] at H
    have c3b0 : decide (aa < (l0.length : Int)) = false := decide_eq_false c3
    clear c3; obtain rfl := Option.some.inj H
    go_wp2
    go_ret
    exact ⟨by first | rfl | (simp; done) | (simp [*]; done), by repeat (first | exact Drawn0.refl _ | apply Drawn0.step)⟩
def laws_heldLoop.f (k : Nat) (l0_0 : List Int) (a0_1 : Int) (l0_2 : List (S69)) (l0_3 : List (S74)) (a1 : Int) : Option (Int) := (laws_heldIntS.f k l0_0 a1).bind fun t901 => (if t901 < 0 then (some (-1)) else ((laws_heldChuteS.f k l0_2 t901).bind fun t902 => (if t902 < 0 then (some (-1)) else ((laws_heldWantS.f k l0_3 t902).bind fun t903 => (if t903 < 0 then (some (-1)) else (some t903))))))
set_option maxHeartbeats 8000000 in
set_option maxRecDepth 100000 in
theorem laws_heldLoop.calls (k : Nat) (aj : Option Addr) (ak : Nat) (ac : List Int) (a0_1 : Int) (al : Option Addr) (am : Nat) (ad : List (S69)) (an : Option Addr) (ao : Nat) (ae : List (S74)) (a1 : Int) (r : Int) (w : World) (aA : Kd.C (Kd.int .i64) w aj ac.length ac) (hc0_0 : ac.length ≤ ak) (aB : Kd.C k69 w al ad.length ad) (hc0_2 : ad.length ≤ am) (aC : Kd.C k74 w an ae.length ae) (hc0_3 : ae.length ≤ ao) (h : laws_heldLoop.f k ac a0_1 ad ae a1 = some r) :
  Calls Try.prog 44 #[.agg #[.slice aj ac.length ak, .int .i64 a0_1, .slice al ad.length am, .slice an ae.length ao], .int .i64 a1] w fun e w' => e = .returned (.int .i64 r) ∧ Below w.heap.size w w' := by
 have hu28 := Try.underlying28; have ap := zK aA; have aq := zK hc0_0; clear aA hc0_0; have ar := zK aB; have au := zK hc0_2; clear aB hc0_2; have aD := zK aC; have aE := zK hc0_3; clear aC hc0_3
 have HB := zK (Below.refl w.heap.size w)
 have H : ((laws_heldIntS.f k ac a1).bind fun ag => (if ag < 0 then (some (-1)) else ((laws_heldChuteS.f k ad ag).bind fun ah => (if ah < 0 then (some (-1)) else ((laws_heldWantS.f k ae ah).bind fun ai => (if ai < 0 then (some (-1)) else (some ai))))))) = some r := h
 clear h; replace H := Option.bind_eq_some_iff.mp H
 obtain ⟨ag, A30, H⟩ := H
 replace H : (if ag < 0 then (some (-1)) else ((laws_heldChuteS.f k ad ag).bind fun ah => (if ah < 0 then (some (-1)) else ((laws_heldWantS.f k ae ah).bind fun ai => (if ai < 0 then (some (-1)) else (some ai)))))) = some r := H
 have A3 := zK A30; clear A30
 by_cases c4 : ag < 0
 ·rw [if_pos c4] at H
  have c4b0 : decide (ag < 0) = true := decide_eq_true c4
  clear c4; obtain rfl := Option.some.inj H
  go_enter Try.func44, Try.ntmps44
  go_wp2_with (first | ((with_reducible refine gate_dst (N := 2) rfl ?_); refine zX 2 #[.slice aj ac.length ak, .int .i64 a0_1, .slice al ad.length am, .slice an ae.length ao] 28 ?_; intro ab hg w5 hbox hb; have av := zK (below_step (zb HB) hb); have aw := zK (hbox); have ax := zK ((by rw [hg]; exact (below_size (zb HB)) : w.heap.size ≤ ab)); have ay := zK ((by rw [hg]; exact (below_size (zb HB)) : w.heap.size ≤ ab)); clear HB; have HB := av; have aa := aw; have az := ax; have af := ay; clear av aw ax ay; clear hb hbox hg; have hcz6_0 : w5.cell? ⟨ab, 0, none⟩ = some (.slice aj ac.length ak) := (blk_cell aa.out 0).trans rfl; have hcz6_1 : w5.cell? ⟨ab, 1, none⟩ = some (.int .i64 a0_1) := (blk_cell aa.out 1).trans rfl; have hcz6_2 : w5.cell? ⟨ab, 2, none⟩ = some (.slice al ad.length am) := (blk_cell aa.out 2).trans rfl; have hcz6_3 : w5.cell? ⟨ab, 3, none⟩ = some (.slice an ae.length ao) := (blk_cell aa.out 3).trans rfl; have hfz6_0 := blk_frozen aa.out 0; have hfz6_1 := blk_frozen aa.out 1; have hfz6_2 := blk_frozen aa.out 2; have hfz6_3 := blk_frozen aa.out 3) | ((with_reducible refine gate_callee (f := 45) rfl ?_); refine goesL_ (some 8) rfl rfl Try.func45 (by kernel_rfl) rfl #[.slice aj ac.length ak, .int .i64 a1] rfl zg ?_; (with_reducible refine (laws_heldIntS.calls k _ _ ac a1 ag _ ?side1 ?side2 A3.out).mono ?_); (case side1 => exact zs (Kd.C_below ap.out HB.out)); (case side2 => exact aq.out); rintro e w' ⟨rfl, ⟨nd, rfl⟩⟩; refine ⟨_, rfl, ?_⟩))
  go_ret
  exact ⟨ze, zb HB⟩
 ·rw [if_neg c4] at H
  have c4b0 : decide (ag < 0) = false := decide_eq_false c4
  clear c4; replace H := Option.bind_eq_some_iff.mp H
  obtain ⟨ah, A70, H⟩ := H
  replace H : (if ah < 0 then (some (-1)) else ((laws_heldWantS.f k ae ah).bind fun ai => (if ai < 0 then (some (-1)) else (some ai)))) = some r := H
  have A7 := zK A70; clear A70
  by_cases c8 : ah < 0
  ·rw [if_pos c8] at H
   have c8b0 : decide (ah < 0) = true := decide_eq_true c8
   clear c8; obtain rfl := Option.some.inj H
   go_enter Try.func44, Try.ntmps44
   go_wp2_with (first | ((with_reducible refine gate_dst (N := 2) rfl ?_); refine zX 2 #[.slice aj ac.length ak, .int .i64 a0_1, .slice al ad.length am, .slice an ae.length ao] 28 ?_; intro ab hg w9 hbox hb; have av := zK (below_step (zb HB) hb); have aw := zK (hbox); have ax := zK ((by rw [hg]; exact (below_size (zb HB)) : w.heap.size ≤ ab)); have ay := zK ((by rw [hg]; exact (below_size (zb HB)) : w.heap.size ≤ ab)); clear HB; have HB := av; have aa := aw; have az := ax; have af := ay; clear av aw ax ay; clear hb hbox hg; have hcz10_0 : w9.cell? ⟨ab, 0, none⟩ = some (.slice aj ac.length ak) := (blk_cell aa.out 0).trans rfl; have hcz10_1 : w9.cell? ⟨ab, 1, none⟩ = some (.int .i64 a0_1) := (blk_cell aa.out 1).trans rfl; have hcz10_2 : w9.cell? ⟨ab, 2, none⟩ = some (.slice al ad.length am) := (blk_cell aa.out 2).trans rfl; have hcz10_3 : w9.cell? ⟨ab, 3, none⟩ = some (.slice an ae.length ao) := (blk_cell aa.out 3).trans rfl; have hfz10_0 := blk_frozen aa.out 0; have hfz10_1 := blk_frozen aa.out 1; have hfz10_2 := blk_frozen aa.out 2; have hfz10_3 := blk_frozen aa.out 3) | ((with_reducible refine gate_callee (f := 45) rfl ?_); refine goesL_ (some 8) rfl rfl Try.func45 (by kernel_rfl) rfl #[.slice aj ac.length ak, .int .i64 a1] rfl zg ?_; (with_reducible refine (laws_heldIntS.calls k _ _ ac a1 ag _ ?side1 ?side2 A3.out).mono ?_); (case side1 => exact zs (Kd.C_below ap.out HB.out)); (case side2 => exact aq.out); rintro e w' ⟨rfl, ⟨nd, rfl⟩⟩; refine ⟨_, rfl, ?_⟩) | ((with_reducible refine gate_callee (f := 82) rfl ?_); refine goesL_ (some 14) rfl rfl Try.func82 (by kernel_rfl) rfl #[.slice al ad.length am, .int .i64 ag] rfl zg ?_; (with_reducible refine (laws_heldChuteS.calls k _ _ ad ag ah _ ?side1 ?side2 A7.out).mono ?_); (case side1 => exact zs (Kd.C_below ar.out (zb HB))); (case side2 => exact au.out); rintro e w' ⟨rfl, ⟨nd, rfl⟩⟩; refine ⟨_, rfl, ?_⟩))
   go_ret
   exact ⟨ze, zb HB⟩
  ·rw [if_neg c8] at H
   have c8b0 : decide (ah < 0) = false := decide_eq_false c8
   clear c8; replace H := Option.bind_eq_some_iff.mp H
   obtain ⟨ai, aG, H⟩ := H
   replace H : (if ai < 0 then (some (-1)) else (some ai)) = some r := H
   have A11 := zK aG; clear aG
   by_cases aF : ai < 0
   ·rw [if_pos aF] at H
    have aH : decide (ai < 0) = true := decide_eq_true aF
    clear aF; obtain rfl := Option.some.inj H
    go_enter Try.func44, Try.ntmps44
    go_wp2_with (first | ((with_reducible refine gate_dst (N := 2) rfl ?_); refine zX 2 #[.slice aj ac.length ak, .int .i64 a0_1, .slice al ad.length am, .slice an ae.length ao] 28 ?_; intro ab hg w13 hbox hb; have av := zK (below_step (zb HB) hb); have aw := zK (hbox); have ax := zK ((by rw [hg]; exact (below_size (zb HB)) : w.heap.size ≤ ab)); have ay := zK ((by rw [hg]; exact (below_size (zb HB)) : w.heap.size ≤ ab)); clear HB; have HB := av; have aa := aw; have az := ax; have af := ay; clear av aw ax ay; clear hb hbox hg; have hcz14_0 : w13.cell? ⟨ab, 0, none⟩ = some (.slice aj ac.length ak) := (blk_cell aa.out 0).trans rfl; have hcz14_1 : w13.cell? ⟨ab, 1, none⟩ = some (.int .i64 a0_1) := (blk_cell aa.out 1).trans rfl; have hcz14_2 : w13.cell? ⟨ab, 2, none⟩ = some (.slice al ad.length am) := (blk_cell aa.out 2).trans rfl; have hcz14_3 : w13.cell? ⟨ab, 3, none⟩ = some (.slice an ae.length ao) := (blk_cell aa.out 3).trans rfl; have hfz14_0 := blk_frozen aa.out 0; have hfz14_1 := blk_frozen aa.out 1; have hfz14_2 := blk_frozen aa.out 2; have hfz14_3 := blk_frozen aa.out 3) | ((with_reducible refine gate_callee (f := 45) rfl ?_); refine goesL_ (some 8) rfl rfl Try.func45 (by kernel_rfl) rfl #[.slice aj ac.length ak, .int .i64 a1] rfl zg ?_; (with_reducible refine (laws_heldIntS.calls k _ _ ac a1 ag _ ?side1 ?side2 A3.out).mono ?_); (case side1 => exact zs (Kd.C_below ap.out HB.out)); (case side2 => exact aq.out); rintro e w' ⟨rfl, ⟨nd, rfl⟩⟩; refine ⟨_, rfl, ?_⟩) | ((with_reducible refine gate_callee (f := 82) rfl ?_); refine goesL_ (some 14) rfl rfl Try.func82 (by kernel_rfl) rfl #[.slice al ad.length am, .int .i64 ag] rfl zg ?_; (with_reducible refine (laws_heldChuteS.calls k _ _ ad ag ah _ ?side1 ?side2 A7.out).mono ?_); (case side1 => exact zs (Kd.C_below ar.out (zb HB))); (case side2 => exact au.out); rintro e w' ⟨rfl, ⟨nd, rfl⟩⟩; refine ⟨_, rfl, ?_⟩) | ((with_reducible refine gate_callee (f := 83) rfl ?_); refine goesL_ (some 20) rfl rfl Try.func83 (by kernel_rfl) rfl #[.slice an ae.length ao, .int .i64 ah] rfl zg ?_; (with_reducible refine (laws_heldWantS.calls k _ _ ae ah ai _ ?side1 ?side2 A11.out).mono ?_); (case side1 => exact zs (Kd.C_below aD.out (zb HB))); (case side2 => exact aE.out); rintro e w' ⟨rfl, ⟨nd, rfl⟩⟩; refine ⟨_, rfl, ?_⟩))
    go_ret
    exact ⟨ze, zb HB⟩
   ·rw [if_neg aF] at H
    have aH : decide (ai < 0) = false := decide_eq_false aF
    clear aF; obtain rfl := Option.some.inj H
    go_enter Try.func44, Try.ntmps44
    go_wp2_with (first | ((with_reducible refine gate_dst (N := 2) rfl ?_); refine zX 2 #[.slice aj ac.length ak, .int .i64 a0_1, .slice al ad.length am, .slice an ae.length ao] 28 ?_; intro ab hg w15 hbox hb; have av := zK (below_step (zb HB) hb); have aw := zK (hbox); have ax := zK ((by rw [hg]; exact (below_size (zb HB)) : w.heap.size ≤ ab)); have ay := zK ((by rw [hg]; exact (below_size (zb HB)) : w.heap.size ≤ ab)); clear HB; have HB := av; have aa := aw; have az := ax; have af := ay; clear av aw ax ay; clear hb hbox hg; have hcz16_0 : w15.cell? ⟨ab, 0, none⟩ = some (.slice aj ac.length ak) := (blk_cell aa.out 0).trans rfl; have hcz16_1 : w15.cell? ⟨ab, 1, none⟩ = some (.int .i64 a0_1) := (blk_cell aa.out 1).trans rfl; have hcz16_2 : w15.cell? ⟨ab, 2, none⟩ = some (.slice al ad.length am) := (blk_cell aa.out 2).trans rfl; have hcz16_3 : w15.cell? ⟨ab, 3, none⟩ = some (.slice an ae.length ao) := (blk_cell aa.out 3).trans rfl; have hfz16_0 := blk_frozen aa.out 0; have hfz16_1 := blk_frozen aa.out 1; have hfz16_2 := blk_frozen aa.out 2; have hfz16_3 := blk_frozen aa.out 3) | ((with_reducible refine gate_callee (f := 45) rfl ?_); refine goesL_ (some 8) rfl rfl Try.func45 (by kernel_rfl) rfl #[.slice aj ac.length ak, .int .i64 a1] rfl zg ?_; (with_reducible refine (laws_heldIntS.calls k _ _ ac a1 ag _ ?side1 ?side2 A3.out).mono ?_); (case side1 => exact zs (Kd.C_below ap.out HB.out)); (case side2 => exact aq.out); rintro e w' ⟨rfl, ⟨nd, rfl⟩⟩; refine ⟨_, rfl, ?_⟩) | ((with_reducible refine gate_callee (f := 82) rfl ?_); refine goesL_ (some 14) rfl rfl Try.func82 (by kernel_rfl) rfl #[.slice al ad.length am, .int .i64 ag] rfl zg ?_; (with_reducible refine (laws_heldChuteS.calls k _ _ ad ag ah _ ?side1 ?side2 A7.out).mono ?_); (case side1 => exact zs (Kd.C_below ar.out (zb HB))); (case side2 => exact au.out); rintro e w' ⟨rfl, ⟨nd, rfl⟩⟩; refine ⟨_, rfl, ?_⟩) | ((with_reducible refine gate_callee (f := 83) rfl ?_); refine goesL_ (some 20) rfl rfl Try.func83 (by kernel_rfl) rfl #[.slice an ae.length ao, .int .i64 ah] rfl zg ?_; (with_reducible refine (laws_heldWantS.calls k _ _ ae ah ai _ ?side1 ?side2 A11.out).mono ?_); (case side1 => exact zs (Kd.C_below aD.out (zb HB))); (case side2 => exact aE.out); rintro e w' ⟨rfl, ⟨nd, rfl⟩⟩; refine ⟨_, rfl, ?_⟩))
    go_ret
    exact ⟨ze, zb HB⟩
end Go.Proofs.Ytmjhbdmicejppaa.Px
