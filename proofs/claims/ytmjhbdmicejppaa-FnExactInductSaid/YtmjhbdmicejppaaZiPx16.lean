import Derived.Test.YtmjhbdmicejppaaZiPx0
import Derived.Test.YtmjhbdmicejppaaZiPx11
namespace Go.Proofs.Ytmjhbdmicejppaa.Px
open Go.RowKit Go.Proofs.YtmjhbdmicejppaaW.PrintWords Go.Proofs.YtmjhbdmicejppaaW.PrintLast Go.Proofs.YtmjhbdmicejppaaW.PrintMore
attribute [local go_sem] max2_int min2_int max_two min_two max_three min_three max_four min_four   
set_option linter.unusedVariables false
set_option linter.unusedSimpArgs false
def laws_heldChuteS.l0 : Nat → List (S69) → Int → Int → Option (Int)
 | 0, _, _, _ => none
 | k + 1, x0, x1, x5 => if x5 < (x0.length : Int) then (if 0 ≤ x5 then (if ((rd_T69 x0 x5).f0) = x1 then (if ((rd_T69 x0 x5).f1) = (wrap64 (x1 + 1)) then ((laws_heldIntS.f k ((rd_T69 x0 x5).f2) (wrap64 ((wrap64 (x1 + 1)) + 1))).bind fun t1221 => (if t1221 < 0 then (some (-1)) else (laws_heldChuteS.l0 k x0 t1221 (wrap64 (x5 + 1))))) else (some (-1))) else (some (-1))) else (none)) else (some x1)
def laws_heldChuteS.f (k : Nat) (l0 : List (S69)) (a1 : Int) : Option (Int) := laws_heldChuteS.l0 k l0 a1 0
set_option maxHeartbeats 8000000 in
set_option maxRecDepth 100000 in
theorem laws_heldChuteS.calls (k : Nat) (A0 : Option Addr) (c0 : Nat) (l0 : List (S69)) (a1 : Int) (r : Int) (w : World) (hr0 : Kd.C k69 w A0 l0.length l0) (hc0 : l0.length ≤ c0) (h : laws_heldChuteS.f k l0 a1 = some r) :
  Calls Try.prog 82 #[.slice A0 l0.length c0, .int .i64 a1] w fun e w' => e = .returned (.int .i64 r) ∧ Drawn0 w w' := by
 have aQ := zK hr0; have HC0 := zK hc0; clear hr0 hc0
 have H : (laws_heldChuteS.l0 k l0 a1 0) = some r := h
 clear h; have H' := zK H; clear H
 go_enter Try.func82, Try.ntmps82
 go_wp2
 go_loopg [1, 5] k (fun kq v1 v5 w' => ∃ (ai : Int) (aa : Int), v1 = .int .i64 ai ∧ v5 = .int .i64 aa ∧ Aside0 (laws_heldChuteS.l0 kq l0 ai aa = some r) ∧ Aside0 (kq ≤ k) ∧ Drawn0 w w')
 case atStart => exact ⟨(a1), (0), (by first | rfl | (simp; done) | (simp [*]; done)), (by first | rfl | (simp; done) | (simp [*]; done)), H', ⟨Nat.le_refl _⟩, by repeat (first | exact Drawn0.refl _ | apply Drawn0.step)⟩
 case round =>
  clear H'
  try clear p2
  obtain ⟨ai, aa, rfl, rfl, HA, HK1, ⟨m1, rfl⟩⟩ := hrel
  cases gk with
  | zero => exact absurd HA.out (by simp [laws_heldChuteS.l0])
  | succ k1 =>
   have H := HA.out; clear HA
   simp only [laws_heldChuteS.l0] at H
   by_cases c3 : aa < (l0.length : Int)
   ·rw [if_pos c3] at H
    have c3b0 : decide (aa < (l0.length : Int)) = true := decide_eq_true c3
    clear c3
    by_cases c4 : 0 ≤ aa
    ·rw [if_pos c4] at H
     have c4b0 : decide (0 ≤ aa) = true := decide_eq_true c4
     clear c4
     by_cases c5 : ((rd_T69 l0 aa).f0) = ai
     ·rw [if_pos c5] at H
      have c5b0 : (((rd_T69 l0 aa).f0) == ai) = true := beq_iff_eq.mpr c5
      have c5b1 : (((rd_T69 l0 aa).f0) != ai) = false := bne_eq_false_iff_eq.mpr c5
      clear c5
      by_cases c6 : ((rd_T69 l0 aa).f1) = (wrap64 (ai + 1))
      ·rw [if_pos c6] at H
       have c6b0 : (((rd_T69 l0 aa).f1) == (wrap64 (ai + 1))) = true := beq_iff_eq.mpr c6
       have c6b1 : (((rd_T69 l0 aa).f1) != (wrap64 (ai + 1))) = false := bne_eq_false_iff_eq.mpr c6
       clear c6; replace H := Option.bind_eq_some_iff.mp H
       obtain ⟨ar, A70, H⟩ := H
       replace H : (if ar < 0 then (some (-1)) else (laws_heldChuteS.l0 k1 l0 ar (wrap64 (aa + 1)))) = some r := H
       have A7 := zK A70; clear A70
       by_cases c8 : ar < 0
       ·rw [if_pos c8] at H
        have c8b0 : decide (ar < 0) = true := decide_eq_true c8
        clear c8; obtain rfl := Option.some.inj H
        have ag : 0 ≤ (aa : Int) := zd
        have ah : aa < (l0.length : Int) := zd
        obtain ⟨aj, ap, aq, au, av, aw, ad, ab, ac⟩ := at_T69 aQ.out aa ag ah
        cases au
        have ax := zK ac; have ay := zK ab; clear ac ab; replace ag := eq_true ag; replace ah := eq_true ah
        have ak : 0 ≤ (aa : Int) := zd
        have al : aa < (l0.length : Int) := zd
        obtain ⟨az, aL, aM, aF, aG, aH, am, ae, af⟩ := at_T69 aQ.out aa ak al
        obtain rfl : aj = az := (by injection aF)
        have aI := zK af; have aJ := zK ae; clear af ae; replace ak := eq_true ak; replace al := eq_true al
        have ea_ := Option.some.inj (ad.symm.trans am)
        injection ea_ with ea_ en_ ec_
        subst ea_; subst ec_; clear en_
        have aA : 0 ≤ (aa : Int) := zd
        have aB : aa < (l0.length : Int) := zd
        obtain ⟨aK, aR, aS, aN, aO, aP, aC, an, ao⟩ := at_T69 aQ.out aa aA aB
        obtain rfl : aj = aK := (by injection aN)
        have aD := zK ao; have aE := zK an; clear ao an; replace aA := eq_true aA; replace aB := eq_true aB
        have ea_ := Option.some.inj (ad.symm.trans aC)
        injection ea_ with ea_ en_ ec_
        subst ea_; subst ec_; clear en_
        go_wp2_with (first | ((with_reducible refine gate_callee (f := 45) rfl ?_); refine goesL_ (some 36) rfl rfl Try.func45 (by kernel_rfl) rfl #[.slice ap ((rd_T69 l0 aa).f2).length aq, .int .i64 (wrap64 ((wrap64 (ai + 1)) + 1))] rfl (by (try simp only [List.map_toArray, List.map_cons, List.map_nil]); first | done | rfl | (simp only [List.length_drop, List.length_take]; rfl)) ?_; (with_reducible refine (laws_heldIntS.calls k1 _ _ ((rd_T69 l0 aa).f2) (wrap64 ((wrap64 (ai + 1)) + 1)) ar _ ?side1 ?side2 A7.out).mono ?_); (case side1 => repeat (first | exact aD.out | (with_reducible refine Kd.C_alloc ?_ _) | (with_reducible refine Kd.C_drewN ?_ _) | (with_reducible refine Kd.C_drew ?_))); (case side2 => exact aE.out); rintro e w' ⟨rfl, ⟨nd, rfl⟩⟩; refine ⟨_, rfl, ?_⟩))
        go_ret
        exact ⟨by first | rfl | (simp; done) | (simp [*]; done), by repeat (first | exact Drawn0.refl _ | apply Drawn0.step)⟩
       ·rw [if_neg c8] at H
        have c8b0 : decide (ar < 0) = false := decide_eq_false c8
        clear c8; have H' := zK H; clear H
        have ag : 0 ≤ (aa : Int) := zd
        have ah : aa < (l0.length : Int) := zd
        obtain ⟨aj, ap, aq, au, av, aw, ad, ab, ac⟩ := at_T69 aQ.out aa ag ah
        cases au
        have ax := zK ac; have ay := zK ab; clear ac ab; replace ag := eq_true ag; replace ah := eq_true ah
        have ak : 0 ≤ (aa : Int) := zd
        have al : aa < (l0.length : Int) := zd
        obtain ⟨az, aL, aM, aF, aG, aH, am, ae, af⟩ := at_T69 aQ.out aa ak al
        obtain rfl : aj = az := (by injection aF)
        have aI := zK af; have aJ := zK ae; clear af ae; replace ak := eq_true ak; replace al := eq_true al
        have ea_ := Option.some.inj (ad.symm.trans am)
        injection ea_ with ea_ en_ ec_
        subst ea_; subst ec_; clear en_
        have aA : 0 ≤ (aa : Int) := zd
        have aB : aa < (l0.length : Int) := zd
        obtain ⟨aK, aR, aS, aN, aO, aP, aC, an, ao⟩ := at_T69 aQ.out aa aA aB
        obtain rfl : aj = aK := (by injection aN)
        have aD := zK ao; have aE := zK an; clear ao an; replace aA := eq_true aA; replace aB := eq_true aB
        have ea_ := Option.some.inj (ad.symm.trans aC)
        injection ea_ with ea_ en_ ec_
        subst ea_; subst ec_; clear en_
        go_wp2_with (first | ((with_reducible refine gate_callee (f := 45) rfl ?_); refine goesL_ (some 36) rfl rfl Try.func45 (by kernel_rfl) rfl #[.slice ap ((rd_T69 l0 aa).f2).length aq, .int .i64 (wrap64 ((wrap64 (ai + 1)) + 1))] rfl (by (try simp only [List.map_toArray, List.map_cons, List.map_nil]); first | done | rfl | (simp only [List.length_drop, List.length_take]; rfl)) ?_; (with_reducible refine (laws_heldIntS.calls k1 _ _ ((rd_T69 l0 aa).f2) (wrap64 ((wrap64 (ai + 1)) + 1)) ar _ ?side1 ?side2 A7.out).mono ?_); (case side1 => repeat (first | exact aD.out | (with_reducible refine Kd.C_alloc ?_ _) | (with_reducible refine Kd.C_drewN ?_ _) | (with_reducible refine Kd.C_drew ?_))); (case side2 => exact aE.out); rintro e w' ⟨rfl, ⟨nd, rfl⟩⟩; refine ⟨_, rfl, ?_⟩))
        go_roundg k1
        case measure => have := HK1.out; omega
        case rel => exact ⟨(ar), (wrap64 (aa + 1)), (by first | rfl | (simp; done) | (simp [*]; done)), (by first | rfl | (simp; done) | (simp [*]; done)), H', ⟨by have := HK1.out; omega⟩, by repeat (first | exact Drawn0.refl _ | apply Drawn0.step)⟩
      ·rw [if_neg c6] at H
       have c6b0 : (((rd_T69 l0 aa).f1) == (wrap64 (ai + 1))) = false := beq_eq_false_iff_ne.mpr c6
       have c6b1 : (((rd_T69 l0 aa).f1) != (wrap64 (ai + 1))) = true := bne_iff_ne.mpr c6
       obtain rfl := Option.some.inj H
       have ag : 0 ≤ (aa : Int) := zd
       have ah : aa < (l0.length : Int) := zd
       obtain ⟨aj, ap, aq, au, av, aw, ad, ab, ac⟩ := at_T69 aQ.out aa ag ah
       cases au
       have ax := zK ac; have ay := zK ab; clear ac ab; replace ag := eq_true ag; replace ah := eq_true ah
       have ak : 0 ≤ (aa : Int) := zd
       have al : aa < (l0.length : Int) := zd
       obtain ⟨az, aL, aM, aF, aG, aH, am, ae, af⟩ := at_T69 aQ.out aa ak al
       obtain rfl : aj = az := (by injection aF)
       have aI := zK af; have aJ := zK ae; clear af ae; replace ak := eq_true ak; replace al := eq_true al
       have ea_ := Option.some.inj (ad.symm.trans am)
       injection ea_ with ea_ en_ ec_
       subst ea_; subst ec_; clear en_
       go_wp2
       go_ret
       exact ⟨by first | rfl | (simp; done) | (simp [*]; done), by repeat (first | exact Drawn0.refl _ | apply Drawn0.step)⟩
     ·rw [if_neg c5] at H
      have c5b0 : (((rd_T69 l0 aa).f0) == ai) = false := beq_eq_false_iff_ne.mpr c5
      have c5b1 : (((rd_T69 l0 aa).f0) != ai) = true := bne_iff_ne.mpr c5
      obtain rfl := Option.some.inj H
      have ag : 0 ≤ (aa : Int) := zd
      have ah : aa < (l0.length : Int) := zd
      obtain ⟨aj, ap, aq, au, av, aw, ad, ab, ac⟩ := at_T69 aQ.out aa ag ah
      cases au
      have ax := zK ac; have ay := zK ab; clear ac ab; replace ag := eq_true ag; replace ah := eq_true ah
      go_wp2
      go_ret
      exact ⟨by first | rfl | (simp; done) | (simp [*]; done), by repeat (first | exact Drawn0.refl _ | apply Drawn0.step)⟩
    ·rw [if_neg c4] at H
     exact absurd H (by simp)
   ·rw [if_neg c3] at H
    have c3b0 : decide (aa < (l0.length : Int)) = false := decide_eq_false c3
    clear c3; obtain rfl := Option.some.inj H
    go_wp2
    go_ret
    exact ⟨by first | rfl | (simp; done) | (simp [*]; done), by repeat (first | exact Drawn0.refl _ | apply Drawn0.step)⟩
def laws_heldWantS.l0 : Nat → List (S74) → Int → Int → Option (Int)
 | 0, _, _, _ => none
 | k + 1, x0, x1, x5 => if x5 < (x0.length : Int) then (if 0 ≤ x5 then (if ((rd_T74 x0 x5).f0) = x1 then ((laws_heldIntS.f k ((rd_T74 x0 x5).f1) (wrap64 (x1 + 1))).bind fun t1224 => (if t1224 < 0 then (some (-1)) else (laws_heldWantS.l0 k x0 t1224 (wrap64 (x5 + 1))))) else (some (-1))) else (none)) else (some x1)
def laws_heldWantS.f (k : Nat) (l0 : List (S74)) (a1 : Int) : Option (Int) := laws_heldWantS.l0 k l0 a1 0
set_option maxHeartbeats 8000000 in
set_option maxRecDepth 100000 in
theorem laws_heldWantS.calls (k : Nat) (A0 : Option Addr) (c0 : Nat) (l0 : List (S74)) (a1 : Int) (r : Int) (w : World) (hr0 : Kd.C k74 w A0 l0.length l0) (hc0 : l0.length ≤ c0) (h : laws_heldWantS.f k l0 a1 = some r) :
  Calls Try.prog 83 #[.slice A0 l0.length c0, .int .i64 a1] w fun e w' => e = .returned (.int .i64 r) ∧ Drawn0 w w' := by
 have aD := zK hr0; have HC0 := zK hc0; clear hr0 hc0
 have H : (laws_heldWantS.l0 k l0 a1 0) = some r := h
 clear h; have H' := zK H; clear H
 go_enter Try.func83, Try.ntmps83
 go_wp2
 go_loopg [1, 5] k (fun kq v1 v5 w' => ∃ (aj : Int) (aa : Int), v1 = .int .i64 aj ∧ v5 = .int .i64 aa ∧ Aside0 (laws_heldWantS.l0 kq l0 aj aa = some r) ∧ Aside0 (kq ≤ k) ∧ Drawn0 w w')
 case atStart => exact ⟨(a1), (0), (by first | rfl | (simp; done) | (simp [*]; done)), (by first | rfl | (simp; done) | (simp [*]; done)), H', ⟨Nat.le_refl _⟩, by repeat (first | exact Drawn0.refl _ | apply Drawn0.step)⟩
 case round =>
  clear H'
  try clear p2
  obtain ⟨aj, aa, rfl, rfl, HA, HK1, ⟨m1, rfl⟩⟩ := hrel
  cases gk with
  | zero => exact absurd HA.out (by simp [laws_heldWantS.l0])
  | succ k1 =>
   have H := HA.out; clear HA
   simp only [laws_heldWantS.l0] at H
   by_cases c3 : aa < (l0.length : Int)
   ·rw [if_pos c3] at H
    have c3b0 : decide (aa < (l0.length : Int)) = true := decide_eq_true c3
    clear c3
    by_cases c4 : 0 ≤ aa
    ·rw [if_pos c4] at H
     have c4b0 : decide (0 ≤ aa) = true := decide_eq_true c4
     clear c4
     by_cases c5 : ((rd_T74 l0 aa).f0) = aj
     ·rw [if_pos c5] at H
      have c5b0 : (((rd_T74 l0 aa).f0) == aj) = true := beq_iff_eq.mpr c5
      have c5b1 : (((rd_T74 l0 aa).f0) != aj) = false := bne_eq_false_iff_eq.mpr c5
      clear c5; replace H := Option.bind_eq_some_iff.mp H
      obtain ⟨ai, A60, H⟩ := H
      replace H : (if ai < 0 then (some (-1)) else (laws_heldWantS.l0 k1 l0 ai (wrap64 (aa + 1)))) = some r := H
      have A6 := zK A60; clear A60
      by_cases c7 : ai < 0
      ·rw [if_pos c7] at H
       have c7b0 : decide (ai < 0) = true := decide_eq_true c7
       clear c7; obtain rfl := Option.some.inj H
       have ad : 0 ≤ (aa : Int) := zd
       have ae : aa < (l0.length : Int) := zd
       obtain ⟨ar, ak, al, au, av, ah, ab, ac⟩ := at_T74 aD.out aa ad ae
       cases au
       have aw := zK ac; have ax := zK ab; clear ac ab; replace ad := eq_true ad; replace ae := eq_true ae
       have am : 0 ≤ (aa : Int) := zd
       have an : aa < (l0.length : Int) := zd
       obtain ⟨ay, aB, aC, az, aA, ao, af, ag⟩ := at_T74 aD.out aa am an
       obtain rfl : ar = ay := (by injection az)
       have ap := zK ag; have aq := zK af; clear ag af; replace am := eq_true am; replace an := eq_true an
       have ea_ := Option.some.inj (ah.symm.trans ao)
       injection ea_ with ea_ en_ ec_
       subst ea_; subst ec_; clear en_
       go_wp2_with (first | ((with_reducible refine gate_callee (f := 45) rfl ?_); refine goesL_ (some 27) rfl rfl Try.func45 (by kernel_rfl) rfl #[.slice ak ((rd_T74 l0 aa).f1).length al, .int .i64 (wrap64 (aj + 1))] rfl (by (try simp only [List.map_toArray, List.map_cons, List.map_nil]); first | done | rfl | (simp only [List.length_drop, List.length_take]; rfl)) ?_; (with_reducible refine (laws_heldIntS.calls k1 _ _ ((rd_T74 l0 aa).f1) (wrap64 (aj + 1)) ai _ ?side1 ?side2 A6.out).mono ?_); (case side1 => repeat (first | exact ap.out | (with_reducible refine Kd.C_alloc ?_ _) | (with_reducible refine Kd.C_drewN ?_ _) | (with_reducible refine Kd.C_drew ?_))); (case side2 => exact aq.out); rintro e w' ⟨rfl, ⟨nd, rfl⟩⟩; refine ⟨_, rfl, ?_⟩))
       go_ret
       exact ⟨by first | rfl | (simp; done) | (simp [*]; done), by repeat (first | exact Drawn0.refl _ | apply Drawn0.step)⟩
      ·rw [if_neg c7] at H
       have c7b0 : decide (ai < 0) = false := decide_eq_false c7
       clear c7; have H' := zK H; clear H
       have ad : 0 ≤ (aa : Int) := zd
       have ae : aa < (l0.length : Int) := zd
       obtain ⟨ar, ak, al, au, av, ah, ab, ac⟩ := at_T74 aD.out aa ad ae
       cases au
       have aw := zK ac; have ax := zK ab; clear ac ab; replace ad := eq_true ad; replace ae := eq_true ae
       have am : 0 ≤ (aa : Int) := zd
       have an : aa < (l0.length : Int) := zd
       obtain ⟨ay, aB, aC, az, aA, ao, af, ag⟩ := at_T74 aD.out aa am an
       obtain rfl : ar = ay := (by injection az)
       have ap := zK ag; have aq := zK af; clear ag af; replace am := eq_true am; replace an := eq_true an
       have ea_ := Option.some.inj (ah.symm.trans ao)
       injection ea_ with ea_ en_ ec_
       subst ea_; subst ec_; clear en_
       go_wp2_with (first | ((with_reducible refine gate_callee (f := 45) rfl ?_); refine goesL_ (some 27) rfl rfl Try.func45 (by kernel_rfl) rfl #[.slice ak ((rd_T74 l0 aa).f1).length al, .int .i64 (wrap64 (aj + 1))] rfl (by (try simp only [List.map_toArray, List.map_cons, List.map_nil]); first | done | rfl | (simp only [List.length_drop, List.length_take]; rfl)) ?_; (with_reducible refine (laws_heldIntS.calls k1 _ _ ((rd_T74 l0 aa).f1) (wrap64 (aj + 1)) ai _ ?side1 ?side2 A6.out).mono ?_); (case side1 => repeat (first | exact ap.out | (with_reducible refine Kd.C_alloc ?_ _) | (with_reducible refine Kd.C_drewN ?_ _) | (with_reducible refine Kd.C_drew ?_))); (case side2 => exact aq.out); rintro e w' ⟨rfl, ⟨nd, rfl⟩⟩; refine ⟨_, rfl, ?_⟩))
       go_roundg k1
       case measure => have := HK1.out; omega
       case rel => exact ⟨(ai), (wrap64 (aa + 1)), (by first | rfl | (simp; done) | (simp [*]; done)), (by first | rfl | (simp; done) | (simp [*]; done)), H', ⟨by have := HK1.out; omega⟩, by repeat (first | exact Drawn0.refl _ | apply Drawn0.step)⟩
     ·rw [if_neg c5] at H
      have c5b0 : (((rd_T74 l0 aa).f0) == aj) = false := beq_eq_false_iff_ne.mpr c5
      have c5b1 : (((rd_T74 l0 aa).f0) != aj) = true := bne_iff_ne.mpr c5
      obtain rfl := Option.some.inj H
      have ad : 0 ≤ (aa : Int) := zd
      have ae : aa < (l0.length : Int) := zd
      obtain ⟨ar, ak, al, au, av, ah, ab, ac⟩ := at_T74 aD.out aa ad ae
      cases au
      have aw := zK ac; have ax := zK ab; clear ac ab; replace ad := eq_true ad; replace ae := eq_true ae
      go_wp2
      go_ret
      exact ⟨by first | rfl | (simp; done) | (simp [*]; done), by repeat (first | exact Drawn0.refl _ | apply Drawn0.step)⟩
    ·rw [if_neg c4] at H
     exact absurd H (by simp)
   ·rw [if_neg c3] at H
    have c3b0 : decide (aa < (l0.length : Int)) = false := decide_eq_false c3
    clear c3; obtain rfl := Option.some.inj H
    go_wp2
    go_ret
    exact ⟨by first | rfl | (simp; done) | (simp [*]; done), by repeat (first | exact Drawn0.refl _ | apply Drawn0.step)⟩
def laws_heldLoop.f (k : Nat) (l0_0 : List Int) (a0_1 : Int) (l0_2 : List (S69)) (l0_3 : List (S74)) (a1 : Int) : Option (Int) := (laws_heldIntS.f k l0_0 a1).bind fun t1226 => (if t1226 < 0 then (some (-1)) else ((laws_heldChuteS.f k l0_2 t1226).bind fun t1227 => (if t1227 < 0 then (some (-1)) else ((laws_heldWantS.f k l0_3 t1227).bind fun t1228 => (if t1228 < 0 then (some (-1)) else (some t1228))))))
set_option maxHeartbeats 8000000 in
set_option maxRecDepth 100000 in
theorem laws_heldLoop.calls (k : Nat) (aj : Option Addr) (ak : Nat) (ag : List Int) (a0_1 : Int) (al : Option Addr) (am : Nat) (ah : List (S69)) (an : Option Addr) (ao : Nat) (ai : List (S74)) (a1 : Int) (r : Int) (w : World) (aA : Kd.C (Kd.int .i64) w aj ag.length ag) (hc0_0 : ag.length ≤ ak) (aB : Kd.C k69 w al ah.length ah) (hc0_2 : ah.length ≤ am) (aC : Kd.C k74 w an ai.length ai) (hc0_3 : ai.length ≤ ao) (h : laws_heldLoop.f k ag a0_1 ah ai a1 = some r) :
  Calls Try.prog 44 #[.agg #[.slice aj ag.length ak, .int .i64 a0_1, .slice al ah.length am, .slice an ai.length ao], .int .i64 a1] w fun e w' => e = .returned (.int .i64 r) ∧ Below w.heap.size w w' := by
 have hu28 := Try.underlying28; have aq := zK aA; have ar := zK hc0_0; clear aA hc0_0; have au := zK aB; have av := zK hc0_2; clear aB hc0_2; have aD := zK aC; have aE := zK hc0_3; clear aC hc0_3
 have HB := zK (Below.refl w.heap.size w)
 have H : ((laws_heldIntS.f k ag a1).bind fun ac => (if ac < 0 then (some (-1)) else ((laws_heldChuteS.f k ah ac).bind fun ad => (if ad < 0 then (some (-1)) else ((laws_heldWantS.f k ai ad).bind fun af => (if af < 0 then (some (-1)) else (some af))))))) = some r := h
 clear h; replace H := Option.bind_eq_some_iff.mp H
 obtain ⟨ac, A30, H⟩ := H
 replace H : (if ac < 0 then (some (-1)) else ((laws_heldChuteS.f k ah ac).bind fun ad => (if ad < 0 then (some (-1)) else ((laws_heldWantS.f k ai ad).bind fun af => (if af < 0 then (some (-1)) else (some af)))))) = some r := H
 have A3 := zK A30; clear A30
 by_cases c4 : ac < 0
 ·rw [if_pos c4] at H
  have c4b0 : decide (ac < 0) = true := decide_eq_true c4
  clear c4; obtain rfl := Option.some.inj H
  go_enter Try.func44, Try.ntmps44
  go_wp2_with (first | ((with_reducible refine gate_dst (N := 2) rfl ?_); refine box_event ?hg (N := 2) ?hd (cs := #[.slice aj ag.length ak, .int .i64 a0_1, .slice al ah.length am, .slice an ai.length ao]) (t := 28) ?hr ?_; (case hd => rfl); (case hg => rfl); (case hr => first | (go_simp; done) | (go_simp; rfl)); intro ab hg w5 hbox hb; have aw := zK (below_step (zb HB) hb); have ax := zK (hbox); have ay := zK ((by rw [hg]; exact (below_size (zb HB)) : w.heap.size ≤ ab)); have az := zK ((by rw [hg]; exact (below_size (zb HB)) : w.heap.size ≤ ab)); clear HB; have HB := aw; have aa := ax; have ap := ay; have ae := az; clear aw ax ay az; clear hb hbox hg; have hcz6_0 : w5.cell? ⟨ab, 0, none⟩ = some (.slice aj ag.length ak) := (blk_cell aa.out 0).trans rfl; have hcz6_1 : w5.cell? ⟨ab, 1, none⟩ = some (.int .i64 a0_1) := (blk_cell aa.out 1).trans rfl; have hcz6_2 : w5.cell? ⟨ab, 2, none⟩ = some (.slice al ah.length am) := (blk_cell aa.out 2).trans rfl; have hcz6_3 : w5.cell? ⟨ab, 3, none⟩ = some (.slice an ai.length ao) := (blk_cell aa.out 3).trans rfl; have hfz6_0 := blk_frozen aa.out 0; have hfz6_1 := blk_frozen aa.out 1; have hfz6_2 := blk_frozen aa.out 2; have hfz6_3 := blk_frozen aa.out 3) | ((with_reducible refine gate_callee (f := 45) rfl ?_); refine goesL_ (some 8) rfl rfl Try.func45 (by kernel_rfl) rfl #[.slice aj ag.length ak, .int .i64 a1] rfl (by (try simp only [List.map_toArray, List.map_cons, List.map_nil]); first | done | rfl | (simp only [List.length_drop, List.length_take]; rfl)) ?_; (with_reducible refine (laws_heldIntS.calls k _ _ ag a1 ac _ ?side1 ?side2 A3.out).mono ?_); (case side1 => repeat (first | exact (Kd.C_below aq.out HB.out) | (with_reducible refine Kd.C_alloc ?_ _) | (with_reducible refine Kd.C_drewN ?_ _) | (with_reducible refine Kd.C_drew ?_))); (case side2 => exact ar.out); rintro e w' ⟨rfl, ⟨nd, rfl⟩⟩; refine ⟨_, rfl, ?_⟩))
  go_ret
  exact ⟨by first | rfl | (simp [errW_none, errW_some] <;> rfl) | (simp [*, errW_none, errW_some] <;> rfl), by repeat (first | (with_reducible first | exact HB.out | apply zB | apply zC | apply zE | refine zS ?_ ae.out) | exact HB.out)⟩
 ·rw [if_neg c4] at H
  have c4b0 : decide (ac < 0) = false := decide_eq_false c4
  clear c4; replace H := Option.bind_eq_some_iff.mp H
  obtain ⟨ad, A70, H⟩ := H
  replace H : (if ad < 0 then (some (-1)) else ((laws_heldWantS.f k ai ad).bind fun af => (if af < 0 then (some (-1)) else (some af)))) = some r := H
  have A7 := zK A70; clear A70
  by_cases c8 : ad < 0
  ·rw [if_pos c8] at H
   have c8b0 : decide (ad < 0) = true := decide_eq_true c8
   clear c8; obtain rfl := Option.some.inj H
   go_enter Try.func44, Try.ntmps44
   go_wp2_with (first | ((with_reducible refine gate_dst (N := 2) rfl ?_); refine box_event ?hg (N := 2) ?hd (cs := #[.slice aj ag.length ak, .int .i64 a0_1, .slice al ah.length am, .slice an ai.length ao]) (t := 28) ?hr ?_; (case hd => rfl); (case hg => rfl); (case hr => first | (go_simp; done) | (go_simp; rfl)); intro ab hg w9 hbox hb; have aw := zK (below_step (zb HB) hb); have ax := zK (hbox); have ay := zK ((by rw [hg]; exact (below_size (zb HB)) : w.heap.size ≤ ab)); have az := zK ((by rw [hg]; exact (below_size (zb HB)) : w.heap.size ≤ ab)); clear HB; have HB := aw; have aa := ax; have ap := ay; have ae := az; clear aw ax ay az; clear hb hbox hg; have hcz10_0 : w9.cell? ⟨ab, 0, none⟩ = some (.slice aj ag.length ak) := (blk_cell aa.out 0).trans rfl; have hcz10_1 : w9.cell? ⟨ab, 1, none⟩ = some (.int .i64 a0_1) := (blk_cell aa.out 1).trans rfl; have hcz10_2 : w9.cell? ⟨ab, 2, none⟩ = some (.slice al ah.length am) := (blk_cell aa.out 2).trans rfl; have hcz10_3 : w9.cell? ⟨ab, 3, none⟩ = some (.slice an ai.length ao) := (blk_cell aa.out 3).trans rfl; have hfz10_0 := blk_frozen aa.out 0; have hfz10_1 := blk_frozen aa.out 1; have hfz10_2 := blk_frozen aa.out 2; have hfz10_3 := blk_frozen aa.out 3) | ((with_reducible refine gate_callee (f := 45) rfl ?_); refine goesL_ (some 8) rfl rfl Try.func45 (by kernel_rfl) rfl #[.slice aj ag.length ak, .int .i64 a1] rfl (by (try simp only [List.map_toArray, List.map_cons, List.map_nil]); first | done | rfl | (simp only [List.length_drop, List.length_take]; rfl)) ?_; (with_reducible refine (laws_heldIntS.calls k _ _ ag a1 ac _ ?side1 ?side2 A3.out).mono ?_); (case side1 => repeat (first | exact (Kd.C_below aq.out HB.out) | (with_reducible refine Kd.C_alloc ?_ _) | (with_reducible refine Kd.C_drewN ?_ _) | (with_reducible refine Kd.C_drew ?_))); (case side2 => exact ar.out); rintro e w' ⟨rfl, ⟨nd, rfl⟩⟩; refine ⟨_, rfl, ?_⟩) | ((with_reducible refine gate_callee (f := 82) rfl ?_); refine goesL_ (some 14) rfl rfl Try.func82 (by kernel_rfl) rfl #[.slice al ah.length am, .int .i64 ac] rfl (by (try simp only [List.map_toArray, List.map_cons, List.map_nil]); first | done | rfl | (simp only [List.length_drop, List.length_take]; rfl)) ?_; (with_reducible refine (laws_heldChuteS.calls k _ _ ah ac ad _ ?side1 ?side2 A7.out).mono ?_); (case side1 => repeat (first | exact (Kd.C_below au.out (zb HB)) | (with_reducible refine Kd.C_alloc ?_ _) | (with_reducible refine Kd.C_drewN ?_ _) | (with_reducible refine Kd.C_drew ?_))); (case side2 => exact av.out); rintro e w' ⟨rfl, ⟨nd, rfl⟩⟩; refine ⟨_, rfl, ?_⟩))
   go_ret
   exact ⟨by first | rfl | (simp [errW_none, errW_some] <;> rfl) | (simp [*, errW_none, errW_some] <;> rfl), by repeat (first | (with_reducible first | exact HB.out | apply zB | apply zC | apply zE | refine zS ?_ ae.out) | exact HB.out)⟩
  ·rw [if_neg c8] at H
   have c8b0 : decide (ad < 0) = false := decide_eq_false c8
   clear c8; replace H := Option.bind_eq_some_iff.mp H
   obtain ⟨af, aG, H⟩ := H
   replace H : (if af < 0 then (some (-1)) else (some af)) = some r := H
   have A11 := zK aG; clear aG
   by_cases aF : af < 0
   ·rw [if_pos aF] at H
    have aH : decide (af < 0) = true := decide_eq_true aF
    clear aF; obtain rfl := Option.some.inj H
    go_enter Try.func44, Try.ntmps44
    go_wp2_with (first | ((with_reducible refine gate_dst (N := 2) rfl ?_); refine box_event ?hg (N := 2) ?hd (cs := #[.slice aj ag.length ak, .int .i64 a0_1, .slice al ah.length am, .slice an ai.length ao]) (t := 28) ?hr ?_; (case hd => rfl); (case hg => rfl); (case hr => first | (go_simp; done) | (go_simp; rfl)); intro ab hg w13 hbox hb; have aw := zK (below_step (zb HB) hb); have ax := zK (hbox); have ay := zK ((by rw [hg]; exact (below_size (zb HB)) : w.heap.size ≤ ab)); have az := zK ((by rw [hg]; exact (below_size (zb HB)) : w.heap.size ≤ ab)); clear HB; have HB := aw; have aa := ax; have ap := ay; have ae := az; clear aw ax ay az; clear hb hbox hg; have hcz14_0 : w13.cell? ⟨ab, 0, none⟩ = some (.slice aj ag.length ak) := (blk_cell aa.out 0).trans rfl; have hcz14_1 : w13.cell? ⟨ab, 1, none⟩ = some (.int .i64 a0_1) := (blk_cell aa.out 1).trans rfl; have hcz14_2 : w13.cell? ⟨ab, 2, none⟩ = some (.slice al ah.length am) := (blk_cell aa.out 2).trans rfl; have hcz14_3 : w13.cell? ⟨ab, 3, none⟩ = some (.slice an ai.length ao) := (blk_cell aa.out 3).trans rfl; have hfz14_0 := blk_frozen aa.out 0; have hfz14_1 := blk_frozen aa.out 1; have hfz14_2 := blk_frozen aa.out 2; have hfz14_3 := blk_frozen aa.out 3) | ((with_reducible refine gate_callee (f := 45) rfl ?_); refine goesL_ (some 8) rfl rfl Try.func45 (by kernel_rfl) rfl #[.slice aj ag.length ak, .int .i64 a1] rfl (by (try simp only [List.map_toArray, List.map_cons, List.map_nil]); first | done | rfl | (simp only [List.length_drop, List.length_take]; rfl)) ?_; (with_reducible refine (laws_heldIntS.calls k _ _ ag a1 ac _ ?side1 ?side2 A3.out).mono ?_); (case side1 => repeat (first | exact (Kd.C_below aq.out HB.out) | (with_reducible refine Kd.C_alloc ?_ _) | (with_reducible refine Kd.C_drewN ?_ _) | (with_reducible refine Kd.C_drew ?_))); (case side2 => exact ar.out); rintro e w' ⟨rfl, ⟨nd, rfl⟩⟩; refine ⟨_, rfl, ?_⟩) | ((with_reducible refine gate_callee (f := 82) rfl ?_); refine goesL_ (some 14) rfl rfl Try.func82 (by kernel_rfl) rfl #[.slice al ah.length am, .int .i64 ac] rfl (by (try simp only [List.map_toArray, List.map_cons, List.map_nil]); first | done | rfl | (simp only [List.length_drop, List.length_take]; rfl)) ?_; (with_reducible refine (laws_heldChuteS.calls k _ _ ah ac ad _ ?side1 ?side2 A7.out).mono ?_); (case side1 => repeat (first | exact (Kd.C_below au.out (zb HB)) | (with_reducible refine Kd.C_alloc ?_ _) | (with_reducible refine Kd.C_drewN ?_ _) | (with_reducible refine Kd.C_drew ?_))); (case side2 => exact av.out); rintro e w' ⟨rfl, ⟨nd, rfl⟩⟩; refine ⟨_, rfl, ?_⟩) | ((with_reducible refine gate_callee (f := 83) rfl ?_); refine goesL_ (some 20) rfl rfl Try.func83 (by kernel_rfl) rfl #[.slice an ai.length ao, .int .i64 ad] rfl (by (try simp only [List.map_toArray, List.map_cons, List.map_nil]); first | done | rfl | (simp only [List.length_drop, List.length_take]; rfl)) ?_; (with_reducible refine (laws_heldWantS.calls k _ _ ai ad af _ ?side1 ?side2 A11.out).mono ?_); (case side1 => repeat (first | exact (Kd.C_below aD.out (zb HB)) | (with_reducible refine Kd.C_alloc ?_ _) | (with_reducible refine Kd.C_drewN ?_ _) | (with_reducible refine Kd.C_drew ?_))); (case side2 => exact aE.out); rintro e w' ⟨rfl, ⟨nd, rfl⟩⟩; refine ⟨_, rfl, ?_⟩))
    go_ret
    exact ⟨by first | rfl | (simp [errW_none, errW_some] <;> rfl) | (simp [*, errW_none, errW_some] <;> rfl), by repeat (first | (with_reducible first | exact HB.out | apply zB | apply zC | apply zE | refine zS ?_ ae.out) | exact HB.out)⟩
   ·rw [if_neg aF] at H
    have aH : decide (af < 0) = false := decide_eq_false aF
    clear aF; obtain rfl := Option.some.inj H
    go_enter Try.func44, Try.ntmps44
    go_wp2_with (first | ((with_reducible refine gate_dst (N := 2) rfl ?_); refine box_event ?hg (N := 2) ?hd (cs := #[.slice aj ag.length ak, .int .i64 a0_1, .slice al ah.length am, .slice an ai.length ao]) (t := 28) ?hr ?_; (case hd => rfl); (case hg => rfl); (case hr => first | (go_simp; done) | (go_simp; rfl)); intro ab hg w15 hbox hb; have aw := zK (below_step (zb HB) hb); have ax := zK (hbox); have ay := zK ((by rw [hg]; exact (below_size (zb HB)) : w.heap.size ≤ ab)); have az := zK ((by rw [hg]; exact (below_size (zb HB)) : w.heap.size ≤ ab)); clear HB; have HB := aw; have aa := ax; have ap := ay; have ae := az; clear aw ax ay az; clear hb hbox hg; have hcz16_0 : w15.cell? ⟨ab, 0, none⟩ = some (.slice aj ag.length ak) := (blk_cell aa.out 0).trans rfl; have hcz16_1 : w15.cell? ⟨ab, 1, none⟩ = some (.int .i64 a0_1) := (blk_cell aa.out 1).trans rfl; have hcz16_2 : w15.cell? ⟨ab, 2, none⟩ = some (.slice al ah.length am) := (blk_cell aa.out 2).trans rfl; have hcz16_3 : w15.cell? ⟨ab, 3, none⟩ = some (.slice an ai.length ao) := (blk_cell aa.out 3).trans rfl; have hfz16_0 := blk_frozen aa.out 0; have hfz16_1 := blk_frozen aa.out 1; have hfz16_2 := blk_frozen aa.out 2; have hfz16_3 := blk_frozen aa.out 3) | ((with_reducible refine gate_callee (f := 45) rfl ?_); refine goesL_ (some 8) rfl rfl Try.func45 (by kernel_rfl) rfl #[.slice aj ag.length ak, .int .i64 a1] rfl (by (try simp only [List.map_toArray, List.map_cons, List.map_nil]); first | done | rfl | (simp only [List.length_drop, List.length_take]; rfl)) ?_; (with_reducible refine (laws_heldIntS.calls k _ _ ag a1 ac _ ?side1 ?side2 A3.out).mono ?_); (case side1 => repeat (first | exact (Kd.C_below aq.out HB.out) | (with_reducible refine Kd.C_alloc ?_ _) | (with_reducible refine Kd.C_drewN ?_ _) | (with_reducible refine Kd.C_drew ?_))); (case side2 => exact ar.out); rintro e w' ⟨rfl, ⟨nd, rfl⟩⟩; refine ⟨_, rfl, ?_⟩) | ((with_reducible refine gate_callee (f := 82) rfl ?_); refine goesL_ (some 14) rfl rfl Try.func82 (by kernel_rfl) rfl #[.slice al ah.length am, .int .i64 ac] rfl (by (try simp only [List.map_toArray, List.map_cons, List.map_nil]); first | done | rfl | (simp only [List.length_drop, List.length_take]; rfl)) ?_; (with_reducible refine (laws_heldChuteS.calls k _ _ ah ac ad _ ?side1 ?side2 A7.out).mono ?_); (case side1 => repeat (first | exact (Kd.C_below au.out (zb HB)) | (with_reducible refine Kd.C_alloc ?_ _) | (with_reducible refine Kd.C_drewN ?_ _) | (with_reducible refine Kd.C_drew ?_))); (case side2 => exact av.out); rintro e w' ⟨rfl, ⟨nd, rfl⟩⟩; refine ⟨_, rfl, ?_⟩) | ((with_reducible refine gate_callee (f := 83) rfl ?_); refine goesL_ (some 20) rfl rfl Try.func83 (by kernel_rfl) rfl #[.slice an ai.length ao, .int .i64 ad] rfl (by (try simp only [List.map_toArray, List.map_cons, List.map_nil]); first | done | rfl | (simp only [List.length_drop, List.length_take]; rfl)) ?_; (with_reducible refine (laws_heldWantS.calls k _ _ ai ad af _ ?side1 ?side2 A11.out).mono ?_); (case side1 => repeat (first | exact (Kd.C_below aD.out (zb HB)) | (with_reducible refine Kd.C_alloc ?_ _) | (with_reducible refine Kd.C_drewN ?_ _) | (with_reducible refine Kd.C_drew ?_))); (case side2 => exact aE.out); rintro e w' ⟨rfl, ⟨nd, rfl⟩⟩; refine ⟨_, rfl, ?_⟩))
    go_ret
    exact ⟨by first | rfl | (simp [errW_none, errW_some] <;> rfl) | (simp [*, errW_none, errW_some] <;> rfl), by repeat (first | (with_reducible first | exact HB.out | apply zB | apply zC | apply zE | refine zS ?_ ae.out) | exact HB.out)⟩
end Go.Proofs.Ytmjhbdmicejppaa.Px
