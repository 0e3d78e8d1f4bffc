import Derived.Test.YtdmbfmfdijgdkaaZvPx0
import Derived.Test.YtdmbfmfdijgdkaaZvPx7
import Derived.Test.YtdmbfmfdijgdkaaZvPx8
import Derived.Test.YtdmbfmfdijgdkaaZvPx11
import Derived.Test.YtdmbfmfdijgdkaaZvPx12
namespace Go.Proofs.Ytdmbfmfdijgdkaa.Px
open Go.RowKit Go.Proofs.YtdmbfmfdijgdkaaW.PrintWords Go.Proofs.YtdmbfmfdijgdkaaW.PrintLast Go.Proofs.YtdmbfmfdijgdkaaW.PrintMore
attribute [local go_sem] max2_int min2_int max_two min_two max_three min_three max_four min_four   
set_option linter.unusedVariables false
set_option linter.unusedSimpArgs false
mutual
def spec_Sure.j0 : Nat → List (S52) → List (S89) → List Int → Bool → Option (List Int)
 | 0, _, _, _, _ => none
 | k + 1, x0, x1, x5, x16 => if x16 = true then (some x5) else (spec_Sure.l0 k x0 x1 x5 0)
def spec_Sure.l0 : Nat → List (S52) → List (S89) → List Int → Int → Option (List Int)
 | 0, _, _, _, _ => none
 | k + 1, x0, x1, x5, x6 => if x6 < (x1.length : Int) then ((spec_Choices.f k x0 x1 x6).bind fun t879 => (if (t879.length : Int) = 1 then (if 0 < (t879.length : Int) then (if x5.length < 17592186044416 then (spec_Sure.l0 k x0 x1 (x5 ++ [rd t879 0]) (wrap64 (x6 + 1))) else (none)) else (none)) else (if x5.length < 17592186044416 then (spec_Sure.l0 k x0 x1 (x5 ++ [(-1)]) (wrap64 (x6 + 1))) else (none)))) else (some x5)
end
def spec_Sure.f (k : Nat) (l0 : List (S52)) (l1 : List (S89)) : Option (List Int) := (some (([] : List Int) : List Int)).bind fun y874 => ((spec_ExpectOk.f k l0).bind fun t877 => (if t877 = true then ((spec_SightsOk.f k l1).bind fun t878 => (spec_Sure.j0 k l0 l1 y874 (!t878))) else (spec_Sure.j0 k l0 l1 y874 true)))
set_option maxHeartbeats 8000000 in
set_option maxRecDepth 100000 in
theorem spec_Sure.calls (k : Nat) (A0 : Option Addr) (c0 : Nat) (l0 : List (S52)) (A1 : Option Addr) (c1 : Nat) (l1 : List (S89)) (r : List Int) (w : World) (hr0 : Kd.C k52 w A0 l0.length l0) (hc0 : l0.length ≤ c0) (hr1 : Kd.C k89 w A1 l1.length l1) (hc1 : l1.length ≤ c1) (h : spec_Sure.f k l0 l1 = some r) :
  Calls Try.prog 53 #[.slice A0 l0.length c0, .slice A1 l1.length c1] w fun e w' => ∃ v0_ : Value, e = .returned (v0_) ∧ Kd.R (Kd.int .i64) 3 w' w.heap.size (fun _ => True) v0_ r ∧ Below w.heap.size w w' := by
 have HR0 := zK hr0; have HC0 := zK hc0; clear hr0 hc0; have HR1 := zK hr1; have HC1 := zK hc1; clear hr1 hc1
 have HB := zK (Below.refl w.heap.size w)
 have H : ((some (([] : List Int) : List Int)).bind fun ae => ((spec_ExpectOk.f k l0).bind fun ap => (if ap = true then ((spec_SightsOk.f k l1).bind fun ag => (spec_Sure.j0 k l0 l1 ae (!ag))) else (spec_Sure.j0 k l0 l1 ae true)))) = some r := h
 clear h
 obtain ⟨ae, ah⟩ : ∃ y_ : List Int, y_ = (([] : List Int)) := ⟨_, rfl⟩
 replace H : ((spec_ExpectOk.f k l0).bind fun ap => (if ap = true then ((spec_SightsOk.f k l1).bind fun ag => (spec_Sure.j0 k l0 l1 ae (!ag))) else (spec_Sure.j0 k l0 l1 ae true))) = some r := by first | (rw [ah]; with_reducible exact H) | (have H2_ := (Option.bind_some _ _).symm.trans H; rw [ah]; with_reducible exact H2_) | (have H2_ := (Option.bind_some _ _).symm.trans H; with_reducible exact H2_) | with_reducible exact H | (rw [ah]; exact H) | exact H
 have Ny874 := zK ah; clear ah; have HC3 := zK H; clear H
 go_enter Try.func53, Try.ntmps53
 go_upto_region 2 with (first | ((with_reducible refine gate_dst (N := 8) rfl ?_); refine Kd.R_lit (Kd.int .i64) _ 3 ?hg (N := 8) ?hd (xs := ([] : List Int)) (inner := []) (ok := fun _ => True) (okp := fun _ => True) ?hr ?hp (fun _ hk => hk) trivial (Below.refl _ _) (Nat.le_refl _) (by simp) ?_; (case hd => rfl); (case hg => rfl); (case hr => first | (go_simp; done) | (go_simp; rfl)); (case hp => exact (Reps.none _ _)); intro v875 w4 ho5 hb hg_ hnew_; clear hg_ hnew_; (first | rw [← Ny874.out] at ho5 | (simp only [Int.reduceToNat] at ho5; rw [← Ny874.out] at ho5)); have ai := zK (Kd.R_lower ho5 (below_size (zb HB))); have aj := zK (below_step (zb HB) hb); clear HB; have ak := ai; have HB := aj; clear ai aj; clear hb ho5))
 (try simp only [Act.put, zp, zq, zr])
 go_cut [16] (fun v16 wc => ∃ (kq : Nat) (an : Bool), v16 = .bool an ∧ Aside0 (spec_Sure.j0 kq l0 l1 ae an = some r) ∧ Aside0 (kq ≤ k) ∧ Aside0 (Kd.R (Kd.int .i64) 3 wc w.heap.size (fun _ => True) v875 ae) ∧ Aside0 (Below w.heap.size w wc))
 case first =>
  have H := HC3.out; clear HC3; replace H := Option.bind_eq_some_iff.mp H
  obtain ⟨ap, A60, H⟩ := H
  replace H : (if ap = true then ((spec_SightsOk.f k l1).bind fun ag => (spec_Sure.j0 k l0 l1 ae (!ag))) else (spec_Sure.j0 k l0 l1 ae true)) = some r := H
  have A6 := zK A60; clear A60
  by_cases c7 : ap = true
  ·subst c7
   have H1 : ((spec_SightsOk.f k l1).bind fun ag => (spec_Sure.j0 k l0 l1 ae (!ag))) = some r := by rw [if_pos rfl] at H; exact H
   clear H; have H := H1; clear H1; replace H := Option.bind_eq_some_iff.mp H
   obtain ⟨ag, A80, H⟩ := H
   replace H : (spec_Sure.j0 k l0 l1 ae (!ag)) = some r := H
   have A8 := zK A80; clear A80; have H' := zK H; clear H
   go_wp2_with (first | ((with_reducible refine gate_callee (f := 37) rfl ?_); refine goesL_ (some 10) rfl rfl Try.func37 (by kernel_rfl) rfl #[.slice A0 l0.length c0] rfl (by (try simp only [List.map_toArray, List.map_cons, List.map_nil]); first | done | rfl | (simp only [List.length_drop, List.length_take]; rfl)) ?_; (with_reducible refine (spec_ExpectOk.calls k _ _ l0 true _ ?side1 ?side2 A6.out).mono ?_); (case side1 => repeat (first | exact (Kd.C_below HR0.out HB.out) | (with_reducible refine Kd.C_alloc ?_ _) | (with_reducible refine Kd.C_drewN ?_ _) | (with_reducible refine Kd.C_drew ?_))); (case side2 => exact HC0.out); rintro e w' ⟨rfl, ⟨nd, rfl⟩⟩; refine ⟨_, rfl, ?_⟩) | (go_at_call 39; (with_reducible refine (spec_SightsOk.calls k _ _ l1 ag _ ?side1 ?side2 A8.out).mono ?_); (case side1 => repeat (first | exact (Kd.C_below HR1.out (zb HB)) | (with_reducible refine Kd.C_alloc ?_ _) | (with_reducible refine Kd.C_drewN ?_ _) | (with_reducible refine Kd.C_drew ?_))); (case side2 => exact HC1.out); rintro e w9 ⟨rfl, hb⟩; have ai := zK (Kd.R_below (zR ak) hb); have aj := zK (below_step (zb HB) hb); clear ak; clear HB; have ak := ai; have HB := aj; clear ai aj; (try clear hb)))
   go_meet
   case rel => exact ⟨_, (!ag), (by first | rfl | (simp; done) | (simp [*]; done)), H', ⟨by first | omega | exact Nat.le_refl _⟩, ⟨zR ak⟩, ⟨zb HB⟩⟩
  ·replace c7 := Bool.eq_false_iff.mpr c7
   subst c7
   have H1 : (spec_Sure.j0 k l0 l1 ae true) = some r := by rw [if_neg (show ¬ (false = true) by decide)] at H; exact H
   clear H; have H := H1; clear H1; have H' := zK H; clear H
   go_wp2_with (first | ((with_reducible refine gate_callee (f := 37) rfl ?_); refine goesL_ (some 10) rfl rfl Try.func37 (by kernel_rfl) rfl #[.slice A0 l0.length c0] rfl (by (try simp only [List.map_toArray, List.map_cons, List.map_nil]); first | done | rfl | (simp only [List.length_drop, List.length_take]; rfl)) ?_; (with_reducible refine (spec_ExpectOk.calls k _ _ l0 false _ ?side1 ?side2 A6.out).mono ?_); (case side1 => repeat (first | exact (Kd.C_below HR0.out HB.out) | (with_reducible refine Kd.C_alloc ?_ _) | (with_reducible refine Kd.C_drewN ?_ _) | (with_reducible refine Kd.C_drew ?_))); (case side2 => exact HC0.out); rintro e w' ⟨rfl, ⟨nd, rfl⟩⟩; refine ⟨_, rfl, ?_⟩))
   go_meet
   case rel => exact ⟨_, (true), (by first | rfl | (simp; done) | (simp [*]; done)), H', ⟨by first | omega | exact Nat.le_refl _⟩, ⟨zR ak⟩, ⟨zb HB⟩⟩
 case rest =>
  clear HC3
  try clear c1
  try clear p2
  try clear c3
  try clear c5
  try clear c7
  obtain ⟨kq, an, rfl, HA, HJ2, ac, HB⟩ := hcut
  cases kq with
  | zero => exact absurd HA.out (by simp [spec_Sure.j0])
  | succ kj2 =>
   have H := HA.out; clear HA
   simp only [spec_Sure.j0] at H
   by_cases c10 : an = true
   ·subst c10
    have H1 : (some ae) = some r := by rw [if_pos rfl] at H; exact H
    clear H; have H := H1; clear H1; obtain rfl := Option.some.inj H
    go_wp2
    go_ret
    exact ⟨_, by first | rfl | (simp [errW_none, errW_some] <;> rfl) | (simp [*, errW_none, errW_some] <;> rfl), by (with_reducible repeat (first | apply Kd.R_alloc | apply Kd.R_drewN | apply Kd.R_drew)); exact ac.out, by repeat (first | (with_reducible first | exact HB.out | apply zB | apply zC | apply zE) | exact HB.out)⟩
   ·replace c10 := Bool.eq_false_iff.mpr c10
    subst c10
    have H1 : (spec_Sure.l0 kj2 l0 l1 ae 0) = some r := by rw [if_neg (show ¬ (false = true) by decide)] at H; exact H
    clear H; have H := H1; clear H1; have H' := zK H; clear H
    go_wp2
    go_loopg [5, 6] kj2 (fun kq v5 v6 w' => ∃ (af : List Int) (ad : Int), v6 = .int .i64 ad ∧ Aside0 (spec_Sure.l0 kq l0 l1 af ad = some r) ∧ Aside0 (kq ≤ kj2) ∧ Aside0 (Kd.R (Kd.int .i64) 3 w' w.heap.size (fun _ => True) v5 af) ∧ Aside0 (Below w.heap.size w w'))
    case atStart => exact ⟨(ae), (0), (by first | rfl | (simp; done) | (simp [*]; done)), H', ⟨Nat.le_refl _⟩, ⟨zR ac⟩, ⟨zb HB⟩⟩
    case round =>
     clear H'
     try clear c1
     try clear p2
     try clear c3
     try clear c5
     try clear c7
     try clear c10
     try clear p2
     obtain ⟨af, ad, rfl, HA, HK2, ac, HB⟩ := hrel
     cases gk with
     | zero => exact absurd HA.out (by simp [spec_Sure.l0])
     | succ k2 =>
      have H := HA.out; clear HA
      simp only [spec_Sure.l0] at H
      by_cases aw : ad < (l1.length : Int)
      ·rw [if_pos aw] at H
       have ax : decide (ad < (l1.length : Int)) = true := decide_eq_true aw
       clear aw; replace H := Option.bind_eq_some_iff.mp H
       obtain ⟨aa, ay, H⟩ := H
       replace H : (if (aa.length : Int) = 1 then (if 0 < (aa.length : Int) then (if af.length < 17592186044416 then (spec_Sure.l0 k2 l0 l1 (af ++ [rd aa 0]) (wrap64 (ad + 1))) else (none)) else (none)) else (if af.length < 17592186044416 then (spec_Sure.l0 k2 l0 l1 (af ++ [(-1)]) (wrap64 (ad + 1))) else (none))) = some r := H
       have A12 := zK ay; clear ay
       by_cases ar : (aa.length : Int) = 1
       ·rw [if_pos ar] at H
        have az : ((aa.length : Int) == 1) = true := beq_iff_eq.mpr ar
        have aA : ((aa.length : Int) != 1) = false := bne_eq_false_iff_eq.mpr ar
        clear ar
        by_cases c14 : 0 < (aa.length : Int)
        ·rw [if_pos c14] at H
         have c14b0 : decide (0 < (aa.length : Int)) = true := decide_eq_true c14
         have c14b1 : decide (0 < aa.length) = true := decide_eq_true (by omega)
         clear c14
         by_cases c15 : af.length < 17592186044416
         ·rw [if_pos c15] at H
          have aC := zK c15; clear c15
          obtain ⟨aD, al⟩ : ∃ y_ : List Int, y_ = (af ++ [rd aa 0]) := ⟨_, rfl⟩
          replace H : (spec_Sure.l0 k2 l0 l1 aD (wrap64 (ad + 1))) = some r := by first | (rw [al]; with_reducible exact H) | (have H2_ := (Option.bind_some _ _).symm.trans H; rw [al]; with_reducible exact H2_) | (have H2_ := (Option.bind_some _ _).symm.trans H; with_reducible exact H2_) | with_reducible exact H | (rw [al]; exact H) | exact H
          have Ny883 := zK al; clear al; have H' := zK H; clear H
          go_wp2_with (first | ((with_reducible refine gate_callee (f := 45) rfl ?_); refine goesL_ (some 27) rfl rfl Try.func45 (by kernel_rfl) rfl #[.slice A0 l0.length c0, .slice A1 l1.length c1, .int .i64 ad] rfl (by (try simp only [List.map_toArray, List.map_cons, List.map_nil]); first | done | rfl | (simp only [List.length_drop, List.length_take]; rfl)) ?_; (with_reducible refine (spec_Choices.calls k2 _ _ l0 _ _ l1 ad aa _ ?side1 ?side2 ?side3 ?side4 A12.out).mono ?_); (case side1 => repeat (first | exact (Kd.C_below HR0.out HB.out) | (with_reducible refine Kd.C_alloc ?_ _) | (with_reducible refine Kd.C_drewN ?_ _) | (with_reducible refine Kd.C_drew ?_))); (case side2 => exact HC0.out); (case side3 => repeat (first | exact (Kd.C_below HR1.out HB.out) | (with_reducible refine Kd.C_alloc ?_ _) | (with_reducible refine Kd.C_drewN ?_ _) | (with_reducible refine Kd.C_drew ?_))); (case side4 => exact HC1.out); rintro e w16 ⟨v880, rfl, ho0, hb⟩; refine ⟨_, rfl, ?_⟩; have ai := zK (Kd.R_elder' (zR ac) (Kd.R_base ho0) hb); have aj := zK (Kd.R_lower (Kd.R_new' ho0 (Kd.R_lt (zR ac))) (below_size (zb HB))); have aq := zK (below_step (zb HB) hb); clear ac; clear HB; have ac := ai; have ab := aj; have HB := aq; clear ai aj aq; (try clear hb); (try clear hk); (try clear ho0); obtain ⟨Ao17, co17, eo17⟩ := Kd.R_slice ab.out; subst eo17; have au : 0 ≤ (0 : Int) := (by omega); have av : 0 < (aa.length : Int) := of_decide_eq_true (by first | (with_reducible assumption) | assumption); obtain ⟨aE, e882, ao⟩ := Kd.at_int (Kd.R_reads' ab.out).2.2 0 au av; cases e882; have qi882 : (0 < aa.length) = True := eq_true (by omega); (try rw [show ((0 : Int)).toNat = 0 from rfl] at ao); (try rw [Addr.add_zero'] at ao); replace au := eq_true au; replace av := eq_true av) | ((with_reducible refine gate_builtin (b := .append) (xs := #[.tmp 31, .tmp 35]) rfl ?_); at_builtin; refine Kd.R_append (Kd.int .i64) (w0 := w) w.heap.size rfl (.tmp 31) (.tmp 35) 29 3 (.int .i64 0) 8 rfl Try.underlying29 info3 rfl (by decide) (by omega) u5 af (rd aa 0) [.int .i64 (rd aa 0)] (fun k_ => some k_ ≠ (.slice (some aE) aa.length co17 : Value).ownBlock) (fun _ => False) rfl rfl ?aP (fun _ hk => hk.elim) ?aF ?aO ?aB ?aS ?aL ?_; (case aP => exact rfl); (case aB => exact (zb HB)); (case aF => exact (fun k_ hk => Kd.fresh' (Kd.R_lt (zR ab)) k_ hk)); (case aO => exact (by (with_reducible repeat (first | apply Kd.R_alloc | apply Kd.R_drewN | apply Kd.R_drew)); exact Kd.R_mono ac.out (fun _ hk => hk.2))); (case aS => exact (below_size (zb HB))); (case aL => have := aC.out; omega); intro v884 w18 ho hb hg hat; rw [← Ny883.out] at ho; have ai := zK (Kd.R_after (ok := (fun _ => True)) (zR ab) hg hat); have aj := zK (hb); have aq := zK (ho); clear ab; clear HB; clear ac; have ab := ai; have HB := aj; have aG := aq; clear ai aj aq; clear ho hb hg hat))
          go_roundg k2
          case measure => have := HJ2.out; have := HK2.out; omega
          case rel => exact ⟨(aD), (wrap64 (ad + 1)), (by first | rfl | (simp; done) | (simp [*]; done)), H', ⟨by have := HJ2.out; have := HK2.out; omega⟩, ⟨by (with_reducible repeat (first | apply Kd.R_alloc | apply Kd.R_drewN | apply Kd.R_drew)); exact Kd.R_mono aG.out (fun _ hk => trivial)⟩, ⟨zb HB⟩⟩
         ·rw [if_neg c15] at H
          exact absurd H (by simp)
        ·rw [if_neg c14] at H
         exact absurd H (by simp)
       ·rw [if_neg ar] at H
        have az : ((aa.length : Int) == 1) = false := beq_eq_false_iff_ne.mpr ar
        have aA : ((aa.length : Int) != 1) = true := bne_iff_ne.mpr ar
        by_cases c19 : af.length < 17592186044416
        ·rw [if_pos c19] at H
         have aH := zK c19; clear c19
         obtain ⟨aI, am⟩ : ∃ y_ : List Int, y_ = (af ++ [(-1)]) := ⟨_, rfl⟩
         replace H : (spec_Sure.l0 k2 l0 l1 aI (wrap64 (ad + 1))) = some r := by first | (rw [am]; with_reducible exact H) | (have H2_ := (Option.bind_some _ _).symm.trans H; rw [am]; with_reducible exact H2_) | (have H2_ := (Option.bind_some _ _).symm.trans H; with_reducible exact H2_) | with_reducible exact H | (rw [am]; exact H) | exact H
         have Ny886 := zK am; clear am; have H' := zK H; clear H
         go_wp2_with (first | ((with_reducible refine gate_callee (f := 45) rfl ?_); refine goesL_ (some 27) rfl rfl Try.func45 (by kernel_rfl) rfl #[.slice A0 l0.length c0, .slice A1 l1.length c1, .int .i64 ad] rfl (by (try simp only [List.map_toArray, List.map_cons, List.map_nil]); first | done | rfl | (simp only [List.length_drop, List.length_take]; rfl)) ?_; (with_reducible refine (spec_Choices.calls k2 _ _ l0 _ _ l1 ad aa _ ?side1 ?side2 ?side3 ?side4 A12.out).mono ?_); (case side1 => repeat (first | exact (Kd.C_below HR0.out HB.out) | (with_reducible refine Kd.C_alloc ?_ _) | (with_reducible refine Kd.C_drewN ?_ _) | (with_reducible refine Kd.C_drew ?_))); (case side2 => exact HC0.out); (case side3 => repeat (first | exact (Kd.C_below HR1.out HB.out) | (with_reducible refine Kd.C_alloc ?_ _) | (with_reducible refine Kd.C_drewN ?_ _) | (with_reducible refine Kd.C_drew ?_))); (case side4 => exact HC1.out); rintro e w20 ⟨v880, rfl, ho0, hb⟩; refine ⟨_, rfl, ?_⟩; have ai := zK (Kd.R_elder' (zR ac) (Kd.R_base ho0) hb); have aj := zK (Kd.R_lower (Kd.R_new' ho0 (Kd.R_lt (zR ac))) (below_size (zb HB))); have aq := zK (below_step (zb HB) hb); clear ac; clear HB; have ac := ai; have ab := aj; have HB := aq; clear ai aj aq; (try clear hb); (try clear hk); (try clear ho0); obtain ⟨Ao21, co21, eo21⟩ := Kd.R_slice ab.out; subst eo21) | ((with_reducible refine gate_builtin (b := .append) (xs := #[.tmp 37, .tmp 38]) rfl ?_); at_builtin; refine Kd.R_append (Kd.int .i64) (w0 := w) w.heap.size rfl (.tmp 37) (.tmp 38) 29 3 (.int .i64 0) 8 rfl Try.underlying29 info3 rfl (by decide) (by omega) u5 af (-1) [.int .i64 (-1)] (fun k_ => some k_ ≠ (.slice Ao21 aa.length co21 : Value).ownBlock) (fun _ => False) rfl rfl ?aP (fun _ hk => hk.elim) ?aF ?aO ?aB ?aS ?aL ?_; (case aP => exact rfl); (case aB => exact (zb HB)); (case aF => exact (fun k_ hk => Kd.fresh' (Kd.R_lt (zR ab)) k_ hk)); (case aO => exact (by (with_reducible repeat (first | apply Kd.R_alloc | apply Kd.R_drewN | apply Kd.R_drew)); exact Kd.R_mono ac.out (fun _ hk => hk.2))); (case aS => exact (below_size (zb HB))); (case aL => have := aH.out; omega); intro v887 w22 ho hb hg hat; rw [← Ny886.out] at ho; have ai := zK (Kd.R_after (ok := (fun _ => True)) (zR ab) hg hat); have aj := zK (hb); have aq := zK (ho); clear ab; clear HB; clear ac; have ab := ai; have HB := aj; have aJ := aq; clear ai aj aq; clear ho hb hg hat))
         go_roundg k2
         case measure => have := HJ2.out; have := HK2.out; omega
         case rel => exact ⟨(aI), (wrap64 (ad + 1)), (by first | rfl | (simp; done) | (simp [*]; done)), H', ⟨by have := HJ2.out; have := HK2.out; omega⟩, ⟨by (with_reducible repeat (first | apply Kd.R_alloc | apply Kd.R_drewN | apply Kd.R_drew)); exact Kd.R_mono aJ.out (fun _ hk => trivial)⟩, ⟨zb HB⟩⟩
        ·rw [if_neg c19] at H
         exact absurd H (by simp)
      ·rw [if_neg aw] at H
       have ax : decide (ad < (l1.length : Int)) = false := decide_eq_false aw
       clear aw; obtain rfl := Option.some.inj H
       go_wp2
       go_ret
       exact ⟨_, by first | rfl | (simp [errW_none, errW_some] <;> rfl) | (simp [*, errW_none, errW_some] <;> rfl), by (with_reducible repeat (first | apply Kd.R_alloc | apply Kd.R_drewN | apply Kd.R_drew)); exact ac.out, by repeat (first | (with_reducible first | exact HB.out | apply zB | apply zC | apply zE) | exact HB.out)⟩
def impl_Sure.l0 : Nat → List (S52) → List (S89) → List Int → Int → Int → Option (List Int)
 | 0, _, _, _, _, _ => none
 | k + 1, x0, x1, x5, x13, x14 => if x14 < x13 then ((impl_Choices.f k x0 x1 x14).bind fun t890 => (if (t890.length : Int) = 1 then (if 0 < (t890.length : Int) then (if x5.length < 17592186044416 then (impl_Sure.l0 k x0 x1 (x5 ++ [rd t890 0]) x13 (wrap64 (x14 + 1))) else (none)) else (none)) else (if x5.length < 17592186044416 then (impl_Sure.l0 k x0 x1 (x5 ++ [(-1)]) x13 (wrap64 (x14 + 1))) else (none)))) else (some x5)
def impl_Sure.f (k : Nat) (l0 : List (S52)) (l1 : List (S89)) : Option (List Int) := (impl_areSights.f k l0 l1).bind fun t889 => (if t889 = true then (impl_Sure.l0 k l0 l1 ([] : List Int) (l1.length : Int) 0) else (some ([] : List Int)))
set_option maxHeartbeats 8000000 in
set_option maxRecDepth 100000 in
theorem impl_Sure.calls (k : Nat) (A0 : Option Addr) (c0 : Nat) (l0 : List (S52)) (A1 : Option Addr) (c1 : Nat) (l1 : List (S89)) (r : List Int) (w : World) (hr0 : Kd.C k52 w A0 l0.length l0) (hc0 : l0.length ≤ c0) (hr1 : Kd.C k89 w A1 l1.length l1) (hc1 : l1.length ≤ c1) (h : impl_Sure.f k l0 l1 = some r) :
  Calls Try.prog 54 #[.slice A0 l0.length c0, .slice A1 l1.length c1] w fun e w' => ∃ v0_ : Value, e = .returned (v0_) ∧ Kd.R (Kd.int .i64) 3 w' w.heap.size (fun _ => True) v0_ r ∧ Below w.heap.size w w' := by
 have HR0 := zK hr0; have HC0 := zK hc0; clear hr0 hc0; have HR1 := zK hr1; have HC1 := zK hc1; clear hr1 hc1
 have HB := zK (Below.refl w.heap.size w)
 have H : ((impl_areSights.f k l0 l1).bind fun al => (if al = true then (impl_Sure.l0 k l0 l1 ([] : List Int) (l1.length : Int) 0) else (some ([] : List Int)))) = some r := h
 clear h; replace H := Option.bind_eq_some_iff.mp H
 obtain ⟨al, A30, H⟩ := H
 replace H : (if al = true then (impl_Sure.l0 k l0 l1 ([] : List Int) (l1.length : Int) 0) else (some ([] : List Int))) = some r := H
 have A3 := zK A30; clear A30
 by_cases c4 : al = true
 ·subst c4
  have H1 : (impl_Sure.l0 k l0 l1 ([] : List Int) (l1.length : Int) 0) = some r := by rw [if_pos rfl] at H; exact H
  clear H; have H := H1; clear H1; have H' := zK H; clear H
  go_enter Try.func54, Try.ntmps54
  go_wp2_with (first | ((with_reducible refine gate_callee (f := 73) rfl ?_); refine goesL_ (some 10) rfl rfl Try.func73 (by kernel_rfl) rfl #[.slice A0 l0.length c0, .slice A1 l1.length c1] rfl (by (try simp only [List.map_toArray, List.map_cons, List.map_nil]); first | done | rfl | (simp only [List.length_drop, List.length_take]; rfl)) ?_; (with_reducible refine (impl_areSights.calls k _ _ l0 _ _ l1 true _ ?side1 ?side2 ?side3 ?side4 A3.out).mono ?_); (case side1 => repeat (first | exact HR0.out | (with_reducible refine Kd.C_alloc ?_ _) | (with_reducible refine Kd.C_drewN ?_ _) | (with_reducible refine Kd.C_drew ?_))); (case side2 => exact HC0.out); (case side3 => repeat (first | exact HR1.out | (with_reducible refine Kd.C_alloc ?_ _) | (with_reducible refine Kd.C_drewN ?_ _) | (with_reducible refine Kd.C_drew ?_))); (case side4 => exact HC1.out); rintro e w5 ⟨rfl, hb⟩; refine ⟨_, rfl, ?_⟩; have af := zK (below_step (zb HB) hb); clear HB; have HB := af; clear af; (try clear hb)))
  go_loopg [5, 14] k (fun kq v5 v14 w' => ∃ (ad : List Int) (aa : Int), v14 = .int .i64 aa ∧ Aside0 (impl_Sure.l0 kq l0 l1 ad (l1.length : Int) aa = some r) ∧ Aside0 (kq ≤ k) ∧ Aside0 (Kd.R (Kd.int .i64) 3 w' w.heap.size (fun _ => True) v5 ad) ∧ Aside0 (Below w.heap.size w w'))
  case atStart => exact ⟨(([] : List Int)), (0), (by first | rfl | (simp; done) | (simp [*]; done)), H', ⟨Nat.le_refl _⟩, ⟨by first | exact Kd.R_nil _ _ _ _ _ | exact Kd.N_nil _ _ _ _ _ | exact Kd.V_nil _ _ _ _ _ | exact Kd.Q_nil _ _ _ _ _ | exact Kd.S_nil _ _ _ _ _⟩, ⟨zb HB⟩⟩
  case round =>
   clear H'
   try clear c1
   try clear p2
   try clear c4
   try clear c5
   obtain ⟨ad, aa, rfl, HA, HK1, ae, HB⟩ := hrel
   cases gk with
   | zero => exact absurd HA.out (by simp [impl_Sure.l0])
   | succ k1 =>
    have H := HA.out; clear HA
    simp only [impl_Sure.l0] at H
    by_cases c6 : aa < (l1.length : Int)
    ·rw [if_pos c6] at H
     have c6b0 : decide (aa < (l1.length : Int)) = true := decide_eq_true c6
     clear c6; replace H := Option.bind_eq_some_iff.mp H
     obtain ⟨ab, A70, H⟩ := H
     replace H : (if (ab.length : Int) = 1 then (if 0 < (ab.length : Int) then (if ad.length < 17592186044416 then (impl_Sure.l0 k1 l0 l1 (ad ++ [rd ab 0]) (l1.length : Int) (wrap64 (aa + 1))) else (none)) else (none)) else (if ad.length < 17592186044416 then (impl_Sure.l0 k1 l0 l1 (ad ++ [(-1)]) (l1.length : Int) (wrap64 (aa + 1))) else (none))) = some r := H
     have A7 := zK A70; clear A70
     by_cases c8 : (ab.length : Int) = 1
     ·rw [if_pos c8] at H
      have c8b0 : ((ab.length : Int) == 1) = true := beq_iff_eq.mpr c8
      have c8b1 : ((ab.length : Int) != 1) = false := bne_eq_false_iff_eq.mpr c8
      clear c8
      by_cases c9 : 0 < (ab.length : Int)
      ·rw [if_pos c9] at H
       have c9b0 : decide (0 < (ab.length : Int)) = true := decide_eq_true c9
       have c9b1 : decide (0 < ab.length) = true := decide_eq_true (by omega)
       clear c9
       by_cases c10 : ad.length < 17592186044416
       ·rw [if_pos c10] at H
        have ao := zK c10; clear c10
        obtain ⟨ap, ag⟩ : ∃ y_ : List Int, y_ = (ad ++ [rd ab 0]) := ⟨_, rfl⟩
        replace H : (impl_Sure.l0 k1 l0 l1 ap (l1.length : Int) (wrap64 (aa + 1))) = some r := by first | (rw [ag]; with_reducible exact H) | (have H2_ := (Option.bind_some _ _).symm.trans H; rw [ag]; with_reducible exact H2_) | (have H2_ := (Option.bind_some _ _).symm.trans H; with_reducible exact H2_) | with_reducible exact H | (rw [ag]; exact H) | exact H
        have Ny894 := zK ag; clear ag; have H' := zK H; clear H
        go_wp2_with (first | ((with_reducible refine gate_callee (f := 48) rfl ?_); refine goesL_ (some 20) rfl rfl Try.func48 (by kernel_rfl) rfl #[.slice A0 l0.length c0, .slice A1 l1.length c1, .int .i64 aa] rfl (by (try simp only [List.map_toArray, List.map_cons, List.map_nil]); first | done | rfl | (simp only [List.length_drop, List.length_take]; rfl)) ?_; (with_reducible refine (impl_Choices.calls k1 _ _ l0 _ _ l1 aa ab _ ?side1 ?side2 ?side3 ?side4 A7.out).mono ?_); (case side1 => repeat (first | exact (Kd.C_below HR0.out HB.out) | (with_reducible refine Kd.C_alloc ?_ _) | (with_reducible refine Kd.C_drewN ?_ _) | (with_reducible refine Kd.C_drew ?_))); (case side2 => exact HC0.out); (case side3 => repeat (first | exact (Kd.C_below HR1.out HB.out) | (with_reducible refine Kd.C_alloc ?_ _) | (with_reducible refine Kd.C_drewN ?_ _) | (with_reducible refine Kd.C_drew ?_))); (case side4 => exact HC1.out); rintro e w11 ⟨v891, rfl, ho0, hb⟩; refine ⟨_, rfl, ?_⟩; have af := zK (Kd.R_elder' (zR ae) (Kd.R_base ho0) hb); have aj := zK (Kd.R_lower (Kd.R_new' ho0 (Kd.R_lt (zR ae))) (below_size (zb HB))); have ak := zK (below_step (zb HB) hb); clear ae; clear HB; have ae := af; have ac := aj; have HB := ak; clear af aj ak; (try clear hb); (try clear hk); (try clear ho0); obtain ⟨Ao12, co12, eo12⟩ := Kd.R_slice ac.out; subst eo12; have am : 0 ≤ (0 : Int) := (by omega); have an : 0 < (ab.length : Int) := of_decide_eq_true (by first | (with_reducible assumption) | assumption); obtain ⟨aq, e893, ai⟩ := Kd.at_int (Kd.R_reads' ac.out).2.2 0 am an; cases e893; have qi893 : (0 < ab.length) = True := eq_true (by omega); (try rw [show ((0 : Int)).toNat = 0 from rfl] at ai); (try rw [Addr.add_zero'] at ai); replace am := eq_true am; replace an := eq_true an) | ((with_reducible refine gate_builtin (b := .append) (xs := #[.tmp 24, .tmp 28]) rfl ?_); at_builtin; refine Kd.R_append (Kd.int .i64) (w0 := w) w.heap.size rfl (.tmp 24) (.tmp 28) 29 3 (.int .i64 0) 8 rfl Try.underlying29 info3 rfl (by decide) (by omega) u5 ad (rd ab 0) [.int .i64 (rd ab 0)] (fun k_ => some k_ ≠ (.slice (some aq) ab.length co12 : Value).ownBlock) (fun _ => False) rfl rfl ?aP (fun _ hk => hk.elim) ?aF ?aO ?aB ?aS ?aL ?_; (case aP => exact rfl); (case aB => exact (zb HB)); (case aF => exact (fun k_ hk => Kd.fresh' (Kd.R_lt (zR ac)) k_ hk)); (case aO => exact (by (with_reducible repeat (first | apply Kd.R_alloc | apply Kd.R_drewN | apply Kd.R_drew)); exact Kd.R_mono ae.out (fun _ hk => hk.2))); (case aS => exact (below_size (zb HB))); (case aL => have := ao.out; omega); intro v895 w13 ho hb hg hat; rw [← Ny894.out] at ho; have af := zK (Kd.R_after (ok := (fun _ => True)) (zR ac) hg hat); have aj := zK (hb); have ak := zK (ho); clear ac; clear HB; clear ae; have ac := af; have HB := aj; have ar := ak; clear af aj ak; clear ho hb hg hat))
        go_roundg k1
        case measure => have := HK1.out; omega
        case rel => exact ⟨(ap), (wrap64 (aa + 1)), (by first | rfl | (simp; done) | (simp [*]; done)), H', ⟨by have := HK1.out; omega⟩, ⟨by (with_reducible repeat (first | apply Kd.R_alloc | apply Kd.R_drewN | apply Kd.R_drew)); exact Kd.R_mono ar.out (fun _ hk => trivial)⟩, ⟨zb HB⟩⟩
       ·rw [if_neg c10] at H
        exact absurd H (by simp)
      ·rw [if_neg c9] at H
       exact absurd H (by simp)
     ·rw [if_neg c8] at H
      have c8b0 : ((ab.length : Int) == 1) = false := beq_eq_false_iff_ne.mpr c8
      have c8b1 : ((ab.length : Int) != 1) = true := bne_iff_ne.mpr c8
      by_cases c14 : ad.length < 17592186044416
      ·rw [if_pos c14] at H
       have au := zK c14; clear c14
       obtain ⟨av, ah⟩ : ∃ y_ : List Int, y_ = (ad ++ [(-1)]) := ⟨_, rfl⟩
       replace H : (impl_Sure.l0 k1 l0 l1 av (l1.length : Int) (wrap64 (aa + 1))) = some r := by first | (rw [ah]; with_reducible exact H) | (have H2_ := (Option.bind_some _ _).symm.trans H; rw [ah]; with_reducible exact H2_) | (have H2_ := (Option.bind_some _ _).symm.trans H; with_reducible exact H2_) | with_reducible exact H | (rw [ah]; exact H) | exact H
       have Ny897 := zK ah; clear ah; have H' := zK H; clear H
       go_wp2_with (first | ((with_reducible refine gate_callee (f := 48) rfl ?_); refine goesL_ (some 20) rfl rfl Try.func48 (by kernel_rfl) rfl #[.slice A0 l0.length c0, .slice A1 l1.length c1, .int .i64 aa] rfl (by (try simp only [List.map_toArray, List.map_cons, List.map_nil]); first | done | rfl | (simp only [List.length_drop, List.length_take]; rfl)) ?_; (with_reducible refine (impl_Choices.calls k1 _ _ l0 _ _ l1 aa ab _ ?side1 ?side2 ?side3 ?side4 A7.out).mono ?_); (case side1 => repeat (first | exact (Kd.C_below HR0.out HB.out) | (with_reducible refine Kd.C_alloc ?_ _) | (with_reducible refine Kd.C_drewN ?_ _) | (with_reducible refine Kd.C_drew ?_))); (case side2 => exact HC0.out); (case side3 => repeat (first | exact (Kd.C_below HR1.out HB.out) | (with_reducible refine Kd.C_alloc ?_ _) | (with_reducible refine Kd.C_drewN ?_ _) | (with_reducible refine Kd.C_drew ?_))); (case side4 => exact HC1.out); rintro e w15 ⟨v891, rfl, ho0, hb⟩; refine ⟨_, rfl, ?_⟩; have af := zK (Kd.R_elder' (zR ae) (Kd.R_base ho0) hb); have aj := zK (Kd.R_lower (Kd.R_new' ho0 (Kd.R_lt (zR ae))) (below_size (zb HB))); have ak := zK (below_step (zb HB) hb); clear ae; clear HB; have ae := af; have ac := aj; have HB := ak; clear af aj ak; (try clear hb); (try clear hk); (try clear ho0); obtain ⟨Ao16, co16, eo16⟩ := Kd.R_slice ac.out; subst eo16) | ((with_reducible refine gate_builtin (b := .append) (xs := #[.tmp 30, .tmp 31]) rfl ?_); at_builtin; refine Kd.R_append (Kd.int .i64) (w0 := w) w.heap.size rfl (.tmp 30) (.tmp 31) 29 3 (.int .i64 0) 8 rfl Try.underlying29 info3 rfl (by decide) (by omega) u5 ad (-1) [.int .i64 (-1)] (fun k_ => some k_ ≠ (.slice Ao16 ab.length co16 : Value).ownBlock) (fun _ => False) rfl rfl ?aP (fun _ hk => hk.elim) ?aF ?aO ?aB ?aS ?aL ?_; (case aP => exact rfl); (case aB => exact (zb HB)); (case aF => exact (fun k_ hk => Kd.fresh' (Kd.R_lt (zR ac)) k_ hk)); (case aO => exact (by (with_reducible repeat (first | apply Kd.R_alloc | apply Kd.R_drewN | apply Kd.R_drew)); exact Kd.R_mono ae.out (fun _ hk => hk.2))); (case aS => exact (below_size (zb HB))); (case aL => have := au.out; omega); intro v898 w17 ho hb hg hat; rw [← Ny897.out] at ho; have af := zK (Kd.R_after (ok := (fun _ => True)) (zR ac) hg hat); have aj := zK (hb); have ak := zK (ho); clear ac; clear HB; clear ae; have ac := af; have HB := aj; have aw := ak; clear af aj ak; clear ho hb hg hat))
       go_roundg k1
       case measure => have := HK1.out; omega
       case rel => exact ⟨(av), (wrap64 (aa + 1)), (by first | rfl | (simp; done) | (simp [*]; done)), H', ⟨by have := HK1.out; omega⟩, ⟨by (with_reducible repeat (first | apply Kd.R_alloc | apply Kd.R_drewN | apply Kd.R_drew)); exact Kd.R_mono aw.out (fun _ hk => trivial)⟩, ⟨zb HB⟩⟩
      ·rw [if_neg c14] at H
       exact absurd H (by simp)
    ·rw [if_neg c6] at H
     have c6b0 : decide (aa < (l1.length : Int)) = false := decide_eq_false c6
     clear c6; obtain rfl := Option.some.inj H
     go_wp2
     go_ret
     exact ⟨_, by first | rfl | (simp [errW_none, errW_some] <;> rfl) | (simp [*, errW_none, errW_some] <;> rfl), by (with_reducible repeat (first | apply Kd.R_alloc | apply Kd.R_drewN | apply Kd.R_drew)); exact ae.out, by repeat (first | (with_reducible first | exact HB.out | apply zB | apply zC | apply zE) | exact HB.out)⟩
 ·replace c4 := Bool.eq_false_iff.mpr c4
  subst c4
  have H1 : (some ([] : List Int)) = some r := by rw [if_neg (show ¬ (false = true) by decide)] at H; exact H
  clear H; have H := H1; clear H1; obtain rfl := Option.some.inj H
  go_enter Try.func54, Try.ntmps54
  go_wp2_with (first | ((with_reducible refine gate_callee (f := 73) rfl ?_); refine goesL_ (some 10) rfl rfl Try.func73 (by kernel_rfl) rfl #[.slice A0 l0.length c0, .slice A1 l1.length c1] rfl (by (try simp only [List.map_toArray, List.map_cons, List.map_nil]); first | done | rfl | (simp only [List.length_drop, List.length_take]; rfl)) ?_; (with_reducible refine (impl_areSights.calls k _ _ l0 _ _ l1 false _ ?side1 ?side2 ?side3 ?side4 A3.out).mono ?_); (case side1 => repeat (first | exact HR0.out | (with_reducible refine Kd.C_alloc ?_ _) | (with_reducible refine Kd.C_drewN ?_ _) | (with_reducible refine Kd.C_drew ?_))); (case side2 => exact HC0.out); (case side3 => repeat (first | exact HR1.out | (with_reducible refine Kd.C_alloc ?_ _) | (with_reducible refine Kd.C_drewN ?_ _) | (with_reducible refine Kd.C_drew ?_))); (case side4 => exact HC1.out); rintro e w18 ⟨rfl, hb⟩; refine ⟨_, rfl, ?_⟩; have af := zK (below_step (zb HB) hb); clear HB; have HB := af; clear af; (try clear hb)))
  go_ret
  exact ⟨_, by first | rfl | (simp [errW_none, errW_some] <;> rfl) | (simp [*, errW_none, errW_some] <;> rfl), by first | exact Kd.R_nil _ _ _ _ _ | exact Kd.N_nil _ _ _ _ _ | exact Kd.V_nil _ _ _ _ _ | exact Kd.Q_nil _ _ _ _ _ | exact Kd.S_nil _ _ _ _ _, by repeat (first | (with_reducible first | exact HB.out | apply zB | apply zC | apply zE) | exact HB.out)⟩
end Go.Proofs.Ytdmbfmfdijgdkaa.Px
