import Derived.Test.YtmjhbdmicejppaaZsPx0
import Derived.Test.YtmjhbdmicejppaaZsPx1
import Derived.Test.YtmjhbdmicejppaaZsPx2
namespace Go.Proofs.Ytmjhbdmicejppaa.Px
open Go.RowKit Go.Proofs.YtmjhbdmicejppaaW.PrintWords Go.Proofs.YtmjhbdmicejppaaW.PrintLast Go.Proofs.YtmjhbdmicejppaaW.PrintMore
attribute [local go_sem] max2_int min2_int max_two min_two max_three min_three max_four min_four   
set_option linter.unusedVariables false
set_option linter.unusedSimpArgs false
def spec_l05Tray.f (a : List Int) (b : Int) (c : List (S69)) (d : List (S74)) (e : Int) : Option (Int) := if (a.length : Int) = 0 then (none) else (some (Int.tmod (wrap64 ((wrap64 (e - b)) + (a.length : Int))) (a.length : Int)))
set_option maxHeartbeats 8000000 in
set_option maxRecDepth 100000 in
theorem spec_l05Tray.calls (af : Option Addr) (ag : Nat) (aa : List Int) (a0_1 : Int) (ah : Option Addr) (ai : Nat) (ad : List (S69)) (aj : Option Addr) (ak : Nat) (ae : List (S74)) (a1 : Int) (r : Int) (w : World) (al : Kd.C (Kd.int .i64) w af aa.length aa) (hc0_0 : aa.length ≤ ag) (am : Kd.C k69 w ah ad.length ad) (hc0_2 : ad.length ≤ ai) (an : Kd.C k74 w aj ae.length ae) (hc0_3 : ae.length ≤ ak) (h : spec_l05Tray.f aa a0_1 ad ae a1 = some r) :
  Calls Try.prog 77 #[.agg #[.slice af aa.length ag, .int .i64 a0_1, .slice ah ad.length ai, .slice aj ae.length ak], .int .i64 a1] w fun e w' => e = .returned (.int .i64 r) ∧ Below w.heap.size w w' := by
 have hu28 := Try.underlying28; have HR0_0 := zK al; have HC0_0 := zK hc0_0; clear al hc0_0; have HR0_2 := zK am; have HC0_2 := zK hc0_2; clear am hc0_2; have HR0_3 := zK an; have HC0_3 := zK hc0_3; clear an hc0_3
 have HB := zK (Below.refl w.heap.size w)
 have H := h; unfold spec_l05Tray.f at H
 clear h
 by_cases c3 : (aa.length : Int) = 0
 ·rw [if_pos c3] at H
  exact absurd H (by simp)
 ·rw [if_neg c3] at H
  have c3b0 : ((aa.length : Int) == 0) = false := beq_eq_false_iff_ne.mpr c3
  have c3b1 : ((aa.length : Int) != 0) = true := bne_iff_ne.mpr c3
  have c3b2 : ¬ (aa = []) := fun h_ => c3 (by rw [h_]; rfl)
  obtain rfl := Option.some.inj H
  go_enter Try.func77, Try.ntmps77
  go_wp2_with ((with_reducible refine gate_dst (N := 2) rfl ?_); refine zX 2 #[.slice af aa.length ag, .int .i64 a0_1, .slice ah ad.length ai, .slice aj ae.length ak] 28 ?_; intro ac hg w4 hbox hb; have ab := zK (hbox); have GW172 := zK ((by rw [hg]; exact (below_size (zb HB)) : w.heap.size ≤ ac)); have ao := zK ((by rw [hg]; exact (below_size (zb HB)) : w.heap.size ≤ ac)); replace HB := zK (below_step (zb HB) hb); clear hb hbox hg; obtain ⟨hcz5_0, hcz5_1, hcz5_2, hcz5_3⟩ := zL4 ab; obtain ⟨hfz5_0, hfz5_1, hfz5_2, hfz5_3⟩ := zF4 ab)
  go_ret
  exact ⟨ze, zb HB⟩
def spec_TrayAt.f (k : Nat) (a : List Int) (b : Int) (c : List (S69)) (d : List (S74)) (e : Int) : Option (Int) := (spec_LoopOk.f k a b c d).bind fun f => (if f = true then ((spec_l01In.f e 0 (wrap64 ((a.length : Int) - 1))).bind fun g => (if g = true then ((spec_l05Tray.f a b c d e).bind fun i => (some i)) else (some (-1)))) else (some (-1)))
set_option maxHeartbeats 8000000 in
set_option maxRecDepth 100000 in
theorem spec_TrayAt.calls (k : Nat) (ag : Option Addr) (ah : Nat) (ac : List Int) (a0_1 : Int) (ai : Option Addr) (aj : Nat) (ad : List (S69)) (ak : Option Addr) (al : Nat) (ae : List (S74)) (a1 : Int) (r : Int) (w : World) (az : Kd.C (Kd.int .i64) w ag ac.length ac) (hc0_0 : ac.length ≤ ah) (aA : Kd.C k69 w ai ad.length ad) (hc0_2 : ad.length ≤ aj) (aB : Kd.C k74 w ak ae.length ae) (hc0_3 : ae.length ≤ al) (h : spec_TrayAt.f k ac a0_1 ad ae a1 = some r) :
  Calls Try.prog 34 #[.agg #[.slice ag ac.length ah, .int .i64 a0_1, .slice ai ad.length aj, .slice ak ae.length al], .int .i64 a1] w fun e w' => e = .returned (.int .i64 r) ∧ Below w.heap.size w w' := by
 have hu28 := Try.underlying28; have aq := zK az; have ar := zK hc0_0; clear az hc0_0; have au := zK aA; have av := zK hc0_2; clear aA hc0_2; have aw := zK aB; have ax := zK hc0_3; clear aB hc0_3
 have HB := zK (Below.refl w.heap.size w)
 have H := h; unfold spec_TrayAt.f at H
 clear h; replace H := Option.bind_eq_some_iff.mp H
 obtain ⟨ay, A30, H⟩ := H
 (try dsimp only at H)
 have A3 := zK A30; clear A30
 by_cases c4 : ay = true
 ·subst c4
  rw [if_pos rfl] at H; replace H := Option.bind_eq_some_iff.mp H
  obtain ⟨ap, A50, H⟩ := H
  (try dsimp only at H)
  have A5 := zK A50; clear A50
  by_cases c6 : ap = true
  ·subst c6
   rw [if_pos rfl] at H; replace H := Option.bind_eq_some_iff.mp H
   obtain ⟨am, A70, H⟩ := H
   (try dsimp only at H)
   have A7 := zK A70; clear A70; obtain rfl := Option.some.inj H
   go_enter Try.func34, Try.ntmps34
   go_wp2_with (first | ((with_reducible refine gate_dst (N := 2) rfl ?_); (try (refine gate_guard (by rfl) ?_; dsimp only)); refine zX 2 #[.slice ag ac.length ah, .int .i64 a0_1, .slice ai ad.length aj, .slice ak ae.length al] 28 ?_; intro ab hg w8 hbox hb; have aa := zK (hbox); have aE := zK ((by rw [hg]; exact (below_size (zb HB)) : w.heap.size ≤ ab)); have af := zK ((by rw [hg]; exact (below_size (zb HB)) : w.heap.size ≤ ab)); replace HB := zK (below_step (zb HB) hb); clear hb hbox hg; obtain ⟨hcz9_0, hcz9_1, hcz9_2, hcz9_3⟩ := zL4 aa; obtain ⟨hfz9_0, hfz9_1, hfz9_2, hfz9_3⟩ := zF4 aa) | ((with_reducible refine gate_callee (f := 23) rfl ?_); refine goesL_ (some 6) rfl rfl Try.func23 (by kernel_rfl) rfl #[.agg #[.slice ag ac.length ah, .int .i64 a0_1, .slice ai ad.length aj, .slice ak ae.length al]] rfl zg ?_; (with_reducible refine (spec_LoopOk.calls k _ _ ac a0_1 _ _ ad _ _ ae true _ ?side1 ?side2 ?side3 ?side4 ?side5 ?side6 A3.out).mono ?_); (case side1 => exact zs (Kd.C_below aq.out HB.out)); (case side2 => exact ar.out); (case side3 => exact zs (Kd.C_below au.out HB.out)); (case side4 => exact av.out); (case side5 => exact zs (Kd.C_below aw.out HB.out)); (case side6 => exact ax.out); rintro e w10 ⟨rfl, hb⟩; refine ⟨_, rfl, ?_⟩; replace aa := zK (blk_below (g := ab) (o := .cells #[.slice ag ac.length ah, .int .i64 a0_1, .slice ai ad.length aj, .slice ak ae.length al] 28 (0, 0)) (zk aa) hb); replace HB := zK (below_step (zb HB) hb); (try clear hb); obtain ⟨hcz11_0, hcz11_1, hcz11_2, hcz11_3⟩ := zL4 aa; obtain ⟨hfz11_0, hfz11_1, hfz11_2, hfz11_3⟩ := zF4 aa) | (go_at_call 62; (with_reducible refine (spec_l01In.calls a1 0 (wrap64 ((ac.length : Int) - 1)) true _ A5.out).mono ?_); rintro e w' ⟨rfl, ⟨nd, rfl⟩⟩) | ((with_reducible refine gate_callee (f := 77) rfl ?_); refine goesL_ (some 19) rfl rfl Try.func77 (by kernel_rfl) rfl #[.agg #[.slice ag ac.length ah, .int .i64 a0_1, .slice ai ad.length aj, .slice ak ae.length al], .int .i64 a1] rfl zg ?_; (with_reducible refine (spec_l05Tray.calls _ _ ac a0_1 _ _ ad _ _ ae a1 am _ ?side1 ?side2 ?side3 ?side4 ?side5 ?side6 A7.out).mono ?_); (case side1 => exact zs (Kd.C_below aq.out (zb HB))); (case side2 => exact ar.out); (case side3 => exact zs (Kd.C_below au.out (zb HB))); (case side4 => exact av.out); (case side5 => exact zs (Kd.C_below aw.out (zb HB))); (case side6 => exact ax.out); rintro e w12 ⟨rfl, hb⟩; refine ⟨_, rfl, ?_⟩; replace aa := zK (blk_below (g := ab) (o := .cells #[.slice ag ac.length ah, .int .i64 a0_1, .slice ai ad.length aj, .slice ak ae.length al] 28 (0, 0)) (zk aa) hb); replace HB := zK (below_step (zb HB) hb); (try clear hb)))
   go_ret
   exact ⟨ze, zb HB⟩
  ·replace c6 := Bool.eq_false_iff.mpr c6
   subst c6
   rw [if_neg (show ¬ (false = true) by decide)] at H; obtain rfl := Option.some.inj H
   go_enter Try.func34, Try.ntmps34
   go_wp2_with (first | ((with_reducible refine gate_dst (N := 2) rfl ?_); (try (refine gate_guard (by rfl) ?_; dsimp only)); refine zX 2 #[.slice ag ac.length ah, .int .i64 a0_1, .slice ai ad.length aj, .slice ak ae.length al] 28 ?_; intro ab hg w13 hbox hb; have aa := zK (hbox); have aE := zK ((by rw [hg]; exact (below_size (zb HB)) : w.heap.size ≤ ab)); have af := zK ((by rw [hg]; exact (below_size (zb HB)) : w.heap.size ≤ ab)); replace HB := zK (below_step (zb HB) hb); clear hb hbox hg; obtain ⟨hcz14_0, hcz14_1, hcz14_2, hcz14_3⟩ := zL4 aa; obtain ⟨hfz14_0, hfz14_1, hfz14_2, hfz14_3⟩ := zF4 aa) | ((with_reducible refine gate_callee (f := 23) rfl ?_); refine goesL_ (some 6) rfl rfl Try.func23 (by kernel_rfl) rfl #[.agg #[.slice ag ac.length ah, .int .i64 a0_1, .slice ai ad.length aj, .slice ak ae.length al]] rfl zg ?_; (with_reducible refine (spec_LoopOk.calls k _ _ ac a0_1 _ _ ad _ _ ae true _ ?side1 ?side2 ?side3 ?side4 ?side5 ?side6 A3.out).mono ?_); (case side1 => exact zs (Kd.C_below aq.out HB.out)); (case side2 => exact ar.out); (case side3 => exact zs (Kd.C_below au.out HB.out)); (case side4 => exact av.out); (case side5 => exact zs (Kd.C_below aw.out HB.out)); (case side6 => exact ax.out); rintro e w15 ⟨rfl, hb⟩; refine ⟨_, rfl, ?_⟩; replace aa := zK (blk_below (g := ab) (o := .cells #[.slice ag ac.length ah, .int .i64 a0_1, .slice ai ad.length aj, .slice ak ae.length al] 28 (0, 0)) (zk aa) hb); replace HB := zK (below_step (zb HB) hb); (try clear hb); obtain ⟨hcz16_0, hcz16_1, hcz16_2, hcz16_3⟩ := zL4 aa; obtain ⟨hfz16_0, hfz16_1, hfz16_2, hfz16_3⟩ := zF4 aa) | (go_at_call 62; (with_reducible refine (spec_l01In.calls a1 0 (wrap64 ((ac.length : Int) - 1)) false _ A5.out).mono ?_); rintro e w' ⟨rfl, ⟨nd, rfl⟩⟩))
   go_ret
   exact ⟨ze, zb HB⟩
 ·replace c4 := Bool.eq_false_iff.mpr c4
  subst c4
  rw [if_neg (show ¬ (false = true) by decide)] at H; obtain rfl := Option.some.inj H
  go_enter Try.func34, Try.ntmps34
  go_wp2_with (first | ((with_reducible refine gate_dst (N := 2) rfl ?_); (try (refine gate_guard (by rfl) ?_; dsimp only)); refine zX 2 #[.slice ag ac.length ah, .int .i64 a0_1, .slice ai ad.length aj, .slice ak ae.length al] 28 ?_; intro ab hg w17 hbox hb; have aa := zK (hbox); have aE := zK ((by rw [hg]; exact (below_size (zb HB)) : w.heap.size ≤ ab)); have af := zK ((by rw [hg]; exact (below_size (zb HB)) : w.heap.size ≤ ab)); replace HB := zK (below_step (zb HB) hb); clear hb hbox hg; obtain ⟨hcz18_0, hcz18_1, hcz18_2, hcz18_3⟩ := zL4 aa; obtain ⟨hfz18_0, hfz18_1, hfz18_2, hfz18_3⟩ := zF4 aa) | ((with_reducible refine gate_callee (f := 23) rfl ?_); refine goesL_ (some 6) rfl rfl Try.func23 (by kernel_rfl) rfl #[.agg #[.slice ag ac.length ah, .int .i64 a0_1, .slice ai ad.length aj, .slice ak ae.length al]] rfl zg ?_; (with_reducible refine (spec_LoopOk.calls k _ _ ac a0_1 _ _ ad _ _ ae false _ ?side1 ?side2 ?side3 ?side4 ?side5 ?side6 A3.out).mono ?_); (case side1 => exact zs (Kd.C_below aq.out HB.out)); (case side2 => exact ar.out); (case side3 => exact zs (Kd.C_below au.out HB.out)); (case side4 => exact av.out); (case side5 => exact zs (Kd.C_below aw.out HB.out)); (case side6 => exact ax.out); rintro e w19 ⟨rfl, hb⟩; refine ⟨_, rfl, ?_⟩; replace aa := zK (blk_below (g := ab) (o := .cells #[.slice ag ac.length ah, .int .i64 a0_1, .slice ai ad.length aj, .slice ak ae.length al] 28 (0, 0)) (zk aa) hb); replace HB := zK (below_step (zb HB) hb); (try clear hb)))
  go_ret
  exact ⟨ze, zb HB⟩
def impl_trayAt.f (a : List Int) (b : Int) (c : List (S69)) (d : List (S74)) (e : Int) : Option (Int) := if (a.length : Int) = 0 then (none) else (some (Int.tmod (wrap64 ((wrap64 (e - b)) + (a.length : Int))) (a.length : Int)))
set_option maxHeartbeats 8000000 in
set_option maxRecDepth 100000 in
theorem impl_trayAt.calls (af : Option Addr) (ag : Nat) (aa : List Int) (a0_1 : Int) (ah : Option Addr) (ai : Nat) (ad : List (S69)) (aj : Option Addr) (ak : Nat) (ae : List (S74)) (a1 : Int) (r : Int) (w : World) (al : Kd.C (Kd.int .i64) w af aa.length aa) (hc0_0 : aa.length ≤ ag) (am : Kd.C k69 w ah ad.length ad) (hc0_2 : ad.length ≤ ai) (an : Kd.C k74 w aj ae.length ae) (hc0_3 : ae.length ≤ ak) (h : impl_trayAt.f aa a0_1 ad ae a1 = some r) :
  Calls Try.prog 78 #[.agg #[.slice af aa.length ag, .int .i64 a0_1, .slice ah ad.length ai, .slice aj ae.length ak], .int .i64 a1] w fun e w' => e = .returned (.int .i64 r) ∧ Below w.heap.size w w' := by
 have hu28 := Try.underlying28; have HR0_0 := zK al; have HC0_0 := zK hc0_0; clear al hc0_0; have HR0_2 := zK am; have HC0_2 := zK hc0_2; clear am hc0_2; have HR0_3 := zK an; have HC0_3 := zK hc0_3; clear an hc0_3
 have HB := zK (Below.refl w.heap.size w)
 have H := h; unfold impl_trayAt.f at H
 clear h
 by_cases c3 : (aa.length : Int) = 0
 ·rw [if_pos c3] at H
  exact absurd H (by simp)
 ·rw [if_neg c3] at H
  have c3b0 : ((aa.length : Int) == 0) = false := beq_eq_false_iff_ne.mpr c3
  have c3b1 : ((aa.length : Int) != 0) = true := bne_iff_ne.mpr c3
  have c3b2 : ¬ (aa = []) := fun h_ => c3 (by rw [h_]; rfl)
  obtain rfl := Option.some.inj H
  go_enter Try.func78, Try.ntmps78
  go_wp2_with ((with_reducible refine gate_dst (N := 2) rfl ?_); refine zX 2 #[.slice af aa.length ag, .int .i64 a0_1, .slice ah ad.length ai, .slice aj ae.length ak] 28 ?_; intro ac hg w4 hbox hb; have ab := zK (hbox); have GW177 := zK ((by rw [hg]; exact (below_size (zb HB)) : w.heap.size ≤ ac)); have ao := zK ((by rw [hg]; exact (below_size (zb HB)) : w.heap.size ≤ ac)); replace HB := zK (below_step (zb HB) hb); clear hb hbox hg; obtain ⟨hcz5_0, hcz5_1, hcz5_2, hcz5_3⟩ := zL4 ab; obtain ⟨hfz5_0, hfz5_1, hfz5_2, hfz5_3⟩ := zF4 ab)
  go_ret
  exact ⟨ze, zb HB⟩
def impl_TrayAt.j0 : Nat → Int → Bool → List Int → Int → List (S69) → List (S74) → Option (Int)
 | 0, _, _, _, _, _, _ => none
 | k + 1, a, b, c, d, e, f => if b = true then (some (-1)) else ((impl_trayAt.f c d e f a).bind fun g => (some g))
def impl_TrayAt.f (k : Nat) (a : List Int) (b : Int) (c : List (S69)) (d : List (S74)) (e : Int) : Option (Int) := (impl_LoopOk.f k a b c d).bind fun f => (if f = true then (if e < 0 then (impl_TrayAt.j0 k e true a b c d) else (impl_TrayAt.j0 k e (decide (e ≥ (a.length : Int))) a b c d)) else (impl_TrayAt.j0 k e true a b c d))
set_option maxHeartbeats 8000000 in
set_option maxRecDepth 100000 in
theorem impl_TrayAt.calls (k : Nat) (af : Option Addr) (ag : Nat) (ac : List Int) (a0_1 : Int) (ah : Option Addr) (ai : Nat) (ad : List (S69)) (aj : Option Addr) (ak : Nat) (ae : List (S74)) (a1 : Int) (r : Int) (w : World) (az : Kd.C (Kd.int .i64) w af ac.length ac) (hc0_0 : ac.length ≤ ag) (aA : Kd.C k69 w ah ad.length ad) (hc0_2 : ad.length ≤ ai) (aB : Kd.C k74 w aj ae.length ae) (hc0_3 : ae.length ≤ ak) (h : impl_TrayAt.f k ac a0_1 ad ae a1 = some r) :
  Calls Try.prog 35 #[.agg #[.slice af ac.length ag, .int .i64 a0_1, .slice ah ad.length ai, .slice aj ae.length ak], .int .i64 a1] w fun e w' => e = .returned (.int .i64 r) ∧ Below w.heap.size w w' := by
 have hu28 := Try.underlying28; have am := zK az; have an := zK hc0_0; clear az hc0_0; have ao := zK aA; have ap := zK hc0_2; clear aA hc0_2; have aq := zK aB; have ar := zK hc0_3; clear aB hc0_3
 have HB := zK (Below.refl w.heap.size w)
 have H := h; unfold impl_TrayAt.f at H
 clear h; have HC3 := zK H; clear H
 go_enter Try.func35, Try.ntmps35
 go_upto_region 1 with ((with_reducible refine gate_dst (N := 2) rfl ?_); (try (refine gate_guard (by rfl) ?_; dsimp only)); refine zX 2 #[.slice af ac.length ag, .int .i64 a0_1, .slice ah ad.length ai, .slice aj ae.length ak] 28 ?_; intro ab hg w4 hbox hb; have aa := zK (hbox); have GW178 := zK ((by rw [hg]; exact (below_size (zb HB)) : w.heap.size ≤ ab)); have al := zK ((by rw [hg]; exact (below_size (zb HB)) : w.heap.size ≤ ab)); replace HB := zK (below_step (zb HB) hb); clear hb hbox hg)
 go_cut [18] (fun v18 wc => ∃ (kq : Nat) (aw : Bool), v18 = .bool aw ∧ Aside0 (impl_TrayAt.j0 kq a1 aw ac a0_1 ad ae = some r) ∧ Aside0 (kq ≤ k) ∧ Aside0 (wc.heap[ab]? = some (.cells #[(.slice af ac.length ag), .int .i64 a0_1, (.slice ah ad.length ai), (.slice aj ae.length ak)] 28 (0, 0))) ∧ Aside0 (Below w.heap.size w wc))
 case first =>
  have H := HC3.out; clear HC3; replace H := Option.bind_eq_some_iff.mp H
  obtain ⟨ax, A50, H⟩ := H
  (try dsimp only at H)
  have A5 := zK A50; clear A50
  by_cases c6 : ax = true
  ·subst c6
   rw [if_pos rfl] at H
   by_cases c7 : a1 < 0
   ·rw [if_pos c7] at H
    have c7b0 : decide (a1 < 0) = true := decide_eq_true c7
    clear c7; have H' := zK H; clear H
    obtain ⟨hcz8_0, hcz8_1, hcz8_2, hcz8_3⟩ := zL4 aa
    obtain ⟨hfz8_0, hfz8_1, hfz8_2, hfz8_3⟩ := zF4 aa
    go_wp2_with ((with_reducible refine gate_callee (f := 24) rfl ?_); refine goesL_ (some 6) rfl rfl Try.func24 (by kernel_rfl) rfl #[.agg #[.slice af ac.length ag, .int .i64 a0_1, .slice ah ad.length ai, .slice aj ae.length ak]] rfl zg ?_; (with_reducible refine (impl_LoopOk.calls k _ _ ac a0_1 _ _ ad _ _ ae true _ ?side1 ?side2 ?side3 ?side4 ?side5 ?side6 A5.out).mono ?_); (case side1 => exact zs (Kd.C_below am.out HB.out)); (case side2 => exact an.out); (case side3 => exact zs (Kd.C_below ao.out HB.out)); (case side4 => exact ap.out); (case side5 => exact zs (Kd.C_below aq.out HB.out)); (case side6 => exact ar.out); rintro e w9 ⟨rfl, hb⟩; refine ⟨_, rfl, ?_⟩; replace aa := zK (blk_below (g := ab) (o := .cells #[.slice af ac.length ag, .int .i64 a0_1, .slice ah ad.length ai, .slice aj ae.length ak] 28 (0, 0)) (zk aa) hb); replace HB := zK (below_step (zb HB) hb); (try clear hb))
    go_meet
    case rel => exact ⟨_, (true), zf, H', ⟨by first | omega | exact Nat.le_refl _⟩, ⟨zk aa⟩, ⟨zb HB⟩⟩
   ·rw [if_neg c7] at H
    have c7b0 : decide (a1 < 0) = false := decide_eq_false c7
    clear c7; have H' := zK H; clear H
    obtain ⟨hcz10_0, hcz10_1, hcz10_2, hcz10_3⟩ := zL4 aa
    obtain ⟨hfz10_0, hfz10_1, hfz10_2, hfz10_3⟩ := zF4 aa
    go_wp2_with ((with_reducible refine gate_callee (f := 24) rfl ?_); refine goesL_ (some 6) rfl rfl Try.func24 (by kernel_rfl) rfl #[.agg #[.slice af ac.length ag, .int .i64 a0_1, .slice ah ad.length ai, .slice aj ae.length ak]] rfl zg ?_; (with_reducible refine (impl_LoopOk.calls k _ _ ac a0_1 _ _ ad _ _ ae true _ ?side1 ?side2 ?side3 ?side4 ?side5 ?side6 A5.out).mono ?_); (case side1 => exact zs (Kd.C_below am.out HB.out)); (case side2 => exact an.out); (case side3 => exact zs (Kd.C_below ao.out HB.out)); (case side4 => exact ap.out); (case side5 => exact zs (Kd.C_below aq.out HB.out)); (case side6 => exact ar.out); rintro e w11 ⟨rfl, hb⟩; refine ⟨_, rfl, ?_⟩; replace aa := zK (blk_below (g := ab) (o := .cells #[.slice af ac.length ag, .int .i64 a0_1, .slice ah ad.length ai, .slice aj ae.length ak] 28 (0, 0)) (zk aa) hb); replace HB := zK (below_step (zb HB) hb); (try clear hb); obtain ⟨hcz12_0, hcz12_1, hcz12_2, hcz12_3⟩ := zL4 aa; obtain ⟨hfz12_0, hfz12_1, hfz12_2, hfz12_3⟩ := zF4 aa)
    go_meet
    case rel => exact ⟨_, (decide (a1 ≥ (ac.length : Int))), zf, H', ⟨by first | omega | exact Nat.le_refl _⟩, ⟨zk aa⟩, ⟨zb HB⟩⟩
  ·replace c6 := Bool.eq_false_iff.mpr c6
   subst c6
   rw [if_neg (show ¬ (false = true) by decide)] at H; have H' := zK H; clear H
   obtain ⟨hcz13_0, hcz13_1, hcz13_2, hcz13_3⟩ := zL4 aa
   obtain ⟨hfz13_0, hfz13_1, hfz13_2, hfz13_3⟩ := zF4 aa
   go_wp2_with ((with_reducible refine gate_callee (f := 24) rfl ?_); refine goesL_ (some 6) rfl rfl Try.func24 (by kernel_rfl) rfl #[.agg #[.slice af ac.length ag, .int .i64 a0_1, .slice ah ad.length ai, .slice aj ae.length ak]] rfl zg ?_; (with_reducible refine (impl_LoopOk.calls k _ _ ac a0_1 _ _ ad _ _ ae false _ ?side1 ?side2 ?side3 ?side4 ?side5 ?side6 A5.out).mono ?_); (case side1 => exact zs (Kd.C_below am.out HB.out)); (case side2 => exact an.out); (case side3 => exact zs (Kd.C_below ao.out HB.out)); (case side4 => exact ap.out); (case side5 => exact zs (Kd.C_below aq.out HB.out)); (case side6 => exact ar.out); rintro e w14 ⟨rfl, hb⟩; refine ⟨_, rfl, ?_⟩; replace aa := zK (blk_below (g := ab) (o := .cells #[.slice af ac.length ag, .int .i64 a0_1, .slice ah ad.length ai, .slice aj ae.length ak] 28 (0, 0)) (zk aa) hb); replace HB := zK (below_step (zb HB) hb); (try clear hb))
   go_meet
   case rel => exact ⟨_, (true), zf, H', ⟨by first | omega | exact Nat.le_refl _⟩, ⟨zk aa⟩, ⟨zb HB⟩⟩
 case rest =>
  clear HC3
  obtain ⟨kq, aw, rfl, HA, HJ2, aa, HB⟩ := hcut
  cases kq with
  | zero => exact absurd HA.out (by simp [impl_TrayAt.j0])
  | succ kj2 =>
   have H := HA.out; clear HA
   simp only [impl_TrayAt.j0] at H
   by_cases c15 : aw = true
   ·subst c15
    rw [if_pos rfl] at H; obtain rfl := Option.some.inj H
    go_wp2
    go_ret
    exact ⟨ze, zb HB⟩
   ·replace c15 := Bool.eq_false_iff.mpr c15
    subst c15
    rw [if_neg (show ¬ (false = true) by decide)] at H; replace H := Option.bind_eq_some_iff.mp H
    obtain ⟨ay, aC, H⟩ := H
    (try dsimp only at H)
    have A16 := zK aC; clear aC; obtain rfl := Option.some.inj H
    obtain ⟨hcz17_0, hcz17_1, hcz17_2, hcz17_3⟩ := zL4 aa
    obtain ⟨hfz17_0, hfz17_1, hfz17_2, hfz17_3⟩ := zF4 aa
    go_wp2_with ((with_reducible refine gate_callee (f := 78) rfl ?_); refine goesL_ (some 21) rfl rfl Try.func78 (by kernel_rfl) rfl #[.agg #[.slice af ac.length ag, .int .i64 a0_1, .slice ah ad.length ai, .slice aj ae.length ak], .int .i64 a1] rfl zg ?_; (with_reducible refine (impl_trayAt.calls _ _ ac a0_1 _ _ ad _ _ ae a1 ay _ ?side1 ?side2 ?side3 ?side4 ?side5 ?side6 A16.out).mono ?_); (case side1 => exact zs (Kd.C_below am.out HB.out)); (case side2 => exact an.out); (case side3 => exact zs (Kd.C_below ao.out HB.out)); (case side4 => exact ap.out); (case side5 => exact zs (Kd.C_below aq.out HB.out)); (case side6 => exact ar.out); rintro e w18 ⟨rfl, hb⟩; refine ⟨_, rfl, ?_⟩; replace aa := zK (blk_below (g := ab) (o := .cells #[.slice af ac.length ag, .int .i64 a0_1, .slice ah ad.length ai, .slice aj ae.length ak] 28 (0, 0)) (zk aa) hb); replace HB := zK (below_step (zb HB) hb); (try clear hb))
    go_ret
    exact ⟨ze, zb HB⟩
theorem size0 {w W : World} (h : Below 0 w W) : w.heap.size ≤ W.heap.size := h.size
theorem below_set0 {w W : World} {p : Addr} {v : Value} (h : Below 0 w W) : Below 0 w (W.setCell p v) := h.setCell (Nat.zero_le _) _
theorem below_step0 {w W w2 : World} (h : Below 0 w W) (k : Below W.heap.size W w2) : Below 0 w w2 := below_then h (Nat.zero_le _) k
theorem below_via {n N : Nat} {w W w2 : World} (h : Below n w W) (hN : n ≤ N) (k : Below N W w2) : Below n w w2 := h.trans ⟨k.os, k.tape, k.output, k.size, fun i hi => k.block i (Nat.lt_of_lt_of_le hi hN)⟩
def LoopMem (base : Nat) (w : World) (PW : Nat → Prop) (v0 : Value) (tr : List Int) (v2 : Value) (ch : List S69) (v3 : Value) (wa : List S74) : Prop :=
 Kd.R (Kd.int .i64) 3 w base (fun k => ¬ PW k) v0 tr ∧ Kd.S k69 69 w base (fun k => some k ≠ v0.ownBlock ∧ ¬ PW k) v2 ch ∧ Kd.S k74 74 w base PW v3 wa ∧ ∀ k, PW k → k < w.heap.size
section
variable {base N : Nat} {w w1 : World} {PW : Nat → Prop} {v0 v2 v3 : Value} {tr : List Int} {ch : List S69} {wa : List S74}
theorem LoopMem.mk (h0 : Kd.R (Kd.int .i64) 3 w base (fun _ => True) v0 tr) (h2 : Kd.S k69 69 w base (fun k => some k ≠ v0.ownBlock ∧ k < N) v2 ch) (h3 : Kd.S k74 74 w N (fun k => some k ≠ v0.ownBlock) v3 wa) (hb : base ≤ N) : ∃ PW, LoopMem base w PW v0 tr v2 ch v3 wa :=
 ⟨fun k => N ≤ k ∧ k < w.heap.size ∧ some k ≠ v0.ownBlock, Kd.R_reok rfl h0 (fun k hk h => h.2.2 hk.symm), Kd.S_mono h2 (fun k hk => ⟨hk.1, fun h => Nat.not_le.2 hk.2 h.1⟩), Kd.S_lower (Kd.S_mono (Kd.S_bound h3) (fun k hk => ⟨hk.2.1, hk.2.2.1, hk.1⟩)) hb, fun k hk => hk.2.1⟩
theorem LoopMem.below (h : LoopMem base w PW v0 tr v2 ch v3 wa) (hb : Below w.heap.size w w1) : LoopMem base w1 PW v0 tr v2 ch v3 wa :=
 ⟨Kd.R_below h.1 hb, Kd.S_below h.2.1 hb, Kd.S_below h.2.2.1 hb, fun k hk => Nat.lt_of_lt_of_le (h.2.2.2 k hk) hb.size⟩
theorem LoopMem.box (h : LoopMem base w PW v0 tr v2 ch v3 wa) {g : Nat} {cells : Array Value} (hg : w.heap[g]? = some (.cells cells 28 (0, 0))) (j : Nat) (u : Value) : LoopMem base (w.setCell ⟨g, j, none⟩ u) PW v0 tr v2 ch v3 wa :=
 ⟨Kd.R_set h.1 hg (by decide) j u, Kd.S_set h.2.1 hg (by decide) j u, Kd.S_set h.2.2.1 hg (by decide) j u, fun k hk => Nat.lt_of_lt_of_le (h.2.2.2 k hk) ((Below.refl 0 w).setCell (p := ⟨g, j, none⟩) (Nat.zero_le _) u).size⟩
theorem LoopMem.reads (h : LoopMem base w PW v0 tr v2 ch v3 wa) : ∃ A0 c0 A2 c2 A3 c3, v0 = .slice A0 tr.length c0 ∧ v2 = .slice A2 ch.length c2 ∧ v3 = .slice A3 wa.length c3 ∧ tr.length ≤ c0 ∧ ch.length ≤ c2 ∧ wa.length ≤ c3 ∧ Kd.C (Kd.int .i64) w A0 tr.length tr ∧ Kd.C k69 w A2 ch.length ch ∧ Kd.C k74 w A3 wa.length wa := by
 obtain ⟨h0, h2, h3, _⟩ := h
 obtain ⟨A0, c0, e0, l0, r0⟩ := Kd.R_reads h0
 obtain ⟨A2, c2, e2, l2, r2⟩ := Kd.S_reads h2
 obtain ⟨A3, c3, e3, l3, r3⟩ := Kd.S_reads h3
 exact ⟨A0, c0, A2, c2, A3, c3, e0, e2, e3, l0, l2, l3, r0, r2, r3⟩
theorem LoopMem.lend {A2 : Option Addr} {c2 : Nat} (h : LoopMem base w PW v0 tr (.slice A2 ch.length c2) ch v3 wa) (i : Int) (h0 : 0 ≤ i) (h1 : i < ch.length) :
  ∃ (gC : Nat) (A5 : Option Addr) (c5 : Nat) (oki : Nat → Prop), A2 = some ⟨gC, 0, none⟩ ∧ base ≤ gC ∧ (∃ cells, w.heap[gC]? = some (.cells cells 69 (0, 0))) ∧ (some gC ≠ v0.ownBlock ∧ ¬ PW gC) ∧
   Kd.R (Kd.int .i64) 3 w base oki (.slice A5 (rd_T69 ch i).f2.length c5) (rd_T69 ch i).f2 ∧ (∀ k, w.heap.size ≤ k → oki k) ∧ (∀ k, oki k → (some k ≠ v0.ownBlock ∧ ¬ PW k) ∧ k ≠ gC) ∧
   Kd.H k69 69 w base (fun k => some k ≠ v0.ownBlock ∧ ¬ PW k) (.slice (some ⟨gC, 0, none⟩) ch.length c2) ch i oki [.int .i64 (rd_T69 ch i).f0, .int .i64 (rd_T69 ch i).f1, .slice A5 (rd_T69 ch i).f2.length c5] := by
 obtain ⟨hR, hS, hW, hP⟩ := h
 obtain ⟨gC, cap, e, hbase, hlt, cells, hc⟩ := Kd.S_form hS (by omega)
 injection e with e1 e2 e3
 subst e1; subst e3
 have hgC := (Kd.S_R hS).1 gC (by simp [Value.ownBlock])
 obtain ⟨oki, c, _, hM, _, hoki, hH⟩ := Kd.S_lend hS z69 i h0 h1
 obtain ⟨v5, rfl, hv5⟩ := k69_openM hM
 obtain ⟨A5, c5, rfl⟩ := Kd.R_slice hv5
 refine ⟨gC, A5, c5, _, rfl, hbase, ⟨cells, hc⟩, hgC, Kd.R_mono hv5 (fun k hk => .inl hk), fun k hk => .inr ⟨⟨fun e => absurd hk (Nat.not_le.2 (Kd.R_lt hR k e.symm)), fun hp => absurd hk (Nat.not_le.2 (hP k hp))⟩, hk⟩, fun k hk => ?_, Kd.H_widen hH⟩
 ·rcases hk with hk | ⟨hk, hk2⟩
  ·exact hoki k hk
  ·exact ⟨hk, fun e => by omega⟩
theorem LoopMem.put {gC c2 c5 : Nat} {A5 : Option Addr} {oki : Nat → Prop} {w5 : World} {v6 : Value} {bs : List Int} (h : LoopMem base w PW v0 tr (.slice (some ⟨gC, 0, none⟩) ch.length c2) ch v3 wa) (i : Int) (h0 : 0 ≤ i) (h1 : i < ch.length)
  (hok : ∀ k, oki k → (some k ≠ v0.ownBlock ∧ ¬ PW k) ∧ k ≠ gC) (hgC : some gC ≠ v0.ownBlock ∧ ¬ PW gC) (hR5 : Kd.R (Kd.int .i64) 3 w base oki (.slice A5 (rd_T69 ch i).f2.length c5) (rd_T69 ch i).f2)
  (hH : Kd.H k69 69 w base (fun k => some k ≠ v0.ownBlock ∧ ¬ PW k) (.slice (some ⟨gC, 0, none⟩) ch.length c2) ch i oki [.int .i64 (rd_T69 ch i).f0, .int .i64 (rd_T69 ch i).f1, .slice A5 (rd_T69 ch i).f2.length c5])
  (hg : w.grownBy w5 (Value.slice A5 (rd_T69 ch i).f2.length c5).ownBlock) (hR6 : Kd.R (Kd.int .i64) 3 w5 base oki v6 bs) :
  w5.cell? ⟨gC, i.toNat * 3 + 2, none⟩ = some (.slice A5 (rd_T69 ch i).f2.length c5) ∧ w5.frozen? ⟨gC, i.toNat * 3 + 2, none⟩ = false ∧
   LoopMem base (w5.setCell ⟨gC, i.toNat * 3 + 2, none⟩ v6) PW v0 tr (.slice (some ⟨gC, 0, none⟩) ch.length c2) (ch.set i.toNat ⟨(rd_T69 ch i).f0, (rd_T69 ch i).f1, bs⟩) v3 wa := by
 obtain ⟨hR, hS, hW, hP⟩ := h
 have hrow : ∀ k, (Value.slice A5 (rd_T69 ch i).f2.length c5).ownBlock = some k → oki k := hR5.1
 have hH5 := Kd.H_grown hH hg hrow
 obtain ⟨hcell, hfr⟩ := Kd.H_at hH5 h0 h1
 have hsz : w5.heap.size ≤ (w5.setCell ⟨gC, i.toNat * 3 + 2, none⟩ v6).heap.size := ((Below.refl 0 w5).setCell (p := ⟨gC, i.toNat * 3 + 2, none⟩) (Nat.zero_le _) v6).size
 obtain ⟨A6, c6, e6⟩ := Kd.R_slice hR6
 subst e6
 obtain ⟨hS6, _⟩ := Kd.S_seg0 (seg := [.slice A6 bs.length c6]) (j := 2) (x' := (⟨(rd_T69 ch i).f0, (rd_T69 ch i).f1, bs⟩ : S69)) hH5 h0 h1 (Nat.le_refl 3) (k69_mkM w5 base oki ⟨(rd_T69 ch i).f0, (rd_T69 ch i).f1, bs⟩ hR6) (fun _ hk => hk)
 refine ⟨hcell 2 _ rfl, hfr 2, ?_, ?_, ?_, fun k hk => Nat.lt_of_lt_of_le (hP k hk) (Nat.le_trans hg.size hsz)⟩
 ·refine Kd.R_reok rfl (Kd.R_far (p := ⟨gC, i.toNat * 3 + 2, none⟩) (Kd.R_grown (Kd.R_tight rfl hR) hg (fun k hk e => ?_)) (fun k hk e => ?_) _) hR.1
  ·exact (hok k (hrow k e.symm)).1.1 hk
  ·exact hgC.1 (by rw [← hk, e])
 ·exact hS6
 ·exact Kd.S_far (p := ⟨gC, i.toNat * 3 + 2, none⟩) (Kd.S_grown hW hg (fun k hk e => (hok k (hrow k e.symm)).1.2 hk)) (fun k hk e => hgC.2 (by rw [show k = gC from e] at hk; exact hk)) _
theorem LoopMem.tray {A0 : Option Addr} {c0 : Nat} (h : LoopMem base w PW (.slice A0 tr.length c0) tr v2 ch v3 wa) (i : Int) (h0 : 0 ≤ i) (h1 : i < tr.length) (x : Int) :
  ∃ gT, A0 = some ⟨gT, 0, none⟩ ∧ base ≤ gT ∧ (∃ cells, w.heap[gT]? = some (.cells cells 3 (0, 0))) ∧ w.cell? ⟨gT, i.toNat, none⟩ = some (.int .i64 (rd tr i)) ∧ w.frozen? ⟨gT, i.toNat, none⟩ = false ∧
   LoopMem base (w.setCell ⟨gT, i.toNat, none⟩ (.int .i64 x)) PW (.slice A0 tr.length c0) (tr.set i.toNat x) v2 ch v3 wa := by
 obtain ⟨hR, hS, hW, hP⟩ := h
 obtain ⟨gT, cap, e, hbase, hlt, cells, hc⟩ := Kd.R_form hR (by omega)
 injection e with e1 e2 e3
 subst e1; subst e3
 obtain ⟨hc1, hf1⟩ := Kd.R_celln 0 hR i h0 h1
 have hgT : (Value.slice (some ⟨gT, 0, none⟩) tr.length c0).ownBlock = some gT := by simp [Value.ownBlock]
 refine ⟨gT, rfl, hbase, ⟨cells, hc⟩, hc1, hf1, Kd.R_putn hR i x, Kd.S_far (p := ⟨gT, i.toNat, none⟩) hS (fun k hk e => hk.1 (by rw [e]; exact hgT.symm)) _, Kd.S_far (p := ⟨gT, i.toNat, none⟩) hW (fun k hk e => hR.1 gT hgT (by rw [show k = gT from e] at hk; exact hk)) _, fun k hk => Nat.lt_of_lt_of_le (hP k hk) ((Below.refl 0 w).setCell (p := ⟨gT, i.toNat, none⟩) (Nat.zero_le _) _).size⟩
end
theorem blk_put4 {w : World} {g t : Nat} {c0 c1 c2 c3 : Value} (h : w.heap[g]? = some (.cells #[c0, c1, c2, c3] t (0, 0))) (u0 u1 u2 u3 : Value) : ((((w.setCell ⟨g, 0, none⟩ u0).setCell ⟨g, 1, none⟩ u1).setCell ⟨g, 2, none⟩ u2).setCell ⟨g, 3, none⟩ u3).heap[g]? = some (.cells #[u0, u1, u2, u3] t (0, 0)) :=
 blk_put (blk_put (blk_put (blk_put h 0 u0 rfl) 1 u1 rfl) 2 u2 rfl) 3 u3 rfl
theorem cells4 {w : World} {g t : Nat} {c0 c1 c2 c3 : Value} (h : w.heap[g]? = some (.cells #[c0, c1, c2, c3] t (0, 0))) : w.cell? ⟨g, 0, none⟩ = some c0 ∧ w.cell? ⟨g, 1, none⟩ = some c1 ∧ w.cell? ⟨g, 2, none⟩ = some c2 ∧ w.cell? ⟨g, 3, none⟩ = some c3 :=
 ⟨(blk_cell h 0).trans rfl, (blk_cell h 1).trans rfl, (blk_cell h 2).trans rfl, (blk_cell h 3).trans rfl⟩
theorem below_put4 {w W : World} {g : Nat} (h : Below w.heap.size w W) (hg : w.heap.size ≤ g) (u0 u1 u2 u3 : Value) : Below w.heap.size w ((((W.setCell ⟨g, 0, none⟩ u0).setCell ⟨g, 1, none⟩ u1).setCell ⟨g, 2, none⟩ u2).setCell ⟨g, 3, none⟩ u3) := zS (zS (zS (zS h hg) hg) hg) hg
theorem blk_far4 {w : World} {g g2 : Nat} {o : Obj} (h : w.heap[g]? = some o) (hn : g ≠ g2) (u0 u1 u2 u3 : Value) : ((((w.setCell ⟨g2, 0, none⟩ u0).setCell ⟨g2, 1, none⟩ u1).setCell ⟨g2, 2, none⟩ u2).setCell ⟨g2, 3, none⟩ u3).heap[g]? = some o :=
 (Below.heap_setCell _ ⟨g2, 3, none⟩ u3 g hn).trans ((Below.heap_setCell _ ⟨g2, 2, none⟩ u2 g hn).trans ((Below.heap_setCell _ ⟨g2, 1, none⟩ u1 g hn).trans ((Below.heap_setCell _ ⟨g2, 0, none⟩ u0 g hn).trans h)))
def LoopRd (b lo hi : Nat) (w : World) (v0 : Value) (tr : List Int) (v2 : Value) (ch : List S69) (v3 : Value) (wa : List S74) : Prop :=
 hi ≤ w.heap.size ∧ Kd.R (Kd.int .i64) 3 w b (fun k => lo ≤ k ∧ k < hi) v0 tr ∧ Kd.S k69 69 w b (fun k => lo ≤ k ∧ k < hi) v2 ch ∧ Kd.R k74 74 w b (fun k => lo ≤ k ∧ k < hi) v3 wa
section
variable {b base lo hi lo2 hi2 g : Nat} {w w1 W : World} {PW ok0 ok2 ok3 : Nat → Prop} {v v0 v2 v3 : Value} {tr l : List Int} {ch : List S69} {wa : List S74} {A0 A2 A3 : Option Addr} {c0 c2 c3 n0 n2 n3 : Nat}
theorem LoopRd.new (h0 : Kd.R (Kd.int .i64) 3 w1 W.heap.size ok0 v0 tr) (h2 : Kd.S k69 69 w1 W.heap.size ok2 v2 ch) (h3 : Kd.R k74 74 w1 W.heap.size ok3 v3 wa) (hb : b ≤ W.heap.size) : ∃ lo hi, (lo = W.heap.size ∧ hi = w1.heap.size) ∧ LoopRd b lo hi w1 v0 tr v2 ch v3 wa :=
 ⟨_, _, ⟨rfl, rfl⟩, Nat.le_refl _, Kd.R_lower (Kd.R_mono (Kd.R_bound h0) (fun k hk => ⟨hk.2.1, hk.2.2.1⟩)) hb, Kd.S_lower (Kd.S_mono (Kd.S_bound h2) (fun k hk => ⟨hk.2.1, hk.2.2.1⟩)) hb, Kd.R_lower (Kd.R_mono (Kd.R_bound h3) (fun k hk => ⟨hk.2.1, hk.2.2.1⟩)) hb⟩
theorem LoopRd.step (h : LoopRd b lo hi w v0 tr v2 ch v3 wa) (hs : w.heap.size ≤ w1.heap.size) (hm : ∀ k, lo ≤ k → k < hi → w1.heap[k]? = w.heap[k]?) : LoopRd b lo hi w1 v0 tr v2 ch v3 wa :=
 ⟨Nat.le_trans h.1 hs, Kd.R_move h.2.1 (fun k hk => hm k hk.1 hk.2), Kd.S_move h.2.2.1 (fun k hk => hm k hk.1 hk.2), Kd.R_move h.2.2.2 (fun k hk => hm k hk.1 hk.2)⟩
theorem LoopRd.later (h : LoopRd b lo hi w v0 tr v2 ch v3 wa) (hb : Below w.heap.size w w1) : LoopRd b lo hi w1 v0 tr v2 ch v3 wa := h.step hb.size (fun k _ h1 => hb.block k (Nat.lt_of_lt_of_le h1 h.1))
theorem LoopRd.kept (h : LoopRd b lo hi w v0 tr v2 ch v3 wa) (hk : Kept w w1 (fun k => lo2 ≤ k ∧ k < hi2)) (hd : hi ≤ lo2 ∨ hi2 ≤ lo) : LoopRd b lo hi w1 v0 tr v2 ch v3 wa :=
 h.step hk.1 (fun k h0 h1 => hk.2 k (Nat.lt_of_lt_of_le h1 h.1) (fun h2 => by omega))
theorem LoopRd.put4 (h : LoopRd b lo hi w v0 tr v2 ch v3 wa) (hg : hi ≤ g) (u0 u1 u2 u3 : Value) : LoopRd b lo hi ((((w.setCell ⟨g, 0, none⟩ u0).setCell ⟨g, 1, none⟩ u1).setCell ⟨g, 2, none⟩ u2).setCell ⟨g, 3, none⟩ u3) v0 tr v2 ch v3 wa :=
 h.step (by simp [World.setCell]) (fun k _ h1 => (Below.heap_setCell _ ⟨g, 3, none⟩ u3 k (by show k ≠ g; omega)).trans ((Below.heap_setCell _ ⟨g, 2, none⟩ u2 k (by show k ≠ g; omega)).trans ((Below.heap_setCell _ ⟨g, 1, none⟩ u1 k (by show k ≠ g; omega)).trans (Below.heap_setCell _ ⟨g, 0, none⟩ u0 k (by show k ≠ g; omega)))))
theorem LoopRd.reads (h : LoopRd b lo hi w v0 tr v2 ch v3 wa) : ∃ A0 c0 A2 c2 A3 c3, v0 = .slice A0 tr.length c0 ∧ v2 = .slice A2 ch.length c2 ∧ v3 = .slice A3 wa.length c3 ∧ tr.length ≤ c0 ∧ ch.length ≤ c2 ∧ wa.length ≤ c3 ∧ Kd.C (Kd.int .i64) w A0 tr.length tr ∧ Kd.C k69 w A2 ch.length ch ∧ Kd.C k74 w A3 wa.length wa := by
 obtain ⟨_, h0, h2, h3⟩ := h
 obtain ⟨A0, c0, e0, l0, r0⟩ := Kd.R_reads h0
 obtain ⟨A2, c2, e2, l2, r2⟩ := Kd.S_reads h2
 obtain ⟨A3, c3, e3, l3, r3⟩ := Kd.R_reads h3
 exact ⟨A0, c0, A2, c2, A3, c3, e0, e2, e3, l0, l2, l3, r0, r2, r3⟩
theorem LoopRd.rd (h : LoopRd b lo hi w (.slice A0 n0 c0) tr (.slice A2 n2 c2) ch (.slice A3 n3 c3) wa) : n0 ≤ c0 ∧ Kd.C (Kd.int .i64) w A0 n0 tr ∧ n2 ≤ c2 ∧ Kd.C k69 w A2 n2 ch ∧ n3 ≤ c3 ∧ Kd.C k74 w A3 n3 wa := by
 obtain ⟨_, h0, h2, h3⟩ := h
 obtain ⟨e0, l0, r0⟩ := Kd.R_reads' h0
 obtain ⟨e2, l2, r2⟩ := Kd.S_reads' h2
 obtain ⟨e3, l3, r3⟩ := Kd.R_reads' h3
 subst e0 e2 e3
 exact ⟨l0, r0, l2, r2, l3, r3⟩
end
set_option maxHeartbeats 16000000 in
set_option maxRecDepth 100000 in
theorem laws_sameLoop.eq (A0 : Option Addr) (a0 : Nat) (A2 : Option Addr) (a2 : Nat) (A3 : Option Addr) (a3 : Nat) (B0 : Option Addr) (b0 : Nat) (B2 : Option Addr) (b2 : Nat) (B3 : Option Addr) (b3 : Nat) (l0 : List Int) (T : Int) (l2 : List (S69)) (l3 : List (S74)) (w : World)
 (ra0 : Kd.C (Kd.int .i64) w A0 l0.length l0) (ra2 : Kd.C k69 w A2 l2.length l2) (ra3 : Kd.C k74 w A3 l3.length l3) (rb0 : Kd.C (Kd.int .i64) w B0 l0.length l0) (rb2 : Kd.C k69 w B2 l2.length l2) (rb3 : Kd.C k74 w B3 l3.length l3) :
 Calls Try.prog 25 #[.agg #[.slice A0 l0.length a0, .int .i64 T, .slice A2 l2.length a2, .slice A3 l3.length a3], .agg #[.slice B0 l0.length b0, .int .i64 T, .slice B2 l2.length b2, .slice B3 l3.length b3]] w fun e w' => e = .returned (.bool true) ∧ Below w.heap.size w w' := by
 have hu28 := Try.underlying28; have L2 := zK ra2.2.1; have L3 := zK ra3.2.1; have RA0 := zK ra0; have RA2 := zK ra2; have RA3 := zK ra3; have RB0 := zK rb0; have RB2 := zK rb2; have RB3 := zK rb3; clear ra0 ra2 ra3 rb0 rb2 rb3
 have HB := zK (Below.refl w.heap.size w)
 have bT : (T != T) = false := bne_self_eq_false T
 go_enter Try.func25, Try.ntmps25
 go_wp2_with (first
 | ((with_reducible refine gate_dst (N := 2) rfl ?_); refine zX 2 #[.slice A0 l0.length a0, .int .i64 T, .slice A2 l2.length a2, .slice A3 l3.length a3] 28 ?_; intro ga hg w1 hbox hb; have HA := zK hbox; replace HB := zK (below_step HB.out hb); clear hg hbox hb)
 | ((with_reducible refine gate_dst (N := 3) rfl ?_); refine zX 3 #[.slice B0 l0.length b0, .int .i64 T, .slice B2 l2.length b2, .slice B3 l3.length b3] 28 ?_; intro gb hg w2 hbox hb; have HD := zK hbox; replace HA := zK (blk_below HA.out hb); replace HB := zK (below_step HB.out hb); clear hg hbox hb; obtain ⟨hz0, hz1, hz2, hz3⟩ := cells4 HA.out; obtain ⟨hy0, hy1, hy2, hy3⟩ := cells4 HD.out)
 | ((with_reducible refine gate_callee (f := 27) rfl ?_); refine goesL_ (some 11) rfl rfl Try.func27 (by kernel_rfl) rfl #[.slice A0 l0.length a0, .slice B0 l0.length b0] rfl zg ?_; (with_reducible refine (laws_sameInts.eq A0 a0 B0 b0 l0 _ (Kd.C_below RA0.out HB.out) (Kd.C_below RB0.out HB.out)).mono ?_); rintro e w3 ⟨rfl, hd⟩; refine ⟨_, rfl, ?_⟩; replace HA := zK (blk_below HA.out hd.below); replace HD := zK (blk_below HD.out hd.below); replace HB := zK (below_step HB.out hd.below); clear hd hz0 hz1 hz2 hz3 hy0 hy1 hy2 hy3; obtain ⟨hz0, hz1, hz2, hz3⟩ := cells4 HA.out; obtain ⟨hy0, hy1, hy2, hy3⟩ := cells4 HD.out)
 )
 clear hz0 hz1 hz2 hz3 hy0 hy1 hy2 hy3
 go_loopg [5] l2.length (fun kq v5 w' => ∃ j : Int, v5 = .int .i64 j ∧ Aside0 (0 ≤ j ∧ j + (kq : Int) = (l2.length : Int)) ∧ Aside0 (w'.heap[ga]? = some (.cells #[.slice A0 l0.length a0, .int .i64 T, .slice A2 l2.length a2, .slice A3 l3.length a3] 28 (0, 0))) ∧ Aside0 (w'.heap[gb]? = some (.cells #[.slice B0 l0.length b0, .int .i64 T, .slice B2 l2.length b2, .slice B3 l3.length b3] 28 (0, 0))) ∧ Aside0 (Below w.heap.size w w'))
 case atStart => exact ⟨0, rfl, ⟨by omega⟩, HA, HD, HB⟩
 case round =>
 clear HA HD HB
 obtain ⟨j, rfl, HJ, HA, HD, HB⟩ := hrel
 cases gk with
 | zero =>
  have d1 : decide (j < (l2.length : Int)) = false := decide_eq_false (by have := HJ.out; omega)
  obtain ⟨hz0, hz1, hz2, hz3⟩ := cells4 HA.out
  go_wp2
  go_loopg [6] l3.length (fun kq v6 w' => ∃ j : Int, v6 = .int .i64 j ∧ Aside0 (0 ≤ j ∧ j + (kq : Int) = (l3.length : Int)) ∧ Aside0 (w'.heap[ga]? = some (.cells #[.slice A0 l0.length a0, .int .i64 T, .slice A2 l2.length a2, .slice A3 l3.length a3] 28 (0, 0))) ∧ Aside0 (w'.heap[gb]? = some (.cells #[.slice B0 l0.length b0, .int .i64 T, .slice B2 l2.length b2, .slice B3 l3.length b3] 28 (0, 0))) ∧ Aside0 (Below w.heap.size w w'))
  case atStart => exact ⟨0, rfl, ⟨by omega⟩, HA, HD, HB⟩
  case round =>
  clear HA HD HB
  obtain ⟨j, rfl, HJ, HA, HD, HB⟩ := hrel
  cases gk with
  | zero =>
   have d1 : decide (j < (l3.length : Int)) = false := decide_eq_false (by have := HJ.out; omega)
   obtain ⟨hz0, hz1, hz2, hz3⟩ := cells4 HA.out
   go_wp2
   go_ret
   exact ⟨rfl, HB.out⟩
  | succ k1 =>
   have p1 : 0 ≤ j := HJ.out.1
   have q1 : j < (l3.length : Int) := by have := HJ.out; omega
   obtain ⟨ag, A0f, A0fc, e0, aa, ab, hl0, ai⟩ := at_T74 RA3.out j p1 q1
   cases e0
   replace aa := (HB.out.cell (World.block_lt_of_cell? w _ aa)).trans aa
   replace ab := (HB.out.cell (World.block_lt_of_cell? w _ ab)).trans ab
   have HI0 := zK ai; clear hl0 ai
   obtain ⟨ah, A1f, A1fc, e1, ac, ad, hl1, aj⟩ := at_T74 RB3.out j p1 q1
   cases e1
   replace ac := (HB.out.cell (World.block_lt_of_cell? w _ ac)).trans ac
   replace ad := (HB.out.cell (World.block_lt_of_cell? w _ ad)).trans ad
   have HI1 := zK aj; clear hl1 aj
   have d1 : decide (j < (l3.length : Int)) = true := decide_eq_true q1
   replace p1 := eq_true p1; replace q1 := eq_true q1
   have b0 : ((rd_T74 l3 j).f0 != (rd_T74 l3 j).f0) = false := bne_self_eq_false _
   obtain ⟨hz0, hz1, hz2, hz3⟩ := cells4 HA.out
   go_wp2
   clear hz0 hz1 hz2 hz3
   replace HA := zK (zD HA.out)
   replace HD := zK (zD HD.out)
   replace HB := zK (zE HB.out)
   replace aa : wr.drew.cell? _ = _ := aa
   replace ab : wr.drew.cell? _ = _ := ab
   replace ac : wr.drew.cell? _ = _ := ac
   replace ad : wr.drew.cell? _ = _ := ad
   refine start_ (n := 29) (S := fun w' => w'.cell? ⟨ga, 3, none⟩ = some (.slice (some ag) l3.length a3) ∧ w'.cell? ⟨gb, 3, none⟩ = some (.slice (some ah) l3.length b3) ∧ w'.cell? (ag.add (j.toNat * 2)) = some (.int .i64 (rd_T74 l3 j).f0) ∧ w'.cell? ⟨(ag.add (j.toNat * 2)).block, (ag.add (j.toNat * 2)).off + 1, none⟩ = some (.slice A0f (rd_T74 l3 j).f1.length A0fc) ∧ w'.cell? (ah.add (j.toNat * 2)) = some (.int .i64 (rd_T74 l3 j).f0) ∧ w'.cell? ⟨(ah.add (j.toNat * 2)).block, (ah.add (j.toNat * 2)).off + 1, none⟩ = some (.slice A1f (rd_T74 l3 j).f1.length A1fc)) (ds := []) (zv 29 0) (by kernel_rfl) rfl rfl ⟨(cells4 HA.out).2.2.2, (cells4 HD.out).2.2.2, aa, ab, ac, ad⟩ (fun hHeld => ?_)
   generalize wr.drew = w4 at HA HD HB aa ab ac ad hHeld ⊢
   refine zu 0 (some 96) (zv 29 1) (by kernel_rfl) ?_
   refine zu 2 (some 98) (zv 29 5) (by kernel_rfl) ?_
   refine zu 6 (some 102) (zv 29 69) (by kernel_rfl) ?_
   refine zu 8 (some 104) (zv 29 325) (by kernel_rfl) ?_
   refine zt 1 (some 97) (zv 29 327) (by kernel_rfl) hHeld ?_
   refine zu 3 (some 99) (zv 29 335) (by kernel_rfl) ?_
   refine zu 4 (some 100) (zv 29 351) (by kernel_rfl) ?_
   refine zt 5 (some 101) (zv 29 383) (by kernel_rfl) hHeld ?_
   refine zt 7 (some 103) (zv 29 511) (by kernel_rfl) hHeld ?_
   refine zu 9 (some 105) (zv 29 1023) (by kernel_rfl) ?_
   refine zu 10 (some 106) (zv 29 2047) (by kernel_rfl) ?_
   refine zt 11 (some 107) (zv 29 4095) (by kernel_rfl) hHeld ?_
   refine zu 12 (some 108) (zv 29 8191) (by kernel_rfl) ?_
   refine zu 13 (some 109) (zv 29 16383) (by kernel_rfl) ?_
   refine zu 14 (some 110) (zv 29 32767) (by kernel_rfl) ?_
   refine zu 16 (some 112) (zv 29 98303) (by kernel_rfl) ?_
   refine zu 20 (some 116) (zv 29 1146879) (by kernel_rfl) ?_
   refine zu 22 (some 118) (zv 29 5341183) (by kernel_rfl) ?_
   refine zt 15 (some 111) (zv 29 5373951) (by kernel_rfl) hHeld ?_
   refine zu 17 (some 113) (zv 29 5505023) (by kernel_rfl) ?_
   refine zu 18 (some 114) (zv 29 5767167) (by kernel_rfl) ?_
   refine zt 19 (some 115) (zv 29 6291455) (by kernel_rfl) hHeld ?_
   refine zt 21 (some 117) (zv 29 8388607) (by kernel_rfl) hHeld ?_
   refine zu 23 (some 119) (zv 29 16777215) (by kernel_rfl) ?_
   refine zu 24 (some 120) (zv 29 33554431) (by kernel_rfl) ?_
   refine zt 25 (some 121) (zv 29 67108863) (by kernel_rfl) hHeld ?_
   refine one_ (i := 26) (N := some 122) (zv 29 134217727) rfl rfl (by kernel_rfl) (by decide) (fun K hK => ?_)
   refine goes_ Try.func27 (by kernel_rfl) rfl #[.slice A0f (rd_T74 l3 j).f1.length A0fc, .slice A1f (rd_T74 l3 j).f1.length A1fc] (by rfl) rfl rfl (by simp only [List.map_toArray, List.map_cons, List.map_nil]; rfl) ?_
   with_reducible refine (laws_sameInts.eq A0f A0fc A1f A1fc (rd_T74 l3 j).f1 _ (Kd.C_below HI0.out HB.out) (Kd.C_below HI1.out HB.out)).mono ?_
   rintro e w5 ⟨rfl, hd⟩
   refine ⟨_, rfl, ?_⟩
   replace HA := zK (blk_below HA.out hd.below)
   replace HD := zK (blk_below HD.out hd.below)
   replace HB := zK (below_step HB.out hd.below)
   refine hK.out _ _ ⟨(cells4 HA.out).2.2.2, (cells4 HD.out).2.2.2, (hd.below.cell (World.block_lt_of_cell? _ _ aa)).trans aa, (hd.below.cell (World.block_lt_of_cell? _ _ ab)).trans ab, (hd.below.cell (World.block_lt_of_cell? _ _ ac)).trans ac, (hd.below.cell (World.block_lt_of_cell? _ _ ad)).trans ad⟩ (fun hHeld => ?_)
   clear hK K
   refine norm_ (a' := ?_) ?_ ?_
   rotate_left
   ·show Act.put _ (some 122) _ = _
    simp only [Act.put, zp, zq, zr, i64_w, i32_w]
    rfl
   refine zu 27 (some 123) (zv 29 268435455) (by kernel_rfl) ?_
   refine zu 28 (some 124) (zv 29 536870911) (by kernel_rfl) ?_
   refine done_ (by kernel_rfl) ?_
   go_wp2
   go_roundg k1
   case measure => omega
   case rel => exact ⟨_, rfl, ⟨wr1 HJ.out L3.out⟩, HA, HD, HB⟩
 | succ k1 =>
  have p1 : 0 ≤ j := HJ.out.1
  have q1 : j < (l2.length : Int) := by have := HJ.out; omega
  obtain ⟨ag, A0f, A0fc, e0, aa, ab, ae, hl0, ai⟩ := at_T69 RA2.out j p1 q1
  cases e0
  replace aa := (HB.out.cell (World.block_lt_of_cell? w _ aa)).trans aa
  replace ab := (HB.out.cell (World.block_lt_of_cell? w _ ab)).trans ab
  replace ae := (HB.out.cell (World.block_lt_of_cell? w _ ae)).trans ae
  have HI0 := zK ai; clear hl0 ai
  obtain ⟨ah, A1f, A1fc, e1, ac, ad, af, hl1, aj⟩ := at_T69 RB2.out j p1 q1
  cases e1
  replace ac := (HB.out.cell (World.block_lt_of_cell? w _ ac)).trans ac
  replace ad := (HB.out.cell (World.block_lt_of_cell? w _ ad)).trans ad
  replace af := (HB.out.cell (World.block_lt_of_cell? w _ af)).trans af
  have HI1 := zK aj; clear hl1 aj
  have d1 : decide (j < (l2.length : Int)) = true := decide_eq_true q1
  replace p1 := eq_true p1; replace q1 := eq_true q1
  have b0 : ((rd_T69 l2 j).f0 != (rd_T69 l2 j).f0) = false := bne_self_eq_false _
  have b1 : ((rd_T69 l2 j).f1 != (rd_T69 l2 j).f1) = false := bne_self_eq_false _
  obtain ⟨hz0, hz1, hz2, hz3⟩ := cells4 HA.out
  go_wp2
  clear hz0 hz1 hz2 hz3
  replace HA := zK (zD HA.out)
  replace HD := zK (zD HD.out)
  replace HB := zK (zE HB.out)
  replace aa : wr.drew.cell? _ = _ := aa
  replace ab : wr.drew.cell? _ = _ := ab
  replace ae : wr.drew.cell? _ = _ := ae
  replace ac : wr.drew.cell? _ = _ := ac
  replace ad : wr.drew.cell? _ = _ := ad
  replace af : wr.drew.cell? _ = _ := af
  refine start_ (n := 44) (S := fun w' => w'.cell? ⟨ga, 2, none⟩ = some (.slice (some ag) l2.length a2) ∧ w'.cell? ⟨gb, 2, none⟩ = some (.slice (some ah) l2.length b2) ∧ w'.cell? (ag.add (j.toNat * 3)) = some (.int .i64 (rd_T69 l2 j).f0) ∧ w'.cell? ⟨(ag.add (j.toNat * 3)).block, (ag.add (j.toNat * 3)).off + 1, none⟩ = some (.int .i64 (rd_T69 l2 j).f1) ∧ w'.cell? ⟨(ag.add (j.toNat * 3)).block, (ag.add (j.toNat * 3)).off + 2, none⟩ = some (.slice A0f (rd_T69 l2 j).f2.length A0fc) ∧ w'.cell? (ah.add (j.toNat * 3)) = some (.int .i64 (rd_T69 l2 j).f0) ∧ w'.cell? ⟨(ah.add (j.toNat * 3)).block, (ah.add (j.toNat * 3)).off + 1, none⟩ = some (.int .i64 (rd_T69 l2 j).f1) ∧ w'.cell? ⟨(ah.add (j.toNat * 3)).block, (ah.add (j.toNat * 3)).off + 2, none⟩ = some (.slice A1f (rd_T69 l2 j).f2.length A1fc)) (ds := []) (zv 44 0) (by kernel_rfl) rfl rfl ⟨(cells4 HA.out).2.2.1, (cells4 HD.out).2.2.1, aa, ab, ae, ac, ad, af⟩ (fun hHeld => ?_)
  generalize wr.drew = w4 at HA HD HB aa ab ae ac ad af hHeld ⊢
  refine zu 0 (some 45) (zv 44 1) (by kernel_rfl) ?_
  refine zu 2 (some 47) (zv 44 5) (by kernel_rfl) ?_
  refine zu 6 (some 51) (zv 44 69) (by kernel_rfl) ?_
  refine zu 8 (some 53) (zv 44 325) (by kernel_rfl) ?_
  refine zt 1 (some 46) (zv 44 327) (by kernel_rfl) hHeld ?_
  refine zu 3 (some 48) (zv 44 335) (by kernel_rfl) ?_
  refine zu 4 (some 49) (zv 44 351) (by kernel_rfl) ?_
  refine zt 5 (some 50) (zv 44 383) (by kernel_rfl) hHeld ?_
  refine zt 7 (some 52) (zv 44 511) (by kernel_rfl) hHeld ?_
  refine zu 9 (some 54) (zv 44 1023) (by kernel_rfl) ?_
  refine zu 10 (some 55) (zv 44 2047) (by kernel_rfl) ?_
  refine zt 11 (some 56) (zv 44 4095) (by kernel_rfl) hHeld ?_
  refine zu 12 (some 57) (zv 44 8191) (by kernel_rfl) ?_
  refine zu 13 (some 58) (zv 44 16383) (by kernel_rfl) ?_
  refine zu 14 (some 59) (zv 44 32767) (by kernel_rfl) ?_
  refine zu 16 (some 61) (zv 44 98303) (by kernel_rfl) ?_
  refine zu 20 (some 65) (zv 44 1146879) (by kernel_rfl) ?_
  refine zu 22 (some 67) (zv 44 5341183) (by kernel_rfl) ?_
  refine zt 15 (some 60) (zv 44 5373951) (by kernel_rfl) hHeld ?_
  refine zu 17 (some 62) (zv 44 5505023) (by kernel_rfl) ?_
  refine zu 18 (some 63) (zv 44 5767167) (by kernel_rfl) ?_
  refine zt 19 (some 64) (zv 44 6291455) (by kernel_rfl) hHeld ?_
  refine zt 21 (some 66) (zv 44 8388607) (by kernel_rfl) hHeld ?_
  refine zu 23 (some 68) (zv 44 16777215) (by kernel_rfl) ?_
  refine zu 24 (some 69) (zv 44 33554431) (by kernel_rfl) ?_
  refine zt 25 (some 70) (zv 44 67108863) (by kernel_rfl) hHeld ?_
  refine zu 26 (some 71) (zv 44 134217727) (by kernel_rfl) ?_
  refine zu 27 (some 72) (zv 44 268435455) (by kernel_rfl) ?_
  refine zu 28 (some 73) (zv 44 536870911) (by kernel_rfl) ?_
  refine zu 29 (some 74) (zv 44 1073741823) (by kernel_rfl) ?_
  refine zu 31 (some 76) (zv 44 3221225471) (by kernel_rfl) ?_
  refine zu 35 (some 80) (zv 44 37580963839) (by kernel_rfl) ?_
  refine zu 37 (some 82) (zv 44 175019917311) (by kernel_rfl) ?_
  refine zt 30 (some 75) (zv 44 176093659135) (by kernel_rfl) hHeld ?_
  refine zu 32 (some 77) (zv 44 180388626431) (by kernel_rfl) ?_
  refine zu 33 (some 78) (zv 44 188978561023) (by kernel_rfl) ?_
  refine zt 34 (some 79) (zv 44 206158430207) (by kernel_rfl) hHeld ?_
  refine zt 36 (some 81) (zv 44 274877906943) (by kernel_rfl) hHeld ?_
  refine zu 38 (some 83) (zv 44 549755813887) (by kernel_rfl) ?_
  refine zu 39 (some 84) (zv 44 1099511627775) (by kernel_rfl) ?_
  refine zt 40 (some 85) (zv 44 2199023255551) (by kernel_rfl) hHeld ?_
  refine one_ (i := 41) (N := some 86) (zv 44 4398046511103) rfl rfl (by kernel_rfl) (by decide) (fun K hK => ?_)
  refine goes_ Try.func27 (by kernel_rfl) rfl #[.slice A0f (rd_T69 l2 j).f2.length A0fc, .slice A1f (rd_T69 l2 j).f2.length A1fc] (by rfl) rfl rfl (by simp only [List.map_toArray, List.map_cons, List.map_nil]; rfl) ?_
  with_reducible refine (laws_sameInts.eq A0f A0fc A1f A1fc (rd_T69 l2 j).f2 _ (Kd.C_below HI0.out HB.out) (Kd.C_below HI1.out HB.out)).mono ?_
  rintro e w5 ⟨rfl, hd⟩
  refine ⟨_, rfl, ?_⟩
  replace HA := zK (blk_below HA.out hd.below)
  replace HD := zK (blk_below HD.out hd.below)
  replace HB := zK (below_step HB.out hd.below)
  refine hK.out _ _ ⟨(cells4 HA.out).2.2.1, (cells4 HD.out).2.2.1, (hd.below.cell (World.block_lt_of_cell? _ _ aa)).trans aa, (hd.below.cell (World.block_lt_of_cell? _ _ ab)).trans ab, (hd.below.cell (World.block_lt_of_cell? _ _ ae)).trans ae, (hd.below.cell (World.block_lt_of_cell? _ _ ac)).trans ac, (hd.below.cell (World.block_lt_of_cell? _ _ ad)).trans ad, (hd.below.cell (World.block_lt_of_cell? _ _ af)).trans af⟩ (fun hHeld => ?_)
  clear hK K
  refine norm_ (a' := ?_) ?_ ?_
  rotate_left
  ·show Act.put _ (some 86) _ = _
   simp only [Act.put, zp, zq, zr, i64_w, i32_w]
   rfl
  refine zu 42 (some 87) (zv 44 8796093022207) (by kernel_rfl) ?_
  refine zu 43 (some 88) (zv 44 17592186044415) (by kernel_rfl) ?_
  refine done_ (by kernel_rfl) ?_
  go_wp2
  go_roundg k1
  case measure => omega
  case rel => exact ⟨_, rfl, ⟨wr1 HJ.out L2.out⟩, HA, HD, HB⟩
mutual
def spec_l05Copy.l0 : Nat → List (S69) → Int → List Int → Int → List (S69) → List (S74) → Option (List Int × Int × (List (S69)) × (List (S74)))
 | 0, _, _, _, _, _, _ => none
 | k + 1, a, b, c, d, e, f => if b < (e.length : Int) then (if 0 ≤ b then ((some (([] : List Int) : List Int)).bind fun y194 => (if y194.length + ((rd_T69 e b).f2).length < 17592186044416 then (if a.length < 3518437208883 then (spec_l05Copy.l0 k (a ++ [(⟨(rd_T69 e b).f0, (rd_T69 e b).f1, (y194 ++ ((rd_T69 e b).f2))⟩ : S69)]) (wrap64 (b + 1)) c d e f) else (none)) else (none))) else (none)) else (spec_l05Copy.l1 k (([] : List (S74))) 0 c d a f)
def spec_l05Copy.l1 : Nat → List (S74) → Int → List Int → Int → List (S69) → List (S74) → Option (List Int × Int × (List (S69)) × (List (S74)))
 | 0, _, _, _, _, _, _ => none
 | k + 1, a, b, c, d, e, f => if b < (f.length : Int) then (if 0 ≤ b then ((some (([] : List Int) : List Int)).bind fun y208 => (if y208.length + ((rd_T74 f b).f1).length < 17592186044416 then (if a.length < 4398046511104 then (spec_l05Copy.l1 k (a ++ [(⟨(rd_T74 f b).f0, (y208 ++ ((rd_T74 f b).f1))⟩ : S74)]) (wrap64 (b + 1)) c d e f) else (none)) else (none))) else (none)) else (some (c, d, e, a))
end
def spec_l05Copy.f (k : Nat) (a : List Int) (b : Int) (c : List (S69)) (d : List (S74)) : Option (List Int × Int × (List (S69)) × (List (S74))) := (some (([] : List Int) : List Int)).bind fun y183 => (if y183.length + a.length < 17592186044416 then (spec_l05Copy.l0 k (([] : List (S69))) 0 (y183 ++ a) b c d) else (none))
set_option maxHeartbeats 8000000 in
set_option maxRecDepth 100000 in
theorem spec_l05Copy.calls2 (k : Nat) (bb : Option Addr) (bc : Nat) (aI : List Int) (a0_1 : Int) (a4 : Option Addr) (aA : Nat) (ae : List (S69)) (az : Option Addr) (aw : Nat) (af : List (S74)) (r1 : List Int) (r2 : Int) (r3 : List (S69)) (r4 : List (S74)) (w : World) (ce : Kd.C (Kd.int .i64) w bb aI.length aI) (hc0_0 : aI.length ≤ bc) (cf : Kd.C k69 w a4 ae.length ae) (hc0_2 : ae.length ≤ aA) (cg : Kd.C k74 w az af.length af) (hc0_3 : af.length ≤ aw) (h : spec_l05Copy.f k aI a0_1 ae af = some (r1, r2, r3, r4)) :
  Calls Try.prog 68 #[.agg #[.slice bb aI.length bc, .int .i64 a0_1, .slice a4 ae.length aA, .slice az af.length aw]] w fun e w' => ∃ (v0_ v2_ v3_ : Value) (N_ : Nat), e = .returned (.agg #[v0_, .int .i64 r2, v2_, v3_]) ∧ Kd.R (Kd.int .i64) 3 w' w.heap.size (fun _ => True) v0_ r1 ∧ Kd.S k69 69 w' w.heap.size (fun k_ => some k_ ≠ (v0_ : Value).ownBlock ∧ k_ < N_) v2_ r3 ∧ Kd.S k74 74 w' N_ (fun k_ => some k_ ≠ (v0_ : Value).ownBlock) v3_ r4 ∧ w.heap.size ≤ N_ ∧ Below w.heap.size w w' := by
 have hu28 := Try.underlying28; have hu69 := Try.underlying69; have hu74 := Try.underlying74; have cx := zK ce; have HC0_0 := zK hc0_0; clear ce hc0_0; have cy := zK cf; have HC0_2 := zK hc0_2; clear cf hc0_2; have cz := zK cg; have HC0_3 := zK hc0_3; clear cg hc0_3
 have HB := zK (Below.refl w.heap.size w)
 have H := h; unfold spec_l05Copy.f at H
 clear h
 obtain ⟨bo, bG⟩ : ∃ y_ : List Int, y_ = (([] : List Int)) := ⟨_, rfl⟩
 replace H : (if bo.length + aI.length < 17592186044416 then (spec_l05Copy.l0 k (([] : List (S69))) 0 (bo ++ aI) a0_1 ae af) else (none)) = some (r1, r2, r3, r4) := by have H2_ := (Option.bind_some _ _).symm.trans H; rw [bG]; with_reducible exact H2_
 have Ny183 := zK bG; clear bG
 by_cases c2 : bo.length + aI.length < 17592186044416
 ·rw [if_pos c2] at H
  have LMc2 := zK c2; clear c2
  obtain ⟨ag, bH⟩ : ∃ y_ : List Int, y_ = (bo ++ aI) := ⟨_, rfl⟩
  replace H : (spec_l05Copy.l0 k (([] : List (S69))) 0 ag a0_1 ae af) = some (r1, r2, r3, r4) := by rw [bH]; with_reducible exact H
  have Ny186 := zK bH; clear bH
  obtain ⟨cA, bI⟩ : ∃ y_ : List (S69), y_ = (([] : List (S69))) := ⟨_, rfl⟩
  replace H : (spec_l05Copy.l0 k cA 0 ag a0_1 ae af) = some (r1, r2, r3, r4) := by rw [bI]; with_reducible exact H
  have Ny189 := zK bI; clear bI; have H' := zK H; clear H
  go_enter Try.func68, Try.ntmps68
  go_wp2_with (first | ((with_reducible refine gate_dst (N := 1) rfl ?_); refine zX 1 #[.slice bb aI.length bc, .int .i64 a0_1, .slice a4 ae.length aA, .slice az af.length aw] 28 ?_; intro ad hg w3 hbox hb; have aa := zK (hbox); have GW181 := zK ((by rw [hg]; exact (below_size (zb HB)) : w.heap.size ≤ ad)); have ar := zK ((by rw [hg]; exact (below_size (zb HB)) : w.heap.size ≤ ad)); replace HB := zK (below_step (zb HB) hb); clear hb hbox hg) | ((with_reducible refine gate_dst (N := 2) rfl ?_); refine zX 2 #[.slice none 0 0, .int .i64 0, .slice none 0 0, .slice none 0 0] 28 ?_; intro ah hg w4 hbox hb; have ac := zK (hbox); have GW182 := zK ((by rw [hg]; exact (below_size (zb HB)) : w.heap.size ≤ ah)); have au := zK ((by rw [hg]; exact (below_size (zb HB)) : w.heap.size ≤ ah)); replace HB := zK (below_step (zb HB) hb); have aM := zK ((by rw [hg]; exact Nat.ne_of_lt (blk_lt (g := ad) (o := .cells #[.slice bb aI.length bc, .int .i64 a0_1, .slice a4 ae.length aA, .slice az af.length aw] 28 (0, 0)) (zk aa)) : ad ≠ ah)); have ax := zK ((by rw [hg]; exact Nat.ne_of_gt (blk_lt (g := ad) (o := .cells #[.slice bb aI.length bc, .int .i64 a0_1, .slice a4 ae.length aA, .slice az af.length aw] 28 (0, 0)) (zk aa)) : ah ≠ ad)); replace aa := zK (blk_below (g := ad) (o := .cells #[.slice bb aI.length bc, .int .i64 a0_1, .slice a4 ae.length aA, .slice az af.length aw] 28 (0, 0)) (zk aa) hb); clear hb hbox hg) | ((with_reducible refine gate_dst (N := 9) rfl ?_); refine Kd.R_lit (Kd.int .i64) _ 3 ?hg (N := 9) ?hd (xs := ([] : List Int)) (inner := []) (ok := fun _ => True) (okp := fun _ => True) ?hr ?hp (fun _ hk => hk) trivial (Below.refl _ _) (Nat.le_refl _) (by simp) ?_; (case hd => rfl); (case hg => rfl); (case hr => first | (go_simp; done) | (go_simp; rfl)); (case hp => exact (Reps.none _ _)); intro v184 w5 ho6 hb hg_ hnew_; clear hg_ hnew_; (first | rw [← Ny183.out] at ho6); have bv := zK (Kd.R_lower ho6 (below_size (zb HB))); replace aa := zK (blk_below (g := ad) (o := .cells #[.slice bb aI.length bc, .int .i64 a0_1, .slice a4 ae.length aA, .slice az af.length aw] 28 (0, 0)) (zk aa) hb); replace ac := zK (blk_below (g := ah) (o := .cells #[.slice none 0 0, .int .i64 0, .slice none 0 0, .slice none 0 0] 28 (0, 0)) (zk ac) hb); replace HB := zK (below_step (zb HB) hb); clear hb ho6; have hnb7 := aM.out; have hnc7 := ax.out; obtain ⟨ci, cj, ck, cl⟩ := zL4 aa; obtain ⟨cm, cn, co, cp⟩ := zF4 aa) | ((with_reducible refine gate_builtin (b := .append) (xs := #[.tmp 9, .tmp 11]) rfl ?_); at_builtin; refine Kd.R_append_rows (Kd.int .i64) (w0 := w) w.heap.size rfl (.tmp 9) (.tmp 11) 24 3 (.int .i64 0) 8 rfl Try.underlying24 info3 rfl (by decide) (by omega) v184 bo aI _ _ _ (fun _ => True) (fun _ => False) rfl rfl ?aO ?aR (fun _ _ h => h) (fun _ h => h.elim) ?aF ?aB ?aS ?aL ?_; (case aR => repeat (first | exact (Kd.C_below cx.out HB.out) | (with_reducible refine Kd.C_alloc ?_ _) | (with_reducible refine Kd.C_drewN ?_ _) | (with_reducible refine Kd.C_drew ?_))); (case aB => exact (zb HB)); (case aF => exact (fun _ _ => trivial)); (case aO => exact (zR bv)); (case aS => exact (below_size (zb HB))); (case aL => have := LMc2.out; omega); intro v187 w9 ho hb hg hat; rw [← Ny186.out] at ho; replace aa := zK (blk_grown (g := ad) (o := .cells #[.slice bb aI.length bc, .int .i64 a0_1, .slice a4 ae.length aA, .slice az af.length aw] 28 (0, 0)) (zk aa) hg (Kd.R_ne bv.out aa.out (by decide))); replace ac := zK (blk_grown (g := ah) (o := .cells #[.slice none 0 0, .int .i64 0, .slice none 0 0, .slice none 0 0] 28 (0, 0)) (zk ac) hg (Kd.R_ne bv.out ac.out (by decide))); replace HB := zK (hb); have bi := zK (ho); clear bv; clear ho hb hg hat; obtain ⟨ao, ap, eo10⟩ := Kd.R_slice bi.out; subst eo10; obtain ⟨bW, bX, bY, bZ⟩ := zL4 aa; obtain ⟨b0, b1, b2, b3⟩ := zF4 aa) | ((with_reducible refine gate_dst (N := 14) rfl ?_); refine Kd.S_lit k69 _ 69 ?hg (N := 14) ?hd (xs := ([] : List (S69))) (inner := []) (ok := fun _ => True) (okp := fun _ => True) ?hr ?hp (fun _ hk => hk) trivial (Below.refl _ _) (Nat.le_refl _) (by simp) ?_; (case hd => rfl); (case hg => rfl); (case hr => first | (go_simp; done) | (go_simp; rfl)); (case hp => exact (Reps.none _ _)); intro v190 w12 ho13 hb hg_ hnew_; clear hg_ hnew_; (first | rw [← Ny189.out] at ho13); have cB := zK (Kd.S_lower (Kd.S_new' ho13 (Kd.R_lt (by (with_reducible repeat (first | apply Kd.R_alloc | apply Kd.R_drewN | apply Kd.R_drew)); exact (Kd.R_mono (Kd.R_far (p := ⟨ad, 0, none⟩) (Kd.R_types bi.out aa.out (by decide)) (fun _ hk => hk.2) (.slice ao ag.length ap)) (fun _ h_ => h_.1))))) (below_size (zb HB))); replace bi := zK (Kd.R_below (by (with_reducible repeat (first | apply Kd.R_alloc | apply Kd.R_drewN | apply Kd.R_drew)); exact (Kd.R_mono (Kd.R_far (p := ⟨ad, 0, none⟩) (Kd.R_types bi.out aa.out (by decide)) (fun _ hk => hk.2) (.slice ao ag.length ap)) (fun _ h_ => h_.1))) hb); replace aa := zK (blk_below (g := ad) (o := .cells #[.slice ao ag.length ap, .int .i64 a0_1, .slice a4 ae.length aA, .slice az af.length aw] 28 (0, 0)) (by (with_reducible repeat (first | refine zN ?_ _ | refine zD ?_ | refine zA ?_ _)); refine blk_put (cs := #[.slice bb aI.length bc, .int .i64 a0_1, .slice a4 ae.length aA, .slice az af.length aw]) ?_ 0 _ rfl; (with_reducible repeat (first | refine zN ?_ _ | refine zD ?_ | refine zA ?_ _)); exact aa.out) hb); replace ac := zK (blk_below (g := ah) (o := .cells #[.slice none 0 0, .int .i64 0, .slice none 0 0, .slice none 0 0] 28 (0, 0)) (zh ac ax) hb); replace HB := zK (below_step (zb HB) hb); clear hb ho13))
  go_loopg [3, 4] k (fun kq v3 v4 w' => ∃ (av : List (S69)) (ai : Int), v4 = .int .i64 ai ∧ Aside0 (spec_l05Copy.l0 kq av ai ag a0_1 ae af = some (r1, r2, r3, r4)) ∧ Aside0 (kq ≤ k) ∧ Aside0 (Kd.S k69 69 w' w.heap.size (fun k_ => some k_ ≠ ((.slice ao ag.length ap) : Value).ownBlock) v3 av) ∧ Aside0 (Kd.R (Kd.int .i64) 3 w' w.heap.size (fun _ => True) (.slice ao ag.length ap) ag) ∧ Aside0 (w'.heap[ad]? = some (.cells #[(.slice ao ag.length ap), .int .i64 a0_1, (.slice a4 ae.length aA), (.slice az af.length aw)] 28 (0, 0))) ∧ Aside0 (w'.heap[ah]? = some (.cells #[(.slice none 0 0), .int .i64 0, (.slice none 0 0), (.slice none 0 0)] 28 (0, 0))) ∧ Aside0 (Below w.heap.size w w'))
  case atStart => exact ⟨(cA), (0), zf, H', ⟨Nat.le_refl _⟩, ⟨by (with_reducible repeat (first | apply Kd.S_alloc | apply Kd.S_drewN | apply Kd.S_drew)); exact Kd.S_mono cB.out (fun _ hk => hk.2)⟩, ⟨zR bi⟩, ⟨zk aa⟩, ⟨zk ac⟩, ⟨zb HB⟩⟩
  case round =>
   clear H' bW bX bY bZ ci cj ck cl b0 b1 b2 b3 cm cn co cp
   obtain ⟨av, ai, rfl, HA, HK1, ay, ab, aa, ac, HB⟩ := hrel
   cases gk with
   | zero => exact absurd HA.out (by simp [spec_l05Copy.l0])
   | succ k1 =>
    have H := HA.out; clear HA
    simp only [spec_l05Copy.l0] at H
    by_cases cv : ai < (ae.length : Int)
    ·rw [if_pos cv] at H
     have ch : decide (ai < (ae.length : Int)) = true := decide_eq_true cv
     clear cv
     by_cases c15 : 0 ≤ ai
     ·rw [if_pos c15] at H
      have c15b0 : decide (0 ≤ ai) = true := decide_eq_true c15
      clear c15
      obtain ⟨bJ, bK⟩ : ∃ y_ : List Int, y_ = (([] : List Int)) := ⟨_, rfl⟩
      replace H : (if bJ.length + ((rd_T69 ae ai).f2).length < 17592186044416 then (if av.length < 3518437208883 then (spec_l05Copy.l0 k1 (av ++ [(⟨(rd_T69 ae ai).f0, (rd_T69 ae ai).f1, (bJ ++ ((rd_T69 ae ai).f2))⟩ : S69)]) (wrap64 (ai + 1)) ag a0_1 ae af) else (none)) else (none)) = some (r1, r2, r3, r4) := by have H2_ := (Option.bind_some _ _).symm.trans H; rw [bK]; with_reducible exact H2_
      have Ny194 := zK bK; clear bK
      by_cases c16 : bJ.length + ((rd_T69 ae ai).f2).length < 17592186044416
      ·rw [if_pos c16] at H
       have cC := zK c16; clear c16
       obtain ⟨aX, bL⟩ : ∃ y_ : List Int, y_ = (bJ ++ ((rd_T69 ae ai).f2)) := ⟨_, rfl⟩
       replace H : (if av.length < 3518437208883 then (spec_l05Copy.l0 k1 (av ++ [(⟨(rd_T69 ae ai).f0, (rd_T69 ae ai).f1, aX⟩ : S69)]) (wrap64 (ai + 1)) ag a0_1 ae af) else (none)) = some (r1, r2, r3, r4) := by rw [bL]; with_reducible exact H
       have Ny197 := zK bL; clear bL
       by_cases c17 : av.length < 3518437208883
       ·rw [if_pos c17] at H
        have cD := zK c17; clear c17
        obtain ⟨cE, bM⟩ : ∃ y_ : List (S69), y_ = (av ++ [(⟨(rd_T69 ae ai).f0, (rd_T69 ae ai).f1, aX⟩ : S69)]) := ⟨_, rfl⟩
        replace H : (spec_l05Copy.l0 k1 cE (wrap64 (ai + 1)) ag a0_1 ae af) = some (r1, r2, r3, r4) := by rw [bM]; with_reducible exact H
        have Ny200 := zK bM; clear bM; have H' := zK H; clear H; have hnb18 := aM.out; have hnc18 := ax.out
        obtain ⟨hcz19_0, hcz19_1, hcz19_2, hcz19_3⟩ := zL4 aa
        obtain ⟨hfz19_0, hfz19_1, hfz19_2, hfz19_3⟩ := zF4 aa
        have cq : 0 ≤ (ai : Int) := zd
        have cr : ai < (ae.length : Int) := zd
        obtain ⟨bd, a0, a1, e192, bj, bk, bl, bw, bx⟩ := at_T69 cy.out ai cq cr
        cases e192
        replace bj := (HB.out.cell (World.block_lt_of_cell? w _ bj)).trans bj
        replace bk := (HB.out.cell (World.block_lt_of_cell? w _ bk)).trans bk
        replace bl := (HB.out.cell (World.block_lt_of_cell? w _ bl)).trans bl
        have b4 := zK bx; have HC192_2 := zK bw; clear bx bw; replace cq := eq_true cq; replace cr := eq_true cr
        go_wp2_with (first | ((with_reducible refine gate_dst (N := 5) rfl ?_); refine zX 5 #[.int .i64 0, .int .i64 0, .slice none 0 0] 69 ?_; intro aj hg w20 hbox hb; replace ay := zK (Kd.S_below (Kd.S_elderB (zT ay) aj (Nat.le_of_eq hg.symm)) hb); replace ab := zK (Kd.R_below (zR ab) hb); have ak := zK (hbox); have GW193 := zK ((by rw [hg]; exact (below_size (zb HB)) : w.heap.size ≤ aj)); have ba := zK ((by rw [hg]; exact (below_size (zb HB)) : w.heap.size ≤ aj)); replace HB := zK (below_step (zb HB) hb); have aN := zK ((by rw [hg]; exact Nat.ne_of_lt (blk_lt (g := ad) (o := .cells #[.slice ao ag.length ap, .int .i64 a0_1, .slice (some bd) ae.length aA, .slice az af.length aw] 28 (0, 0)) (zk aa)) : ad ≠ aj)); have bC := zK ((by rw [hg]; exact Nat.ne_of_gt (blk_lt (g := ad) (o := .cells #[.slice ao ag.length ap, .int .i64 a0_1, .slice (some bd) ae.length aA, .slice az af.length aw] 28 (0, 0)) (zk aa)) : aj ≠ ad)); replace aa := zK (blk_below (g := ad) (o := .cells #[.slice ao ag.length ap, .int .i64 a0_1, .slice (some bd) ae.length aA, .slice az af.length aw] 28 (0, 0)) (zk aa) hb); have aQ := zK ((by rw [hg]; exact Nat.ne_of_lt (blk_lt (g := ah) (o := .cells #[.slice none 0 0, .int .i64 0, .slice none 0 0, .slice none 0 0] 28 (0, 0)) (zk ac)) : ah ≠ aj)); have bD := zK ((by rw [hg]; exact Nat.ne_of_gt (blk_lt (g := ah) (o := .cells #[.slice none 0 0, .int .i64 0, .slice none 0 0, .slice none 0 0] 28 (0, 0)) (zk ac)) : aj ≠ ah)); replace ac := zK (blk_below (g := ah) (o := .cells #[.slice none 0 0, .int .i64 0, .slice none 0 0, .slice none 0 0] 28 (0, 0)) (zk ac) hb); clear hb hbox hg; have hnb21 := bC.out; have hnc21 := aN.out; have hnb22 := bD.out; have hnc22 := aQ.out; obtain ⟨hcz23_0, hcz23_1, hcz23_2⟩ := zL3 ak; obtain ⟨hfz23_0, hfz23_1, hfz23_2⟩ := zF3 ak) | ((with_reducible refine gate_dst (N := 27) rfl ?_); refine Kd.R_lit (Kd.int .i64) _ 3 ?hg (N := 27) ?hd (xs := ([] : List Int)) (inner := []) (ok := fun _ => True) (okp := fun _ => True) ?hr ?hp (fun _ hk => hk) trivial (Below.refl _ _) (Nat.le_refl _) (by simp) ?_; (case hd => rfl); (case hg => rfl); (case hr => first | (go_simp; done) | (go_simp; rfl)); (case hp => exact (Reps.none _ _)); intro v195 w24 ho25 hb hg_ hnew_; clear hg_ hnew_; (first | rw [← Ny194.out] at ho25); replace ay := zK (Kd.S_elder' (by (with_reducible repeat (first | apply Kd.S_alloc | apply Kd.S_drewN | apply Kd.S_drew)); exact (Kd.S_mono (Kd.S_far (p := ⟨aj, 2, none⟩) (Kd.S_far (p := ⟨aj, 1, none⟩) (Kd.S_far (p := ⟨aj, 0, none⟩) (Kd.S_mono ay.out (fun k_ hk => (⟨hk, hk.2⟩ : _ ∧ k_ ≠ aj))) (fun _ hk => hk.2) (.int .i64 ((rd_T69 ae ai).f0))) (fun _ hk => hk.2) (.int .i64 ((rd_T69 ae ai).f1))) (fun _ hk => hk.2) (.slice a0 ((rd_T69 ae ai).f2).length a1)) (fun _ h_ => h_.1))) (Kd.R_base ho25) hb); have bp := zK (Kd.R_lower (Kd.R_new' ho25 (Kd.R_lt (by (with_reducible repeat (first | apply Kd.R_alloc | apply Kd.R_drewN | apply Kd.R_drew)); exact (Kd.R_mono (Kd.R_far (p := ⟨aj, 2, none⟩) (Kd.R_far (p := ⟨aj, 1, none⟩) (Kd.R_far (p := ⟨aj, 0, none⟩) (Kd.R_types ab.out ak.out (by decide)) (fun _ hk => hk.2) (.int .i64 ((rd_T69 ae ai).f0))) (fun _ hk => hk.2) (.int .i64 ((rd_T69 ae ai).f1))) (fun _ hk => hk.2) (.slice a0 ((rd_T69 ae ai).f2).length a1)) (fun _ h_ => h_.1))))) (below_size (zb HB))); replace ab := zK (Kd.R_elder' (by (with_reducible repeat (first | apply Kd.R_alloc | apply Kd.R_drewN | apply Kd.R_drew)); exact (Kd.R_mono (Kd.R_far (p := ⟨aj, 2, none⟩) (Kd.R_far (p := ⟨aj, 1, none⟩) (Kd.R_far (p := ⟨aj, 0, none⟩) (Kd.R_types ab.out ak.out (by decide)) (fun _ hk => hk.2) (.int .i64 ((rd_T69 ae ai).f0))) (fun _ hk => hk.2) (.int .i64 ((rd_T69 ae ai).f1))) (fun _ hk => hk.2) (.slice a0 ((rd_T69 ae ai).f2).length a1)) (fun _ h_ => h_.1))) (Kd.R_base ho25) hb); replace aa := zK (blk_below (g := ad) (o := .cells #[.slice ao ag.length ap, .int .i64 a0_1, .slice (some bd) ae.length aA, .slice az af.length aw] 28 (0, 0)) (zh aa aN) hb); replace ac := zK (blk_below (g := ah) (o := .cells #[.slice none 0 0, .int .i64 0, .slice none 0 0, .slice none 0 0] 28 (0, 0)) (zh ac aQ) hb); replace ak := zK (blk_below (g := aj) (o := .cells #[.int .i64 ((rd_T69 ae ai).f0), .int .i64 ((rd_T69 ae ai).f1), .slice a0 ((rd_T69 ae ai).f2).length a1] 69 (0, 0)) (by (with_reducible repeat (first | refine zN ?_ _ | refine zD ?_ | refine zA ?_ _)); refine blk_put (cs := #[.int .i64 ((rd_T69 ae ai).f0), .int .i64 ((rd_T69 ae ai).f1), .slice none 0 0]) ?_ 2 _ rfl; (with_reducible repeat (first | refine zN ?_ _ | refine zD ?_ | refine zA ?_ _)); refine blk_put (cs := #[.int .i64 ((rd_T69 ae ai).f0), .int .i64 0, .slice none 0 0]) ?_ 1 _ rfl; (with_reducible repeat (first | refine zN ?_ _ | refine zD ?_ | refine zA ?_ _)); refine blk_put (cs := #[.int .i64 0, .int .i64 0, .slice none 0 0]) ?_ 0 _ rfl; (with_reducible repeat (first | refine zN ?_ _ | refine zD ?_ | refine zA ?_ _)); exact ak.out) hb); replace HB := zK (below_step (zb HB) hb); clear hb ho25; obtain ⟨hcz26_0, hcz26_1, hcz26_2⟩ := zL3 ak; obtain ⟨hfz26_0, hfz26_1, hfz26_2⟩ := zF3 ak) | ((with_reducible refine gate_builtin (b := .append) (xs := #[.tmp 27, .tmp 29]) rfl ?_); at_builtin; refine Kd.R_append_rows (Kd.int .i64) (w0 := w) w.heap.size rfl (.tmp 27) (.tmp 29) 24 3 (.int .i64 0) 8 rfl Try.underlying24 info3 rfl (by decide) (by omega) v195 bJ ((rd_T69 ae ai).f2) _ _ _ (fun k_ => some k_ ≠ (.slice ao ag.length ap : Value).ownBlock) (fun _ => False) rfl rfl ?aO ?aR (fun _ _ h => h) (fun _ h => h.elim) ?aF ?aB ?aS ?aL ?_; (case aR => repeat (first | exact (Kd.C_below b4.out HB.out) | (with_reducible refine Kd.C_alloc ?_ _) | (with_reducible refine Kd.C_drewN ?_ _) | (with_reducible refine Kd.C_drew ?_))); (case aB => exact (zb HB)); (case aF => exact (fun k_ hk => Kd.fresh' (Kd.R_lt (zR ab)) k_ hk)); (case aO => exact (by (with_reducible repeat (first | apply Kd.R_alloc | apply Kd.R_drewN | apply Kd.R_drew)); exact Kd.R_mono bp.out (fun _ hk => hk.2))); (case aS => exact (below_size (zb HB))); (case aL => have := cC.out; omega); intro v198 w27 ho hb hg hat; rw [← Ny197.out] at ho; replace ay := zK (Kd.S_after (ok := (fun k_ => some k_ ≠ (.slice ao ag.length ap : Value).ownBlock ∧ k_ ≠ aj)) (zT ay) hg hat); replace ab := zK (Kd.R_after (ok := (fun _ => True)) (zR ab) hg hat); replace aa := zK (blk_grown (g := ad) (o := .cells #[.slice ao ag.length ap, .int .i64 a0_1, .slice (some bd) ae.length aA, .slice az af.length aw] 28 (0, 0)) (zk aa) hg (Kd.R_ne bp.out aa.out (by decide))); replace ac := zK (blk_grown (g := ah) (o := .cells #[.slice none 0 0, .int .i64 0, .slice none 0 0, .slice none 0 0] 28 (0, 0)) (zk ac) hg (Kd.R_ne bp.out ac.out (by decide))); replace ak := zK (blk_grown (g := aj) (o := .cells #[.int .i64 ((rd_T69 ae ai).f0), .int .i64 ((rd_T69 ae ai).f1), .slice a0 ((rd_T69 ae ai).f2).length a1] 69 (0, 0)) (zk ak) hg (Kd.R_ne bp.out ak.out (by decide))); replace HB := zK (hb); have bf := zK (ho); clear bp; clear ho hb hg hat; obtain ⟨a8, a9, eo28⟩ := Kd.R_slice bf.out; subst eo28; obtain ⟨hcz29_0, hcz29_1, hcz29_2⟩ := zL3 ak; obtain ⟨hfz29_0, hfz29_1, hfz29_2⟩ := zF3 ak) | ((with_reducible refine gate_store (t := 24) (p := 31) rfl ?_); refine store_event (t := 24) (p := 31) (v := ?vo_w30) (w1 := (w27.setCell ⟨aj, 2, none⟩ (.slice a8 aX.length a9))) ?hg ?ho ?hn ?hr ?_; (case ho => rfl); (case hg => rfl); (case hn => rfl); (case hr => first | (go_simp; done) | (go_simp; rfl)); intro bV hw; have aC : Aside0 (Kd.S k69 69 bV w.heap.size (fun k_ => some k_ ≠ (.slice ao ag.length ap : Value).ownBlock ∧ some k_ ≠ (.slice a8 aX.length a9 : Value).ownBlock ∧ k_ ≠ aj) u3 av) := ⟨(by rw [hw]; exact (by (with_reducible repeat (first | apply Kd.S_alloc | apply Kd.S_drewN | apply Kd.S_drew)); exact Kd.S_mono (Kd.S_far (p := ⟨aj, 2, none⟩) (Kd.S_mono ay.out (fun k_ hk => (⟨hk, hk.1.2⟩ : _ ∧ k_ ≠ aj))) (fun _ hk => hk.2) (.slice a8 aX.length a9)) (fun _ hk => ⟨hk.1.1.1, ⟨hk.1.2, hk.1.1.2⟩⟩)))⟩; have aD : Aside0 (Kd.R (Kd.int .i64) 3 bV w.heap.size (fun k_ => some k_ ≠ (.slice a8 aX.length a9 : Value).ownBlock) (.slice ao ag.length ap) ag) := ⟨(by rw [hw]; exact (by (with_reducible repeat (first | apply Kd.R_alloc | apply Kd.R_drewN | apply Kd.R_drew)); exact Kd.R_mono (Kd.R_far (p := ⟨aj, 2, none⟩) (Kd.R_types ab.out ak.out (by decide)) (fun _ hk => hk.2) (.slice a8 aX.length a9)) (fun _ hk => hk.1.2)))⟩; have aE : Aside0 (Kd.R (Kd.int .i64) 3 bV w.heap.size (fun k_ => some k_ ≠ (.slice ao ag.length ap : Value).ownBlock) (.slice a8 aX.length a9) aX) := ⟨(by rw [hw]; exact (by (with_reducible repeat (first | apply Kd.R_alloc | apply Kd.R_drewN | apply Kd.R_drew)); exact Kd.R_mono (Kd.R_far (p := ⟨aj, 2, none⟩) (Kd.R_types bf.out ak.out (by decide)) (fun _ hk => hk.2) (.slice a8 aX.length a9)) (fun _ hk => hk.1)))⟩; have aG : Aside0 (bV.heap[ad]? = some (.cells #[.slice ao ag.length ap, .int .i64 a0_1, .slice (some bd) ae.length aA, .slice az af.length aw] 28 (0, 0))) := ⟨(by rw [hw]; exact (zh aa aN))⟩; have aW : Aside0 (bV.heap[ah]? = some (.cells #[.slice none 0 0, .int .i64 0, .slice none 0 0, .slice none 0 0] 28 (0, 0))) := ⟨(by rw [hw]; exact (zh ac aQ))⟩; have aZ : Aside0 (bV.heap[aj]? = some (.cells #[.int .i64 ((rd_T69 ae ai).f0), .int .i64 ((rd_T69 ae ai).f1), .slice a8 aX.length a9] 69 (0, 0))) := ⟨(by rw [hw]; exact (by (with_reducible repeat (first | refine zN ?_ _ | refine zD ?_ | refine zA ?_ _)); refine blk_put (cs := #[.int .i64 ((rd_T69 ae ai).f0), .int .i64 ((rd_T69 ae ai).f1), .slice a0 ((rd_T69 ae ai).f2).length a1]) ?_ 2 _ rfl; (with_reducible repeat (first | refine zN ?_ _ | refine zD ?_ | refine zA ?_ _)); exact ak.out))⟩; have a7 : Aside0 (Below w.heap.size w bV) := ⟨(by rw [hw]; exact (zb HB))⟩; clear hw; clear ay; clear ab; clear bf; clear aa; clear ac; clear ak; clear HB; have ay := aC; have ab := aD; have bf := aE; have aa := aG; have ac := aW; have ak := aZ; have HB := a7; clear aC aD aE aG aW aZ a7; obtain ⟨hcz31_0, hcz31_1, hcz31_2⟩ := zL3 ak; obtain ⟨hfz31_0, hfz31_1, hfz31_2⟩ := zF3 ak) | ((with_reducible refine gate_builtin (b := .append) (xs := #[.tmp 32, .tmp 34]) rfl ?_); at_builtin; refine Kd.S_append k69 (w0 := w) w.heap.size rfl (.tmp 32) (.tmp 34) 25 69 (.agg #[(.int .i64 0), (.int .i64 0), (.slice none 0 0)]) 40 rfl Try.underlying25 info69 rfl (by decide) (by omega) u3 av (⟨(rd_T69 ae ai).f0, (rd_T69 ae ai).f1, aX⟩ : S69) [.int .i64 ((rd_T69 ae ai).f0), .int .i64 ((rd_T69 ae ai).f1), .slice a8 aX.length a9] (fun k_ => some k_ ≠ (.slice ao ag.length ap : Value).ownBlock ∧ k_ ≠ aj) (fun k_ => some k_ = (.slice a8 aX.length a9 : Value).ownBlock) rfl rfl ?aP (fun k_ hk_ => ((Kd.R_mono (ok' := fun k_ => ((fun k_ => some k_ ≠ (.slice ao ag.length ap : Value).ownBlock ∧ k_ ≠ aj)) k_ ∧ some k_ ≠ (u3 : Value).ownBlock) (Kd.R_types (Kd.R_apart' (bf.out) (Kd.S_typed ay.out) (by decide)) ak.out (by decide)) (fun k_ hk => ⟨⟨hk.1.1, hk.2⟩, hk.1.2⟩))).1 k_ hk_.symm) ?aF ?aO ?aB ?aS ?aL ?_; (case aP => exact k69_mkM _ _ _ (⟨(rd_T69 ae ai).f0, (rd_T69 ae ai).f1, aX⟩ : S69) (Kd.R_mono (Kd.R_tight rfl (Kd.R_mono (ok' := fun k_ => ((fun k_ => some k_ ≠ (.slice ao ag.length ap : Value).ownBlock ∧ k_ ≠ aj)) k_ ∧ some k_ ≠ (u3 : Value).ownBlock) (Kd.R_types (Kd.R_apart' (bf.out) (Kd.S_typed ay.out) (by decide)) ak.out (by decide)) (fun k_ hk => ⟨⟨hk.1.1, hk.2⟩, hk.1.2⟩))) (fun _ h_ => h_))); (case aB => exact (zb HB)); (case aF => exact (fun k_ hk => ⟨Kd.fresh' (Kd.R_lt (zR ab)) k_ hk, Kd.freshB (g := aj) (o := .cells #[.int .i64 ((rd_T69 ae ai).f0), .int .i64 ((rd_T69 ae ai).f1), .slice a8 aX.length a9] 69 (0, 0)) (zk ak) k_ hk⟩)); (case aO => exact (by (with_reducible repeat (first | apply Kd.S_alloc | apply Kd.S_drewN | apply Kd.S_drew)); exact Kd.S_mono ay.out (fun k_ hk => ⟨⟨hk.1, hk.2.2⟩, fun e_ => hk.2.1 e_⟩))); (case aS => exact (below_size (zb HB))); (case aL => have := cD.out; omega); intro v201 w32 ho hb hg hat; rw [← Ny200.out] at ho; replace ab := zK (Kd.R_over' (zR ab) (Kd.S_typed (zT ay)) (by decide) hg); replace aa := zK (blk_grown (g := ad) (o := .cells #[.slice ao ag.length ap, .int .i64 a0_1, .slice (some bd) ae.length aA, .slice az af.length aw] 28 (0, 0)) (zk aa) hg (Kd.S_ne ay.out aa.out (by decide))); replace ac := zK (blk_grown (g := ah) (o := .cells #[.slice none 0 0, .int .i64 0, .slice none 0 0, .slice none 0 0] 28 (0, 0)) (zk ac) hg (Kd.S_ne ay.out ac.out (by decide))); replace ak := zK (blk_grown (g := aj) (o := .cells #[.int .i64 ((rd_T69 ae ai).f0), .int .i64 ((rd_T69 ae ai).f1), .slice a8 aX.length a9] 69 (0, 0)) (zk ak) hg (Kd.S_away ay.out (fun _ hk => hk.2.2))); replace HB := zK (hb); have cH := zK (ho); clear ay bf; clear ho hb hg hat))
        go_roundg k1
        case measure => have := HK1.out; omega
        case rel => exact ⟨(cE), (wrap64 (ai + 1)), zf, H', ⟨by have := HK1.out; omega⟩, ⟨by (with_reducible repeat (first | apply Kd.S_alloc | apply Kd.S_drewN | apply Kd.S_drew)); exact Kd.S_mono cH.out (fun _ hk => hk.1)⟩, ⟨by (with_reducible repeat (first | apply Kd.R_alloc | apply Kd.R_drewN | apply Kd.R_drew)); exact Kd.R_mono ab.out (fun _ hk => trivial)⟩, ⟨zk aa⟩, ⟨zk ac⟩, ⟨zb HB⟩⟩
       ·rw [if_neg c17] at H
        exact absurd H (by simp)
      ·rw [if_neg c16] at H
       exact absurd H (by simp)
     ·rw [if_neg c15] at H
      exact absurd H (by simp)
    ·rw [if_neg cv] at H
     have ch : decide (ai < (ae.length : Int)) = false := decide_eq_false cv
     clear cv
     obtain ⟨cI, bP⟩ : ∃ y_ : List (S74), y_ = (([] : List (S74))) := ⟨_, rfl⟩
     replace H : (spec_l05Copy.l1 k1 cI 0 ag a0_1 av af) = some (r1, r2, r3, r4) := by rw [bP]; with_reducible exact H
     have Ny203 := zK bP; clear bP; have H' := zK H; clear H; have hnb33 := aM.out; have hnc33 := ax.out
     obtain ⟨b5, b6, b7, b8⟩ := zL4 aa
     obtain ⟨b9, ca, cb, cc⟩ := zF4 aa
     obtain ⟨aJ, aK, eo35⟩ := Kd.S_slice ay.out
     subst eo35
     obtain ⟨wN_, hwN_⟩ : ∃ w_ : World, w_ = wr := ⟨_, rfl⟩
     have HN := zK (show Below 0 wN_ wr from by rw [hwN_]; exact Below.refl _ _); have HW_N := zK (show w.heap.size ≤ wN_.heap.size from by rw [hwN_]; exact below_size HB.out); replace ay := zK (Kd.S_mono (ok' := fun k_ => (fun k_ => some k_ ≠ ((.slice ao ag.length ap) : Value).ownBlock) k_ ∧ k_ < wN_.heap.size) (Kd.S_bound ay.out) (fun k_ hk_ => ⟨by first | exact hk_.1 | exact hk_.1.1, by rw [hwN_]; exact hk_.2.2.1⟩)); clear hwN_
     go_wp2_with ((with_reducible refine gate_dst (N := 38) rfl ?_); refine Kd.S_lit k74 _ 74 ?hg (N := 38) ?hd (xs := ([] : List (S74))) (inner := []) (ok := fun _ => True) (okp := fun _ => True) ?hr ?hp (fun _ hk => hk) trivial (Below.refl _ _) (Nat.le_refl _) (by simp) ?_; (case hd => rfl); (case hg => rfl); (case hr => first | (go_simp; done) | (go_simp; rfl)); (case hp => exact (Reps.none _ _)); intro v204 w36 ho37 hb hg_ hnew_; clear hg_ hnew_; (first | rw [← Ny203.out] at ho37); have aC := zK (Kd.S_below (by (with_reducible repeat (first | apply Kd.S_alloc | apply Kd.S_drewN | apply Kd.S_drew)); exact (Kd.S_mono (Kd.S_far (p := ⟨ad, 2, none⟩) (Kd.S_types ay.out aa.out (by decide)) (fun _ hk => hk.2) (.slice aJ av.length aK)) (fun _ h_ => h_.1))) hb); have aD := zK (Kd.R_below (by (with_reducible repeat (first | apply Kd.R_alloc | apply Kd.R_drewN | apply Kd.R_drew)); exact (Kd.R_mono (Kd.R_far (p := ⟨ad, 2, none⟩) (Kd.R_types ab.out aa.out (by decide)) (fun _ hk => hk.2) (.slice aJ av.length aK)) (fun _ h_ => h_.1))) hb); have aE := zK (Kd.S_lower (Kd.S_new' ho37 (Kd.R_lt (by (with_reducible repeat (first | apply Kd.R_alloc | apply Kd.R_drewN | apply Kd.R_drew)); exact (Kd.R_mono (Kd.R_far (p := ⟨ad, 2, none⟩) (Kd.R_types ab.out aa.out (by decide)) (fun _ hk => hk.2) (.slice aJ av.length aK)) (fun _ h_ => h_.1))))) (size0 (zb HN))); have aG := zK (blk_below (g := ad) (o := .cells #[.slice ao ag.length ap, .int .i64 a0_1, .slice aJ av.length aK, .slice az af.length aw] 28 (0, 0)) (by (with_reducible repeat (first | refine zN ?_ _ | refine zD ?_ | refine zA ?_ _)); refine blk_put (cs := #[.slice ao ag.length ap, .int .i64 a0_1, .slice a4 ae.length aA, .slice az af.length aw]) ?_ 2 _ rfl; (with_reducible repeat (first | refine zN ?_ _ | refine zD ?_ | refine zA ?_ _)); exact aa.out) hb); have aW := zK (blk_below (g := ah) (o := .cells #[.slice none 0 0, .int .i64 0, .slice none 0 0, .slice none 0 0] 28 (0, 0)) (zh ac ax) hb); have aZ := zK (below_step (zb HB) hb); have nN_ := zK (below_step0 (zb HN) hb); clear ay; clear ab; clear aa; clear ac; clear HB; clear HN; have ay := aC; have ab := aD; have cJ := aE; have aa := aG; have ac := aW; have HB := aZ; have HN := nN_; clear nN_; clear aC aD aE aG aW aZ; clear hb ho37)
     go_loopg [6, 7] k1 (fun kq v6 v7 w' => ∃ (aY : List (S74)) (aq : Int), v7 = .int .i64 aq ∧ Aside0 (spec_l05Copy.l1 kq aY aq ag a0_1 av af = some (r1, r2, r3, r4)) ∧ Aside0 (kq ≤ k1) ∧ Aside0 (Kd.S k74 74 w' wN_.heap.size (fun k_ => some k_ ≠ ((.slice ao ag.length ap) : Value).ownBlock) v6 aY) ∧ Aside0 (Kd.R (Kd.int .i64) 3 w' w.heap.size (fun _ => True) (.slice ao ag.length ap) ag) ∧ Aside0 (Kd.S k69 69 w' w.heap.size (fun k_ => some k_ ≠ ((.slice ao ag.length ap) : Value).ownBlock ∧ k_ < wN_.heap.size) (.slice aJ av.length aK) av) ∧ Aside0 (w'.heap[ad]? = some (.cells #[(.slice ao ag.length ap), .int .i64 a0_1, (.slice aJ av.length aK), (.slice az af.length aw)] 28 (0, 0))) ∧ Aside0 (w'.heap[ah]? = some (.cells #[(.slice none 0 0), .int .i64 0, (.slice none 0 0), (.slice none 0 0)] 28 (0, 0))) ∧ Aside0 (Below w.heap.size w w') ∧ Aside0 (Below 0 wN_ w'))
     case atStart => exact ⟨(cI), (0), zf, H', ⟨Nat.le_refl _⟩, ⟨by (with_reducible repeat (first | apply Kd.S_alloc | apply Kd.S_drewN | apply Kd.S_drew)); exact Kd.S_mono cJ.out (fun _ hk => hk.2)⟩, ⟨zR ab⟩, ⟨zT ay⟩, ⟨zk aa⟩, ⟨zk ac⟩, ⟨zb HB⟩, ⟨zb HN⟩⟩
     case round =>
      clear H' ch b5 b6 b7 b8 b9 ca cb cc
      obtain ⟨aY, aq, rfl, HA, HK2, aH, ab, al, aa, ac, HB, HN⟩ := hrel
      cases gk with
      | zero => exact absurd HA.out (by simp [spec_l05Copy.l1])
      | succ k2 =>
       have H := HA.out; clear HA
       simp only [spec_l05Copy.l1] at H
       by_cases cw : aq < (af.length : Int)
       ·rw [if_pos cw] at H
        have cK : decide (aq < (af.length : Int)) = true := decide_eq_true cw
        clear cw
        by_cases c39 : 0 ≤ aq
        ·rw [if_pos c39] at H
         have c39b0 : decide (0 ≤ aq) = true := decide_eq_true c39
         clear c39
         obtain ⟨bQ, bR⟩ : ∃ y_ : List Int, y_ = (([] : List Int)) := ⟨_, rfl⟩
         replace H : (if bQ.length + ((rd_T74 af aq).f1).length < 17592186044416 then (if aY.length < 4398046511104 then (spec_l05Copy.l1 k2 (aY ++ [(⟨(rd_T74 af aq).f0, (bQ ++ ((rd_T74 af aq).f1))⟩ : S74)]) (wrap64 (aq + 1)) ag a0_1 av af) else (none)) else (none)) = some (r1, r2, r3, r4) := by have H2_ := (Option.bind_some _ _).symm.trans H; rw [bR]; with_reducible exact H2_
         have Ny208 := zK bR; clear bR
         by_cases c40 : bQ.length + ((rd_T74 af aq).f1).length < 17592186044416
         ·rw [if_pos c40] at H
          have cL := zK c40; clear c40
          obtain ⟨aT, bS⟩ : ∃ y_ : List Int, y_ = (bQ ++ ((rd_T74 af aq).f1)) := ⟨_, rfl⟩
          replace H : (if aY.length < 4398046511104 then (spec_l05Copy.l1 k2 (aY ++ [(⟨(rd_T74 af aq).f0, aT⟩ : S74)]) (wrap64 (aq + 1)) ag a0_1 av af) else (none)) = some (r1, r2, r3, r4) := by rw [bS]; with_reducible exact H
          have Ny211 := zK bS; clear bS
          by_cases c41 : aY.length < 4398046511104
          ·rw [if_pos c41] at H
           have cM := zK c41; clear c41
           obtain ⟨cN, bT⟩ : ∃ y_ : List (S74), y_ = (aY ++ [(⟨(rd_T74 af aq).f0, aT⟩ : S74)]) := ⟨_, rfl⟩
           replace H : (spec_l05Copy.l1 k2 cN (wrap64 (aq + 1)) ag a0_1 av af) = some (r1, r2, r3, r4) := by rw [bT]; with_reducible exact H
           have Ny214 := zK bT; clear bT; have H' := zK H; clear H; have hnb42 := aM.out; have hnc42 := ax.out
           obtain ⟨hcz43_0, hcz43_1, hcz43_2, hcz43_3⟩ := zL4 aa
           obtain ⟨hfz43_0, hfz43_1, hfz43_2, hfz43_3⟩ := zF4 aa
           have ct : 0 ≤ (aq : Int) := zd
           have cu : aq < (af.length : Int) := zd
           obtain ⟨bg, aU, aV, e206, bm, bn, bA, bB⟩ := at_T74 cz.out aq ct cu
           cases e206
           replace bm := (HB.out.cell (World.block_lt_of_cell? w _ bm)).trans bm
           replace bn := (HB.out.cell (World.block_lt_of_cell? w _ bn)).trans bn
           have cd := zK bB; have HC206_1 := zK bA; clear bB bA; replace ct := eq_true ct; replace cu := eq_true cu
           go_wp2_with (first | ((with_reducible refine gate_dst (N := 8) rfl ?_); refine zX 8 #[.int .i64 0, .slice none 0 0] 74 ?_; intro am hg w44 hbox hb; have aC := zK (Kd.S_below (Kd.S_elderB (zT aH) am (Nat.le_of_eq hg.symm)) hb); have aD := zK (Kd.R_below (zR ab) hb); have aE := zK (Kd.S_below (zT al) hb); have aG := zK (blk_below (g := ad) (o := .cells #[.slice ao ag.length ap, .int .i64 a0_1, .slice aJ av.length aK, .slice (some bg) af.length aw] 28 (0, 0)) (zk aa) hb); have aW := zK (blk_below (g := ah) (o := .cells #[.slice none 0 0, .int .i64 0, .slice none 0 0, .slice none 0 0] 28 (0, 0)) (zk ac) hb); have aZ := zK (below_step (zb HB) hb); have nN_ := zK (below_step0 (zb HN) hb); have a7 := zK (hbox); have bz := zK ((by rw [hg]; exact (below_size (zb HB)) : w.heap.size ≤ am)); have cF := zK ((by rw [hg]; exact (below_size (zb HB)) : w.heap.size ≤ am)); have cG := zK ((by rw [hg]; exact Nat.ne_of_lt (blk_lt (g := ad) (o := .cells #[.slice ao ag.length ap, .int .i64 a0_1, .slice aJ av.length aK, .slice (some bg) af.length aw] 28 (0, 0)) (zk aa)) : ad ≠ am)); have bN := zK ((by rw [hg]; exact Nat.ne_of_gt (blk_lt (g := ad) (o := .cells #[.slice ao ag.length ap, .int .i64 a0_1, .slice aJ av.length aK, .slice (some bg) af.length aw] 28 (0, 0)) (zk aa)) : am ≠ ad)); have bO := zK ((by rw [hg]; exact Nat.ne_of_lt (blk_lt (g := ah) (o := .cells #[.slice none 0 0, .int .i64 0, .slice none 0 0, .slice none 0 0] 28 (0, 0)) (zk ac)) : ah ≠ am)); have cO := zK ((by rw [hg]; exact Nat.ne_of_gt (blk_lt (g := ah) (o := .cells #[.slice none 0 0, .int .i64 0, .slice none 0 0, .slice none 0 0] 28 (0, 0)) (zk ac)) : am ≠ ah)); clear aH; clear ab; clear al; clear aa; clear ac; clear HB; clear HN; have aH := aC; have ab := aD; have al := aE; have aa := aG; have ac := aW; have HB := aZ; have HN := nN_; clear nN_; have an := a7; have GW207 := bz; have bq := cF; have a2 := cG; have bE := bN; have a3 := bO; have bF := cO; clear aC aD aE aG aW aZ a7 bz cF cG bN bO cO; clear hb hbox hg; have hnb45 := bE.out; have hnc45 := a2.out; have hnb46 := bF.out; have hnc46 := a3.out; obtain ⟨hcz47_0, hcz47_1⟩ := zL2 an; obtain ⟨hfz47_0, hfz47_1⟩ := zF2 an) | ((with_reducible refine gate_dst (N := 51) rfl ?_); refine Kd.R_lit (Kd.int .i64) _ 3 ?hg (N := 51) ?hd (xs := ([] : List Int)) (inner := []) (ok := fun _ => True) (okp := fun _ => True) ?hr ?hp (fun _ hk => hk) trivial (Below.refl _ _) (Nat.le_refl _) (by simp) ?_; (case hd => rfl); (case hg => rfl); (case hr => first | (go_simp; done) | (go_simp; rfl)); (case hp => exact (Reps.none _ _)); intro v209 w48 ho49 hb hg_ hnew_; clear hg_ hnew_; (first | rw [← Ny208.out] at ho49); have aC := zK (Kd.S_elder' (by (with_reducible repeat (first | apply Kd.S_alloc | apply Kd.S_drewN | apply Kd.S_drew)); exact (Kd.S_mono (Kd.S_far (p := ⟨am, 1, none⟩) (Kd.S_far (p := ⟨am, 0, none⟩) (Kd.S_mono aH.out (fun k_ hk => (⟨hk, hk.2⟩ : _ ∧ k_ ≠ am))) (fun _ hk => hk.2) (.int .i64 ((rd_T74 af aq).f0))) (fun _ hk => hk.2) (.slice aU ((rd_T74 af aq).f1).length aV)) (fun _ h_ => h_.1))) (Kd.R_base ho49) hb); have aD := zK (Kd.R_elder' (by (with_reducible repeat (first | apply Kd.R_alloc | apply Kd.R_drewN | apply Kd.R_drew)); exact (Kd.R_mono (Kd.R_far (p := ⟨am, 1, none⟩) (Kd.R_far (p := ⟨am, 0, none⟩) (Kd.R_types ab.out an.out (by decide)) (fun _ hk => hk.2) (.int .i64 ((rd_T74 af aq).f0))) (fun _ hk => hk.2) (.slice aU ((rd_T74 af aq).f1).length aV)) (fun _ h_ => h_.1))) (Kd.R_base ho49) hb); have aE := zK (Kd.S_elder' (by (with_reducible repeat (first | apply Kd.S_alloc | apply Kd.S_drewN | apply Kd.S_drew)); exact (Kd.S_mono (Kd.S_far (p := ⟨am, 1, none⟩) (Kd.S_far (p := ⟨am, 0, none⟩) (Kd.S_types al.out an.out (by decide)) (fun _ hk => hk.2) (.int .i64 ((rd_T74 af aq).f0))) (fun _ hk => hk.2) (.slice aU ((rd_T74 af aq).f1).length aV)) (fun _ h_ => h_.1))) (Kd.R_base ho49) hb); have aG := zK (Kd.R_lower (Kd.R_new' ho49 (Kd.R_lt (by (with_reducible repeat (first | apply Kd.R_alloc | apply Kd.R_drewN | apply Kd.R_drew)); exact (Kd.R_mono (Kd.R_far (p := ⟨am, 1, none⟩) (Kd.R_far (p := ⟨am, 0, none⟩) (Kd.R_types ab.out an.out (by decide)) (fun _ hk => hk.2) (.int .i64 ((rd_T74 af aq).f0))) (fun _ hk => hk.2) (.slice aU ((rd_T74 af aq).f1).length aV)) (fun _ h_ => h_.1))))) (size0 (zb HN))); have aW := zK (blk_below (g := ad) (o := .cells #[.slice ao ag.length ap, .int .i64 a0_1, .slice aJ av.length aK, .slice (some bg) af.length aw] 28 (0, 0)) (zh aa a2) hb); have aZ := zK (blk_below (g := ah) (o := .cells #[.slice none 0 0, .int .i64 0, .slice none 0 0, .slice none 0 0] 28 (0, 0)) (zh ac a3) hb); have a7 := zK (blk_below (g := am) (o := .cells #[.int .i64 ((rd_T74 af aq).f0), .slice aU ((rd_T74 af aq).f1).length aV] 74 (0, 0)) (by (with_reducible repeat (first | refine zN ?_ _ | refine zD ?_ | refine zA ?_ _)); refine blk_put (cs := #[.int .i64 ((rd_T74 af aq).f0), .slice none 0 0]) ?_ 1 _ rfl; (with_reducible repeat (first | refine zN ?_ _ | refine zD ?_ | refine zA ?_ _)); refine blk_put (cs := #[.int .i64 0, .slice none 0 0]) ?_ 0 _ rfl; (with_reducible repeat (first | refine zN ?_ _ | refine zD ?_ | refine zA ?_ _)); exact an.out) hb); have bz := zK (below_step (zb HB) hb); have nN_ := zK (below_step0 (zb HN) hb); clear aH; clear ab; clear al; clear aa; clear ac; clear an; clear HB; clear HN; have aH := aC; have ab := aD; have al := aE; have br := aG; have aa := aW; have ac := aZ; have an := a7; have HB := bz; have HN := nN_; clear nN_; clear aC aD aE aG aW aZ a7 bz; clear hb ho49; obtain ⟨hcz50_0, hcz50_1⟩ := zL2 an; obtain ⟨hfz50_0, hfz50_1⟩ := zF2 an) | ((with_reducible refine gate_builtin (b := .append) (xs := #[.tmp 51, .tmp 53]) rfl ?_); at_builtin; refine Kd.R_append_rows (Kd.int .i64) (w0 := ?aW0) wN_.heap.size rfl (.tmp 51) (.tmp 53) 24 3 (.int .i64 0) 8 rfl Try.underlying24 info3 rfl (by decide) (by omega) v209 bQ ((rd_T74 af aq).f1) _ _ _ (fun k_ => some k_ ≠ (.slice ao ag.length ap : Value).ownBlock) (fun _ => False) rfl rfl ?aO ?aR (fun _ _ h => h) (fun _ h => h.elim) ?aF ?aB ?aS ?aL ?_; (case aR => repeat (first | exact (Kd.C_below cd.out HB.out) | (with_reducible refine Kd.C_alloc ?_ _) | (with_reducible refine Kd.C_drewN ?_ _) | (with_reducible refine Kd.C_drew ?_))); (case aB => exact Below.refl _ _); (case aF => exact (fun k_ hk => Kd.fresh' (Kd.R_lt (zR ab)) k_ hk)); (case aO => exact (by (with_reducible repeat (first | apply Kd.R_alloc | apply Kd.R_drewN | apply Kd.R_drew)); exact Kd.R_mono br.out (fun _ hk => hk.2))); (case aS => exact size0 (zb HN)); (case aL => have := cL.out; omega); intro v212 w51 ho hb hg hat; rw [← Ny211.out] at ho; have aC := zK (Kd.S_after (ok := (fun k_ => some k_ ≠ (.slice ao ag.length ap : Value).ownBlock ∧ k_ ≠ am)) (zT aH) hg hat); have aD := zK (Kd.R_after (ok := (fun _ => True)) (zR ab) hg hat); have aE := zK (Kd.S_after (ok := (fun k_ => some k_ ≠ (.slice ao ag.length ap : Value).ownBlock ∧ k_ < wN_.heap.size)) (zT al) hg hat); have aG := zK (blk_grown (g := ad) (o := .cells #[.slice ao ag.length ap, .int .i64 a0_1, .slice aJ av.length aK, .slice (some bg) af.length aw] 28 (0, 0)) (zk aa) hg (Kd.R_ne br.out aa.out (by decide))); have aW := zK (blk_grown (g := ah) (o := .cells #[.slice none 0 0, .int .i64 0, .slice none 0 0, .slice none 0 0] 28 (0, 0)) (zk ac) hg (Kd.R_ne br.out ac.out (by decide))); have aZ := zK (blk_grown (g := am) (o := .cells #[.int .i64 ((rd_T74 af aq).f0), .slice aU ((rd_T74 af aq).f1).length aV] 74 (0, 0)) (zk an) hg (Kd.R_ne br.out an.out (by decide))); have a7 := zK (below_via (n := w.heap.size) (w := w) (zb HB) HW_N.out hb); have nN_ := zK (below_via (n := 0) (w := wN_) (zb HN) (Nat.zero_le _) hb); have bz := zK (ho); clear aH; clear ab; clear al; clear aa; clear ac; clear an; clear HB; clear HN; clear br; have aH := aC; have ab := aD; have al := aE; have aa := aG; have ac := aW; have an := aZ; have HB := a7; have HN := nN_; clear nN_; have bh := bz; clear aC aD aE aG aW aZ a7 bz; clear ho hb hg hat; obtain ⟨a5, a6, eo52⟩ := Kd.R_slice bh.out; subst eo52; obtain ⟨hcz53_0, hcz53_1⟩ := zL2 an; obtain ⟨hfz53_0, hfz53_1⟩ := zF2 an) | ((with_reducible refine gate_store (t := 24) (p := 55) rfl ?_); refine store_event (t := 24) (p := 55) (v := ?vo_w54) (w1 := (w51.setCell ⟨am, 1, none⟩ (.slice a5 aT.length a6))) ?hg ?ho ?hn ?hr ?_; (case ho => rfl); (case hg => rfl); (case hn => rfl); (case hr => first | (go_simp; done) | (go_simp; rfl)); intro bU hw; have aC : Aside0 (Kd.S k74 74 bU wN_.heap.size (fun k_ => some k_ ≠ (.slice ao ag.length ap : Value).ownBlock ∧ some k_ ≠ (.slice a5 aT.length a6 : Value).ownBlock ∧ k_ ≠ am) u6 aY) := ⟨(by rw [hw]; exact (by (with_reducible repeat (first | apply Kd.S_alloc | apply Kd.S_drewN | apply Kd.S_drew)); exact Kd.S_mono (Kd.S_far (p := ⟨am, 1, none⟩) (Kd.S_mono aH.out (fun k_ hk => (⟨hk, hk.1.2⟩ : _ ∧ k_ ≠ am))) (fun _ hk => hk.2) (.slice a5 aT.length a6)) (fun _ hk => ⟨hk.1.1.1, ⟨hk.1.2, hk.1.1.2⟩⟩)))⟩; have aD : Aside0 (Kd.R (Kd.int .i64) 3 bU w.heap.size (fun k_ => some k_ ≠ (.slice a5 aT.length a6 : Value).ownBlock) (.slice ao ag.length ap) ag) := ⟨(by rw [hw]; exact (by (with_reducible repeat (first | apply Kd.R_alloc | apply Kd.R_drewN | apply Kd.R_drew)); exact Kd.R_mono (Kd.R_far (p := ⟨am, 1, none⟩) (Kd.R_types ab.out an.out (by decide)) (fun _ hk => hk.2) (.slice a5 aT.length a6)) (fun _ hk => hk.1.2)))⟩; have aE : Aside0 (Kd.S k69 69 bU w.heap.size (fun k_ => (some k_ ≠ (.slice ao ag.length ap : Value).ownBlock ∧ k_ < wN_.heap.size) ∧ some k_ ≠ (.slice a5 aT.length a6 : Value).ownBlock) (.slice aJ av.length aK) av) := ⟨(by rw [hw]; exact (by (with_reducible repeat (first | apply Kd.S_alloc | apply Kd.S_drewN | apply Kd.S_drew)); exact Kd.S_mono (Kd.S_far (p := ⟨am, 1, none⟩) (Kd.S_types al.out an.out (by decide)) (fun _ hk => hk.2) (.slice a5 aT.length a6)) (fun _ hk => ⟨hk.1.1, hk.1.2⟩)))⟩; have aG : Aside0 (Kd.R (Kd.int .i64) 3 bU wN_.heap.size (fun k_ => some k_ ≠ (.slice ao ag.length ap : Value).ownBlock) (.slice a5 aT.length a6) aT) := ⟨(by rw [hw]; exact (by (with_reducible repeat (first | apply Kd.R_alloc | apply Kd.R_drewN | apply Kd.R_drew)); exact Kd.R_mono (Kd.R_far (p := ⟨am, 1, none⟩) (Kd.R_types bh.out an.out (by decide)) (fun _ hk => hk.2) (.slice a5 aT.length a6)) (fun _ hk => hk.1)))⟩; have aW : Aside0 (bU.heap[ad]? = some (.cells #[.slice ao ag.length ap, .int .i64 a0_1, .slice aJ av.length aK, .slice (some bg) af.length aw] 28 (0, 0))) := ⟨(by rw [hw]; exact (zh aa a2))⟩; have aZ : Aside0 (bU.heap[ah]? = some (.cells #[.slice none 0 0, .int .i64 0, .slice none 0 0, .slice none 0 0] 28 (0, 0))) := ⟨(by rw [hw]; exact (zh ac a3))⟩; have a7 : Aside0 (bU.heap[am]? = some (.cells #[.int .i64 ((rd_T74 af aq).f0), .slice a5 aT.length a6] 74 (0, 0))) := ⟨(by rw [hw]; exact (by (with_reducible repeat (first | refine zN ?_ _ | refine zD ?_ | refine zA ?_ _)); refine blk_put (cs := #[.int .i64 ((rd_T74 af aq).f0), .slice aU ((rd_T74 af aq).f1).length aV]) ?_ 1 _ rfl; (with_reducible repeat (first | refine zN ?_ _ | refine zD ?_ | refine zA ?_ _)); exact an.out))⟩; have bz : Aside0 (Below w.heap.size w bU) := ⟨(by rw [hw]; exact (zb HB))⟩; have nN_ : Aside0 (Below 0 wN_ bU) := ⟨(by rw [hw]; exact (zb HN))⟩; clear hw; clear aH; clear ab; clear al; clear bh; clear aa; clear ac; clear an; clear HB; clear HN; have aH := aC; have ab := aD; have al := aE; have bh := aG; have aa := aW; have ac := aZ; have an := a7; have HB := bz; have HN := nN_; clear nN_; clear aC aD aE aG aW aZ a7 bz; obtain ⟨hcz55_0, hcz55_1⟩ := zL2 an; obtain ⟨hfz55_0, hfz55_1⟩ := zF2 an) | ((with_reducible refine gate_builtin (b := .append) (xs := #[.tmp 56, .tmp 58]) rfl ?_); at_builtin; refine Kd.S_append k74 (w0 := ?aW1) wN_.heap.size rfl (.tmp 56) (.tmp 58) 26 74 (.agg #[(.int .i64 0), (.slice none 0 0)]) 32 rfl Try.underlying26 info74 rfl (by decide) (by omega) u6 aY (⟨(rd_T74 af aq).f0, aT⟩ : S74) [.int .i64 ((rd_T74 af aq).f0), .slice a5 aT.length a6] (fun k_ => some k_ ≠ (.slice ao ag.length ap : Value).ownBlock ∧ k_ ≠ am) (fun k_ => some k_ = (.slice a5 aT.length a6 : Value).ownBlock) rfl rfl ?aP (fun k_ hk_ => ((Kd.R_mono (ok' := fun k_ => ((fun k_ => some k_ ≠ (.slice ao ag.length ap : Value).ownBlock ∧ k_ ≠ am)) k_ ∧ some k_ ≠ (u6 : Value).ownBlock) (Kd.R_types (Kd.R_apart' (bh.out) (Kd.S_typed aH.out) (by decide)) an.out (by decide)) (fun k_ hk => ⟨⟨hk.1.1, hk.2⟩, hk.1.2⟩))).1 k_ hk_.symm) ?aF ?aO ?aB ?aS ?aL ?_; (case aP => exact k74_mkM _ _ _ (⟨(rd_T74 af aq).f0, aT⟩ : S74) (Kd.R_mono (Kd.R_tight rfl (Kd.R_mono (ok' := fun k_ => ((fun k_ => some k_ ≠ (.slice ao ag.length ap : Value).ownBlock ∧ k_ ≠ am)) k_ ∧ some k_ ≠ (u6 : Value).ownBlock) (Kd.R_types (Kd.R_apart' (bh.out) (Kd.S_typed aH.out) (by decide)) an.out (by decide)) (fun k_ hk => ⟨⟨hk.1.1, hk.2⟩, hk.1.2⟩))) (fun _ h_ => h_))); (case aB => exact Below.refl _ _); (case aF => exact (fun k_ hk => ⟨Kd.fresh' (Kd.R_lt (zR ab)) k_ hk, Kd.freshB (g := am) (o := .cells #[.int .i64 ((rd_T74 af aq).f0), .slice a5 aT.length a6] 74 (0, 0)) (zk an) k_ hk⟩)); (case aO => exact (by (with_reducible repeat (first | apply Kd.S_alloc | apply Kd.S_drewN | apply Kd.S_drew)); exact Kd.S_mono aH.out (fun k_ hk => ⟨⟨hk.1, hk.2.2⟩, fun e_ => hk.2.1 e_⟩))); (case aS => exact size0 (zb HN)); (case aL => have := cM.out; omega); intro v215 w56 ho hb hg hat; rw [← Ny214.out] at ho; have aC := zK (Kd.R_over' (zR ab) (Kd.S_typed (zT aH)) (by decide) hg); have aD := zK (Kd.S_over' (zT al) (Kd.S_typed (zT aH)) (by decide) hg); have aE := zK (blk_grown (g := ad) (o := .cells #[.slice ao ag.length ap, .int .i64 a0_1, .slice aJ av.length aK, .slice (some bg) af.length aw] 28 (0, 0)) (zk aa) hg (Kd.S_ne aH.out aa.out (by decide))); have aG := zK (blk_grown (g := ah) (o := .cells #[.slice none 0 0, .int .i64 0, .slice none 0 0, .slice none 0 0] 28 (0, 0)) (zk ac) hg (Kd.S_ne aH.out ac.out (by decide))); have aW := zK (blk_grown (g := am) (o := .cells #[.int .i64 ((rd_T74 af aq).f0), .slice a5 aT.length a6] 74 (0, 0)) (zk an) hg (Kd.S_away aH.out (fun _ hk => hk.2.2))); have aZ := zK (below_via (n := w.heap.size) (w := w) (zb HB) HW_N.out hb); have nN_ := zK (below_via (n := 0) (w := wN_) (zb HN) (Nat.zero_le _) hb); have a7 := zK (ho); clear ab; clear al; clear aa; clear ac; clear an; clear HB; clear HN; clear aH; clear bh; have ab := aC; have al := aD; have aa := aE; have ac := aG; have an := aW; have HB := aZ; have HN := nN_; clear nN_; have cP := a7; clear aC aD aE aG aW aZ a7; clear ho hb hg hat))
           go_roundg k2
           case measure => have := HK1.out; have := HK2.out; omega
           case rel => exact ⟨(cN), (wrap64 (aq + 1)), zf, H', ⟨by have := HK1.out; have := HK2.out; omega⟩, ⟨by (with_reducible repeat (first | apply Kd.S_alloc | apply Kd.S_drewN | apply Kd.S_drew)); exact Kd.S_mono cP.out (fun _ hk => hk.1)⟩, ⟨by (with_reducible repeat (first | apply Kd.R_alloc | apply Kd.R_drewN | apply Kd.R_drew)); exact Kd.R_mono ab.out (fun _ hk => trivial)⟩, ⟨by (with_reducible repeat (first | apply Kd.S_alloc | apply Kd.S_drewN | apply Kd.S_drew)); exact Kd.S_mono al.out (fun _ hk => hk.1)⟩, ⟨zk aa⟩, ⟨zk ac⟩, ⟨zb HB⟩, ⟨zb HN⟩⟩
          ·rw [if_neg c41] at H
           exact absurd H (by simp)
         ·rw [if_neg c40] at H
          exact absurd H (by simp)
        ·rw [if_neg c39] at H
         exact absurd H (by simp)
       ·rw [if_neg cw] at H
        have cK : decide (aq < (af.length : Int)) = false := decide_eq_false cw
        clear cw
        simp only [Option.some.injEq, Prod.mk.injEq] at H
        obtain ⟨rfl, rfl, rfl, rfl⟩ := H
        have hnb57 := aM.out; have hnc57 := ax.out
        obtain ⟨hcz58_0, hcz58_1, hcz58_2, hcz58_3⟩ := zL4 aa
        obtain ⟨hfz58_0, hfz58_1, hfz58_2, hfz58_3⟩ := zF4 aa
        obtain ⟨bs, bu, eo59⟩ := Kd.S_slice aH.out
        subst eo59
        obtain ⟨hcz60_0, hcz60_1, hcz60_2, hcz60_3⟩ := zL4 ac
        obtain ⟨hfz60_0, hfz60_1, hfz60_2, hfz60_3⟩ := zF4 ac
        go_wp2
        refine bodyPost_ret (results_cell_row rfl _ _ ah 28 #[.slice ao ag.length ap, .int .i64 a0_1, .slice aJ av.length aK, .slice bs aY.length bu] (0, 0) _ rfl (by (with_reducible repeat (first | refine zN ?_ _ | refine zD ?_ | refine zA ?_ _)); refine blk_put (cs := #[.slice ao ag.length ap, .int .i64 a0_1, .slice aJ av.length aK, .slice none 0 0]) ?_ 3 _ rfl; (with_reducible repeat (first | refine zN ?_ _ | refine zD ?_ | refine zA ?_ _)); refine blk_put (cs := #[.slice ao ag.length ap, .int .i64 a0_1, .slice none 0 0, .slice none 0 0]) ?_ 2 _ rfl; (with_reducible repeat (first | refine zN ?_ _ | refine zD ?_ | refine zA ?_ _)); refine blk_put (cs := #[.slice ao ag.length ap, .int .i64 0, .slice none 0 0, .slice none 0 0]) ?_ 1 _ rfl; (with_reducible repeat (first | refine zN ?_ _ | refine zD ?_ | refine zA ?_ _)); refine blk_put (cs := #[.slice none 0 0, .int .i64 0, .slice none 0 0, .slice none 0 0]) ?_ 0 _ rfl; (with_reducible repeat (first | refine zN ?_ _ | refine zD ?_ | refine zA ?_ _)); refine blk_far ?_ ax.out _; (with_reducible repeat (first | refine zN ?_ _ | refine zD ?_ | refine zA ?_ _)); exact ac.out) Try.underlying28 rfl (by kernel_rfl)) rfl ?_
        exact ⟨_, _, _, wN_.heap.size, ze, by (with_reducible repeat (first | apply Kd.R_alloc | apply Kd.R_drewN | apply Kd.R_drew)); exact Kd.R_mono (Kd.R_far (p := ⟨ah, 3, none⟩) (Kd.R_far (p := ⟨ah, 2, none⟩) (Kd.R_far (p := ⟨ah, 1, none⟩) (Kd.R_far (p := ⟨ah, 0, none⟩) (Kd.R_far (p := ⟨ad, 3, none⟩) (Kd.R_types (Kd.R_types ab.out aa.out (by decide)) ac.out (by decide)) (fun _ hk => hk.1.2) (.slice bs aY.length bu)) (fun _ hk => hk.2) (.slice ao ag.length ap)) (fun _ hk => hk.2) (.int .i64 a0_1)) (fun _ hk => hk.2) (.slice aJ av.length aK)) (fun _ hk => hk.2) (.slice bs aY.length bu)) (fun _ hk => trivial), by (with_reducible repeat (first | apply Kd.S_alloc | apply Kd.S_drewN | apply Kd.S_drew)); exact Kd.S_mono (Kd.S_far (p := ⟨ah, 3, none⟩) (Kd.S_far (p := ⟨ah, 2, none⟩) (Kd.S_far (p := ⟨ah, 1, none⟩) (Kd.S_far (p := ⟨ah, 0, none⟩) (Kd.S_far (p := ⟨ad, 3, none⟩) (Kd.S_types (Kd.S_types al.out aa.out (by decide)) ac.out (by decide)) (fun _ hk => hk.1.2) (.slice bs aY.length bu)) (fun _ hk => hk.2) (.slice ao ag.length ap)) (fun _ hk => hk.2) (.int .i64 a0_1)) (fun _ hk => hk.2) (.slice aJ av.length aK)) (fun _ hk => hk.2) (.slice bs aY.length bu)) (fun _ hk => hk.1.1), by (with_reducible repeat (first | apply Kd.S_alloc | apply Kd.S_drewN | apply Kd.S_drew)); exact Kd.S_mono (Kd.S_far (p := ⟨ah, 3, none⟩) (Kd.S_far (p := ⟨ah, 2, none⟩) (Kd.S_far (p := ⟨ah, 1, none⟩) (Kd.S_far (p := ⟨ah, 0, none⟩) (Kd.S_far (p := ⟨ad, 3, none⟩) (Kd.S_types (Kd.S_types aH.out aa.out (by decide)) ac.out (by decide)) (fun _ hk => hk.1.2) (.slice bs aY.length bu)) (fun _ hk => hk.2) (.slice ao ag.length ap)) (fun _ hk => hk.2) (.int .i64 a0_1)) (fun _ hk => hk.2) (.slice aJ av.length aK)) (fun _ hk => hk.2) (.slice bs aY.length bu)) (fun _ hk => hk.1.1), HW_N.out, zb HB⟩
 ·rw [if_neg c2] at H
  exact absurd H (by simp)
theorem spec_l05Copy.calls (k : Nat) (ad : Option Addr) (ae : Nat) (aa : List Int) (a0_1 : Int) (af : Option Addr) (ag : Nat) (ab : List (S69)) (ah : Option Addr) (ai : Nat) (ac : List (S74)) (r1 : List Int) (r2 : Int) (r3 : List (S69)) (r4 : List (S74)) (w : World) (aj : Kd.C (Kd.int .i64) w ad aa.length aa) (hc0_0 : aa.length ≤ ae) (ak : Kd.C k69 w af ab.length ab) (hc0_2 : ab.length ≤ ag) (al : Kd.C k74 w ah ac.length ac) (hc0_3 : ac.length ≤ ai) (h : spec_l05Copy.f k aa a0_1 ab ac = some (r1, r2, r3, r4)) :
  Calls Try.prog 68 #[.agg #[.slice ad aa.length ae, .int .i64 a0_1, .slice af ab.length ag, .slice ah ac.length ai]] w fun e w' => ∃ v0_ v2_ v3_ : Value, e = .returned (.agg #[v0_, .int .i64 r2, v2_, v3_]) ∧ Kd.R (Kd.int .i64) 3 w' w.heap.size (fun _ => True) v0_ r1 ∧ Kd.S k69 69 w' w.heap.size (fun k_ => some k_ ≠ (v0_ : Value).ownBlock) v2_ r3 ∧ Kd.S k74 74 w' w.heap.size (fun k_ => some k_ ≠ (v0_ : Value).ownBlock) v3_ r4 ∧ Below w.heap.size w w' :=
 (spec_l05Copy.calls2 k ad ae aa a0_1 af ag ab ah ai ac r1 r2 r3 r4 w aj hc0_0 ak hc0_2 al hc0_3 h).mono fun e w' ⟨v0, v2, v3, N, he, h0, h2, h3, hN, hb⟩ => ⟨v0, v2, v3, he, h0, Kd.S_mono h2 (fun _ hk => hk.1), Kd.S_lower h3 hN, hb⟩
def spec_l05Wants.l0 : Nat → Int → Int → Int → List Int → Int → List (S69) → List (S74) → Option (Bool)
 | 0, _, _, _, _, _, _, _ => none
 | k + 1, a, b, c, d, e, f, g => if c < (g.length : Int) then (if 0 ≤ c then (if ((rd_T74 g c).f0) = a then ((spec_l03Has.f k ((rd_T74 g c).f1) b).bind fun i => (some i)) else (spec_l05Wants.l0 k a b (wrap64 (c + 1)) d e f g)) else (none)) else (some false)
def spec_l05Wants.f (k : Nat) (a : List Int) (b : Int) (c : List (S69)) (d : List (S74)) (e : Int) (f : Int) : Option (Bool) := spec_l05Wants.l0 k e f 0 a b c d
set_option maxHeartbeats 8000000 in
set_option maxRecDepth 100000 in
theorem spec_l05Wants.calls (k : Nat) (am : Option Addr) (an : Nat) (ai : List Int) (a0_1 : Int) (ao : Option Addr) (ap : Nat) (aj : List (S69)) (aq : Option Addr) (ar : Nat) (ab : List (S74)) (a1 : Int) (a2 : Int) (r : Bool) (w : World) (aG : Kd.C (Kd.int .i64) w am ai.length ai) (hc0_0 : ai.length ≤ an) (aH : Kd.C k69 w ao aj.length aj) (hc0_2 : aj.length ≤ ap) (aI : Kd.C k74 w aq ab.length ab) (hc0_3 : ab.length ≤ ar) (h : spec_l05Wants.f k ai a0_1 aj ab a1 a2 = some r) :
  Calls Try.prog 91 #[.agg #[.slice am ai.length an, .int .i64 a0_1, .slice ao aj.length ap, .slice aq ab.length ar], .int .i64 a1, .int .i64 a2] w fun e w' => e = .returned (.bool r) ∧ Below w.heap.size w w' := by
 have hu28 := Try.underlying28; have HR0_0 := zK aG; have HC0_0 := zK hc0_0; clear aG hc0_0; have HR0_2 := zK aH; have HC0_2 := zK hc0_2; clear aH hc0_2; have az := zK aI; have HC0_3 := zK hc0_3; clear aI hc0_3
 have HB := zK (Below.refl w.heap.size w)
 have H := h; unfold spec_l05Wants.f at H
 clear h; have H' := zK H; clear H
 go_enter Try.func91, Try.ntmps91
 go_wp2_with ((with_reducible refine gate_dst (N := 3) rfl ?_); refine zX 3 #[.slice am ai.length an, .int .i64 a0_1, .slice ao aj.length ap, .slice aq ab.length ar] 28 ?_; intro ad hg w4 hbox hb; have aa := zK (hbox); have GW217 := zK ((by rw [hg]; exact (below_size (zb HB)) : w.heap.size ≤ ad)); have aw := zK ((by rw [hg]; exact (below_size (zb HB)) : w.heap.size ≤ ad)); replace HB := zK (below_step (zb HB) hb); clear hb hbox hg)
 go_loopg [7] k (fun kq v7 w' => ∃ (ac : Int), v7 = .int .i64 ac ∧ Aside0 (spec_l05Wants.l0 kq a1 a2 ac ai a0_1 aj ab = some r) ∧ Aside0 (kq ≤ k) ∧ Aside0 (w'.heap[ad]? = some (.cells #[(.slice am ai.length an), .int .i64 a0_1, (.slice ao aj.length ap), (.slice aq ab.length ar)] 28 (0, 0))) ∧ Aside0 (Below w.heap.size w w'))
 case atStart => exact ⟨(0), zf, H', ⟨Nat.le_refl _⟩, ⟨zk aa⟩, ⟨zb HB⟩⟩
 case round =>
  clear H'
  obtain ⟨ac, rfl, HA, HK1, aa, HB⟩ := hrel
  cases gk with
  | zero => exact absurd HA.out (by simp [spec_l05Wants.l0])
  | succ k1 =>
   have H := HA.out; clear HA
   simp only [spec_l05Wants.l0] at H
   by_cases c5 : ac < (ab.length : Int)
   ·rw [if_pos c5] at H
    have c5b0 : decide (ac < (ab.length : Int)) = true := decide_eq_true c5
    clear c5
    by_cases c6 : 0 ≤ ac
    ·rw [if_pos c6] at H
     have c6b0 : decide (0 ≤ ac) = true := decide_eq_true c6
     clear c6
     by_cases c7 : ((rd_T74 ab ac).f0) = a1
     ·rw [if_pos c7] at H
      have c7b0 : (((rd_T74 ab ac).f0) == a1) = true := beq_iff_eq.mpr c7
      have c7b1 : (((rd_T74 ab ac).f0) != a1) = false := bne_eq_false_iff_eq.mpr c7
      clear c7; replace H := Option.bind_eq_some_iff.mp H
      obtain ⟨aN, A80, H⟩ := H
      (try dsimp only at H)
      have A8 := zK A80; clear A80; obtain rfl := Option.some.inj H
      obtain ⟨hcz9_0, hcz9_1, hcz9_2, hcz9_3⟩ := zL4 aa
      obtain ⟨hfz9_0, hfz9_1, hfz9_2, hfz9_3⟩ := zF4 aa
      have au : 0 ≤ (ac : Int) := zd
      have av : ac < (ab.length : Int) := zd
      obtain ⟨aJ, aA, aB, aK, af, ae, ag, ah⟩ := at_T74 az.out ac au av
      cases aK
      replace af := (HB.out.cell (World.block_lt_of_cell? w _ af)).trans af
      replace ae := (HB.out.cell (World.block_lt_of_cell? w _ ae)).trans ae
      have aC := zK ah; have aD := zK ag; clear ah ag; replace au := eq_true au; replace av := eq_true av
      have aL : 0 ≤ (ac : Int) := zd
      have aM : ac < (ab.length : Int) := zd
      obtain ⟨aO, A219_1, c219_1, e219, al, ak, ax, ay⟩ := at_T74 az.out ac aL aM
      obtain rfl : aJ = aO := (by injection e219)
      replace al := (HB.out.cell (World.block_lt_of_cell? w _ al)).trans al
      replace ak := (HB.out.cell (World.block_lt_of_cell? w _ ak)).trans ak
      have aE := zK ay; have aF := zK ax; clear ay ax; replace aL := eq_true aL; replace aM := eq_true aM
      have ea_ := Option.some.inj (ae.symm.trans ak)
      injection ea_ with ea_ en_ ec_
      subst ea_; subst ec_; clear en_
      go_wp2_with ((with_reducible refine gate_callee (f := 55) rfl ?_); refine goesL_ (some 30) rfl rfl Try.func55 (by kernel_rfl) rfl #[.slice aA ((rd_T74 ab ac).f1).length aB, .int .i64 a2] rfl zg ?_; (with_reducible refine (spec_l03Has.calls k1 _ _ ((rd_T74 ab ac).f1) a2 aN _ ?side1 ?side2 A8.out).mono ?_); (case side1 => exact zs (Kd.C_below aE.out HB.out)); (case side2 => exact aF.out); rintro e w' ⟨rfl, ⟨nd, rfl⟩⟩; refine ⟨_, rfl, ?_⟩)
      go_ret
      exact ⟨ze, zb HB⟩
     ·rw [if_neg c7] at H
      have c7b0 : (((rd_T74 ab ac).f0) == a1) = false := beq_eq_false_iff_ne.mpr c7
      have c7b1 : (((rd_T74 ab ac).f0) != a1) = true := bne_iff_ne.mpr c7
      have H' := zK H; clear H
      obtain ⟨hcz10_0, hcz10_1, hcz10_2, hcz10_3⟩ := zL4 aa
      obtain ⟨hfz10_0, hfz10_1, hfz10_2, hfz10_3⟩ := zF4 aa
      have au : 0 ≤ (ac : Int) := zd
      have av : ac < (ab.length : Int) := zd
      obtain ⟨aJ, aA, aB, aK, af, ae, ag, ah⟩ := at_T74 az.out ac au av
      cases aK
      replace af := (HB.out.cell (World.block_lt_of_cell? w _ af)).trans af
      replace ae := (HB.out.cell (World.block_lt_of_cell? w _ ae)).trans ae
      have aC := zK ah; have aD := zK ag; clear ah ag; replace au := eq_true au; replace av := eq_true av
      go_wp2
      go_roundg k1
      case measure => have := HK1.out; omega
      case rel => exact ⟨(wrap64 (ac + 1)), zf, H', ⟨by have := HK1.out; omega⟩, ⟨zk aa⟩, ⟨zb HB⟩⟩
    ·rw [if_neg c6] at H
     exact absurd H (by simp)
   ·rw [if_neg c5] at H
    have c5b0 : decide (ac < (ab.length : Int)) = false := decide_eq_false c5
    clear c5; obtain rfl := Option.some.inj H
    obtain ⟨hcz11_0, hcz11_1, hcz11_2, hcz11_3⟩ := zL4 aa
    obtain ⟨hfz11_0, hfz11_1, hfz11_2, hfz11_3⟩ := zF4 aa
    go_wp2
    go_ret
    exact ⟨ze, zb HB⟩
end Go.Proofs.Ytmjhbdmicejppaa.Px
