import Derived.Test.YtmjhbdmicejppaaZgPx0
namespace Go.Proofs.Ytmjhbdmicejppaa.Px
open Go.RowKit Go.Proofs.YtmjhbdmicejppaaW.PrintWords Go.Proofs.YtmjhbdmicejppaaW.PrintLast Go.Proofs.YtmjhbdmicejppaaW.PrintMore
attribute [local go_sem] max2_int min2_int max_two min_two max_three min_three max_four min_four   
set_option linter.unusedVariables false
set_option linter.unusedSimpArgs false
def laws_szIntS.f (l0 : List Int) (a1 : Int) : Option (Int) := if (wrap64 (a1 - (l0.length : Int))) < 0 then (some (-1)) else (some (wrap64 (a1 - (l0.length : Int))))
set_option maxHeartbeats 8000000 in
set_option maxRecDepth 100000 in
theorem laws_szIntS.calls (A0 : Option Addr) (c0 : Nat) (l0 : List Int) (a1 : Int) (r : Int) (w : World) (hr0 : Kd.C (Kd.int .i64) w A0 l0.length l0) (hc0 : l0.length ≤ c0) (h : laws_szIntS.f l0 a1 = some r) :
  Calls Try.prog 70 #[.slice A0 l0.length c0, .int .i64 a1] w fun e w' => e = .returned (.int .i64 r) ∧ Drawn0 w w' := by
 have HR0 := zK hr0; have HC0 := zK hc0; clear hr0 hc0
 have H : (if (wrap64 (a1 - (l0.length : Int))) < 0 then (some (-1)) else (some (wrap64 (a1 - (l0.length : Int))))) = some r := h
 clear h
 by_cases c3 : (wrap64 (a1 - (l0.length : Int))) < 0
 ·rw [if_pos c3] at H
  have c3b0 : decide ((wrap64 (a1 - (l0.length : Int))) < 0) = true := decide_eq_true c3
  clear c3; obtain rfl := Option.some.inj H
  go_enter Try.func70, Try.ntmps70
  go_wp2
  go_ret
  exact ⟨by first | rfl | (simp; done) | (simp [*]; done), by repeat (first | exact Drawn0.refl _ | apply Drawn0.step)⟩
 ·rw [if_neg c3] at H
  have c3b0 : decide ((wrap64 (a1 - (l0.length : Int))) < 0) = false := decide_eq_false c3
  clear c3; obtain rfl := Option.some.inj H
  go_enter Try.func70, Try.ntmps70
  go_wp2
  go_ret
  exact ⟨by first | rfl | (simp; done) | (simp [*]; done), by repeat (first | exact Drawn0.refl _ | apply Drawn0.step)⟩
def laws_szChute.f (a0_0 : Int) (a0_1 : Int) (l0_2 : List Int) (a1 : Int) : Option (Int) := (laws_szIntS.f l0_2 a1).bind fun t608 => (if t608 < 0 then (some (-1)) else (some t608))
set_option maxHeartbeats 8000000 in
set_option maxRecDepth 100000 in
theorem laws_szChute.calls (a0_0 : Int) (a0_1 : Int) (ae : Option Addr) (af : Nat) (ac : List Int) (a1 : Int) (r : Int) (w : World) (ah : Kd.C (Kd.int .i64) w ae ac.length ac) (hc0_2 : ac.length ≤ af) (h : laws_szChute.f a0_0 a0_1 ac a1 = some r) :
  Calls Try.prog 96 #[.agg #[.int .i64 a0_0, .int .i64 a0_1, .slice ae ac.length af], .int .i64 a1] w fun e w' => e = .returned (.int .i64 r) ∧ Below w.heap.size w w' := by
 have hu95 := Try.underlying95; have ai := zK ah; have aj := zK hc0_2; clear ah hc0_2
 have HB := zK (Below.refl w.heap.size w)
 have H : ((laws_szIntS.f ac a1).bind fun ad => (if ad < 0 then (some (-1)) else (some ad))) = some r := h
 clear h; replace H := Option.bind_eq_some_iff.mp H
 obtain ⟨ad, A30, H⟩ := H
 replace H : (if ad < 0 then (some (-1)) else (some ad)) = some r := H
 have A3 := zK A30; clear A30
 by_cases c4 : ad < 0
 ·rw [if_pos c4] at H
  have c4b0 : decide (ad < 0) = true := decide_eq_true c4
  clear c4; obtain rfl := Option.some.inj H
  go_enter Try.func96, Try.ntmps96
  go_wp2_with (first | ((with_reducible refine gate_dst (N := 2) rfl ?_); refine zX 2 #[.int .i64 a0_0, .int .i64 a0_1, .slice ae ac.length af] 95 ?_; intro ab hg w5 hbox hb; have ak := zK (below_step (zb HB) hb); have al := zK (hbox); have am := zK ((by rw [hg]; exact (below_size (zb HB)) : w.heap.size ≤ ab)); have an := zK ((by rw [hg]; exact (below_size (zb HB)) : w.heap.size ≤ ab)); clear HB; have HB := ak; have aa := al; have ao := am; have ag := an; clear ak al am an; clear hb hbox hg; have hcz6_0 : w5.cell? ⟨ab, 0, none⟩ = some (.int .i64 a0_0) := (blk_cell aa.out 0).trans rfl; have hcz6_1 : w5.cell? ⟨ab, 1, none⟩ = some (.int .i64 a0_1) := (blk_cell aa.out 1).trans rfl; have hcz6_2 : w5.cell? ⟨ab, 2, none⟩ = some (.slice ae ac.length af) := (blk_cell aa.out 2).trans rfl; have hfz6_0 := blk_frozen aa.out 0; have hfz6_1 := blk_frozen aa.out 1; have hfz6_2 := blk_frozen aa.out 2) | ((with_reducible refine gate_callee (f := 70) rfl ?_); refine goesL_ (some 8) rfl rfl Try.func70 (by kernel_rfl) rfl #[.slice ae ac.length af, .int .i64 a1] rfl zg ?_; (with_reducible refine (laws_szIntS.calls _ _ ac a1 ad _ ?side1 ?side2 A3.out).mono ?_); (case side1 => exact zs (Kd.C_below ai.out HB.out)); (case side2 => exact aj.out); rintro e w' ⟨rfl, ⟨nd, rfl⟩⟩; refine ⟨_, rfl, ?_⟩))
  go_ret
  exact ⟨ze, zb HB⟩
 ·rw [if_neg c4] at H
  have c4b0 : decide (ad < 0) = false := decide_eq_false c4
  clear c4; obtain rfl := Option.some.inj H
  go_enter Try.func96, Try.ntmps96
  go_wp2_with (first | ((with_reducible refine gate_dst (N := 2) rfl ?_); refine zX 2 #[.int .i64 a0_0, .int .i64 a0_1, .slice ae ac.length af] 95 ?_; intro ab hg w7 hbox hb; have ak := zK (below_step (zb HB) hb); have al := zK (hbox); have am := zK ((by rw [hg]; exact (below_size (zb HB)) : w.heap.size ≤ ab)); have an := zK ((by rw [hg]; exact (below_size (zb HB)) : w.heap.size ≤ ab)); clear HB; have HB := ak; have aa := al; have ao := am; have ag := an; clear ak al am an; clear hb hbox hg; have hcz8_0 : w7.cell? ⟨ab, 0, none⟩ = some (.int .i64 a0_0) := (blk_cell aa.out 0).trans rfl; have hcz8_1 : w7.cell? ⟨ab, 1, none⟩ = some (.int .i64 a0_1) := (blk_cell aa.out 1).trans rfl; have hcz8_2 : w7.cell? ⟨ab, 2, none⟩ = some (.slice ae ac.length af) := (blk_cell aa.out 2).trans rfl; have hfz8_0 := blk_frozen aa.out 0; have hfz8_1 := blk_frozen aa.out 1; have hfz8_2 := blk_frozen aa.out 2) | ((with_reducible refine gate_callee (f := 70) rfl ?_); refine goesL_ (some 8) rfl rfl Try.func70 (by kernel_rfl) rfl #[.slice ae ac.length af, .int .i64 a1] rfl zg ?_; (with_reducible refine (laws_szIntS.calls _ _ ac a1 ad _ ?side1 ?side2 A3.out).mono ?_); (case side1 => exact zs (Kd.C_below ai.out HB.out)); (case side2 => exact aj.out); rintro e w' ⟨rfl, ⟨nd, rfl⟩⟩; refine ⟨_, rfl, ?_⟩))
  go_ret
  exact ⟨ze, zb HB⟩
def laws_szChuteS.l0 : Nat → List (S95) → Int → Int → Option (Int)
 | 0, _, _, _ => none
 | k + 1, x0, x1, x5 => if x5 < (x0.length : Int) then (if 0 ≤ x5 then ((laws_szChute.f ((rd_T95 x0 x5).f0) ((rd_T95 x0 x5).f1) ((rd_T95 x0 x5).f2) x1).bind fun t610 => (if t610 < 0 then (some (-1)) else (laws_szChuteS.l0 k x0 t610 (wrap64 (x5 + 1))))) else (none)) else (some x1)
def laws_szChuteS.f (k : Nat) (l0 : List (S95)) (a1 : Int) : Option (Int) := if (wrap64 (a1 - (l0.length : Int))) < 0 then (some (-1)) else (laws_szChuteS.l0 k l0 (wrap64 (a1 - (l0.length : Int))) 0)
set_option maxHeartbeats 8000000 in
set_option maxRecDepth 100000 in
theorem laws_szChuteS.calls (k : Nat) (A0 : Option Addr) (c0 : Nat) (l0 : List (S95)) (a1 : Int) (r : Int) (w : World) (hr0 : Kd.C k95 w A0 l0.length l0) (hc0 : l0.length ≤ c0) (h : laws_szChuteS.f k l0 a1 = some r) :
  Calls Try.prog 71 #[.slice A0 l0.length c0, .int .i64 a1] w fun e w' => e = .returned (.int .i64 r) ∧ Below w.heap.size w w' := by
 have hu95 := Try.underlying95; have HR0 := zK hr0; have HC0 := zK hc0; clear hr0 hc0
 have HB := zK (Below.refl w.heap.size w)
 have H : (if (wrap64 (a1 - (l0.length : Int))) < 0 then (some (-1)) else (laws_szChuteS.l0 k l0 (wrap64 (a1 - (l0.length : Int))) 0)) = some r := h
 clear h
 by_cases c3 : (wrap64 (a1 - (l0.length : Int))) < 0
 ·rw [if_pos c3] at H
  have ap : decide ((wrap64 (a1 - (l0.length : Int))) < 0) = true := decide_eq_true c3
  clear c3; obtain rfl := Option.some.inj H
  go_enter Try.func71, Try.ntmps71
  go_wp2
  go_ret
  exact ⟨ze, zb HB⟩
 ·rw [if_neg c3] at H
  have ap : decide ((wrap64 (a1 - (l0.length : Int))) < 0) = false := decide_eq_false c3
  clear c3; have H' := zK H; clear H
  go_enter Try.func71, Try.ntmps71
  go_wp2
  go_loopg [1, 5] k (fun kq v1 v5 w' => ∃ (aj : Int) (aa : Int), v1 = .int .i64 aj ∧ v5 = .int .i64 aa ∧ Aside0 (laws_szChuteS.l0 kq l0 aj aa = some r) ∧ Aside0 (kq ≤ k) ∧ Aside0 (Below w.heap.size w w'))
  case atStart => exact ⟨(wrap64 (a1 - (l0.length : Int))), (0), zf, zf, H', ⟨Nat.le_refl _⟩, ⟨zb HB⟩⟩
  case round =>
   clear H' ap
   obtain ⟨aj, aa, rfl, rfl, HA, HK1, HB⟩ := hrel
   cases gk with
   | zero => exact absurd HA.out (by simp [laws_szChuteS.l0])
   | succ k1 =>
    have H := HA.out; clear HA
    simp only [laws_szChuteS.l0] at H
    by_cases c4 : aa < (l0.length : Int)
    ·rw [if_pos c4] at H
     have c4b0 : decide (aa < (l0.length : Int)) = true := decide_eq_true c4
     clear c4
     by_cases c5 : 0 ≤ aa
     ·rw [if_pos c5] at H
      have c5b0 : decide (0 ≤ aa) = true := decide_eq_true c5
      clear c5; replace H := Option.bind_eq_some_iff.mp H
      obtain ⟨ai, A60, H⟩ := H
      replace H : (if ai < 0 then (some (-1)) else (laws_szChuteS.l0 k1 l0 ai (wrap64 (aa + 1)))) = some r := H
      have A6 := zK A60; clear A60
      by_cases c7 : ai < 0
      ·rw [if_pos c7] at H
       have c7b0 : decide (ai < 0) = true := decide_eq_true c7
       clear c7; obtain rfl := Option.some.inj H
       have ak : 0 ≤ (aa : Int) := zd
       have al : aa < (l0.length : Int) := zd
       obtain ⟨aq, am, an, ao, ab, ac, ad, ae, af⟩ := at_T95 HR0.out aa ak al
       cases ao
       replace ab := (HB.out.cell (World.block_lt_of_cell? w _ ab)).trans ab
       replace ac := (HB.out.cell (World.block_lt_of_cell? w _ ac)).trans ac
       replace ad := (HB.out.cell (World.block_lt_of_cell? w _ ad)).trans ad
       have ag := zK af; have ah := zK ae; clear af ae; replace ak := eq_true ak; replace al := eq_true al
       go_wp2_with (first | ((with_reducible refine gate_callee (f := 96) rfl ?_); refine goesL_ (some 23) rfl rfl Try.func96 (by kernel_rfl) rfl #[.agg #[.int .i64 ((rd_T95 l0 aa).f0), .int .i64 ((rd_T95 l0 aa).f1), .slice am ((rd_T95 l0 aa).f2).length an], .int .i64 aj] rfl zg ?_; (with_reducible refine (laws_szChute.calls ((rd_T95 l0 aa).f0) ((rd_T95 l0 aa).f1) _ _ ((rd_T95 l0 aa).f2) aj ai _ ?side1 ?side2 A6.out).mono ?_); (case side1 => exact zs (Kd.C_below ag.out HB.out)); (case side2 => exact ah.out); rintro e w8 ⟨rfl, hb⟩; refine ⟨_, rfl, ?_⟩; have ar := zK (below_step (zb HB) hb); clear HB; have HB := ar; clear ar; (try clear hb)))
       go_ret
       exact ⟨ze, zb HB⟩
      ·rw [if_neg c7] at H
       have c7b0 : decide (ai < 0) = false := decide_eq_false c7
       clear c7; have H' := zK H; clear H
       have ak : 0 ≤ (aa : Int) := zd
       have al : aa < (l0.length : Int) := zd
       obtain ⟨aq, am, an, ao, ab, ac, ad, ae, af⟩ := at_T95 HR0.out aa ak al
       cases ao
       replace ab := (HB.out.cell (World.block_lt_of_cell? w _ ab)).trans ab
       replace ac := (HB.out.cell (World.block_lt_of_cell? w _ ac)).trans ac
       replace ad := (HB.out.cell (World.block_lt_of_cell? w _ ad)).trans ad
       have ag := zK af; have ah := zK ae; clear af ae; replace ak := eq_true ak; replace al := eq_true al
       go_wp2_with (first | ((with_reducible refine gate_callee (f := 96) rfl ?_); refine goesL_ (some 23) rfl rfl Try.func96 (by kernel_rfl) rfl #[.agg #[.int .i64 ((rd_T95 l0 aa).f0), .int .i64 ((rd_T95 l0 aa).f1), .slice am ((rd_T95 l0 aa).f2).length an], .int .i64 aj] rfl zg ?_; (with_reducible refine (laws_szChute.calls ((rd_T95 l0 aa).f0) ((rd_T95 l0 aa).f1) _ _ ((rd_T95 l0 aa).f2) aj ai _ ?side1 ?side2 A6.out).mono ?_); (case side1 => exact zs (Kd.C_below ag.out HB.out)); (case side2 => exact ah.out); rintro e w9 ⟨rfl, hb⟩; refine ⟨_, rfl, ?_⟩; have ar := zK (below_step (zb HB) hb); clear HB; have HB := ar; clear ar; (try clear hb)))
       go_roundg k1
       case measure => have := HK1.out; omega
       case rel => exact ⟨(ai), (wrap64 (aa + 1)), zf, zf, H', ⟨by have := HK1.out; omega⟩, ⟨zb HB⟩⟩
     ·rw [if_neg c5] at H
      exact absurd H (by simp)
    ·rw [if_neg c4] at H
     have c4b0 : decide (aa < (l0.length : Int)) = false := decide_eq_false c4
     clear c4; obtain rfl := Option.some.inj H
     go_wp2
     go_ret
     exact ⟨ze, zb HB⟩
def laws_szWant.f (a0_0 : Int) (l0_1 : List Int) (a1 : Int) : Option (Int) := (laws_szIntS.f l0_1 a1).bind fun t612 => (if t612 < 0 then (some (-1)) else (some t612))
set_option maxHeartbeats 8000000 in
set_option maxRecDepth 100000 in
theorem laws_szWant.calls (a0_0 : Int) (ae : Option Addr) (af : Nat) (aa : List Int) (a1 : Int) (r : Int) (w : World) (ah : Kd.C (Kd.int .i64) w ae aa.length aa) (hc0_1 : aa.length ≤ af) (h : laws_szWant.f a0_0 aa a1 = some r) :
  Calls Try.prog 97 #[.agg #[.int .i64 a0_0, .slice ae aa.length af], .int .i64 a1] w fun e w' => e = .returned (.int .i64 r) ∧ Below w.heap.size w w' := by
 have hu97 := Try.underlying97; have ai := zK ah; have aj := zK hc0_1; clear ah hc0_1
 have HB := zK (Below.refl w.heap.size w)
 have H : ((laws_szIntS.f aa a1).bind fun ad => (if ad < 0 then (some (-1)) else (some ad))) = some r := h
 clear h; replace H := Option.bind_eq_some_iff.mp H
 obtain ⟨ad, A30, H⟩ := H
 replace H : (if ad < 0 then (some (-1)) else (some ad)) = some r := H
 have A3 := zK A30; clear A30
 by_cases c4 : ad < 0
 ·rw [if_pos c4] at H
  have c4b0 : decide (ad < 0) = true := decide_eq_true c4
  clear c4; obtain rfl := Option.some.inj H
  go_enter Try.func97, Try.ntmps97
  go_wp2_with (first | ((with_reducible refine gate_dst (N := 2) rfl ?_); refine zX 2 #[.int .i64 a0_0, .slice ae aa.length af] 97 ?_; intro ab hg w5 hbox hb; have ak := zK (below_step (zb HB) hb); have al := zK (hbox); have am := zK ((by rw [hg]; exact (below_size (zb HB)) : w.heap.size ≤ ab)); have an := zK ((by rw [hg]; exact (below_size (zb HB)) : w.heap.size ≤ ab)); clear HB; have HB := ak; have ac := al; have ao := am; have ag := an; clear ak al am an; clear hb hbox hg; have hcz6_0 : w5.cell? ⟨ab, 0, none⟩ = some (.int .i64 a0_0) := (blk_cell ac.out 0).trans rfl; have hcz6_1 : w5.cell? ⟨ab, 1, none⟩ = some (.slice ae aa.length af) := (blk_cell ac.out 1).trans rfl; have hfz6_0 := blk_frozen ac.out 0; have hfz6_1 := blk_frozen ac.out 1) | ((with_reducible refine gate_callee (f := 70) rfl ?_); refine goesL_ (some 8) rfl rfl Try.func70 (by kernel_rfl) rfl #[.slice ae aa.length af, .int .i64 a1] rfl zg ?_; (with_reducible refine (laws_szIntS.calls _ _ aa a1 ad _ ?side1 ?side2 A3.out).mono ?_); (case side1 => exact zs (Kd.C_below ai.out HB.out)); (case side2 => exact aj.out); rintro e w' ⟨rfl, ⟨nd, rfl⟩⟩; refine ⟨_, rfl, ?_⟩))
  go_ret
  exact ⟨ze, zb HB⟩
 ·rw [if_neg c4] at H
  have c4b0 : decide (ad < 0) = false := decide_eq_false c4
  clear c4; obtain rfl := Option.some.inj H
  go_enter Try.func97, Try.ntmps97
  go_wp2_with (first | ((with_reducible refine gate_dst (N := 2) rfl ?_); refine zX 2 #[.int .i64 a0_0, .slice ae aa.length af] 97 ?_; intro ab hg w7 hbox hb; have ak := zK (below_step (zb HB) hb); have al := zK (hbox); have am := zK ((by rw [hg]; exact (below_size (zb HB)) : w.heap.size ≤ ab)); have an := zK ((by rw [hg]; exact (below_size (zb HB)) : w.heap.size ≤ ab)); clear HB; have HB := ak; have ac := al; have ao := am; have ag := an; clear ak al am an; clear hb hbox hg; have hcz8_0 : w7.cell? ⟨ab, 0, none⟩ = some (.int .i64 a0_0) := (blk_cell ac.out 0).trans rfl; have hcz8_1 : w7.cell? ⟨ab, 1, none⟩ = some (.slice ae aa.length af) := (blk_cell ac.out 1).trans rfl; have hfz8_0 := blk_frozen ac.out 0; have hfz8_1 := blk_frozen ac.out 1) | ((with_reducible refine gate_callee (f := 70) rfl ?_); refine goesL_ (some 8) rfl rfl Try.func70 (by kernel_rfl) rfl #[.slice ae aa.length af, .int .i64 a1] rfl zg ?_; (with_reducible refine (laws_szIntS.calls _ _ aa a1 ad _ ?side1 ?side2 A3.out).mono ?_); (case side1 => exact zs (Kd.C_below ai.out HB.out)); (case side2 => exact aj.out); rintro e w' ⟨rfl, ⟨nd, rfl⟩⟩; refine ⟨_, rfl, ?_⟩))
  go_ret
  exact ⟨ze, zb HB⟩
def laws_szWantS.l0 : Nat → List (S97) → Int → Int → Option (Int)
 | 0, _, _, _ => none
 | k + 1, x0, x1, x5 => if x5 < (x0.length : Int) then (if 0 ≤ x5 then ((laws_szWant.f ((rd_T97 x0 x5).f0) ((rd_T97 x0 x5).f1) x1).bind fun t614 => (if t614 < 0 then (some (-1)) else (laws_szWantS.l0 k x0 t614 (wrap64 (x5 + 1))))) else (none)) else (some x1)
def laws_szWantS.f (k : Nat) (l0 : List (S97)) (a1 : Int) : Option (Int) := if (wrap64 (a1 - (l0.length : Int))) < 0 then (some (-1)) else (laws_szWantS.l0 k l0 (wrap64 (a1 - (l0.length : Int))) 0)
set_option maxHeartbeats 8000000 in
set_option maxRecDepth 100000 in
theorem laws_szWantS.calls (k : Nat) (A0 : Option Addr) (c0 : Nat) (l0 : List (S97)) (a1 : Int) (r : Int) (w : World) (hr0 : Kd.C k97 w A0 l0.length l0) (hc0 : l0.length ≤ c0) (h : laws_szWantS.f k l0 a1 = some r) :
  Calls Try.prog 72 #[.slice A0 l0.length c0, .int .i64 a1] w fun e w' => e = .returned (.int .i64 r) ∧ Below w.heap.size w w' := by
 have hu97 := Try.underlying97; have HR0 := zK hr0; have HC0 := zK hc0; clear hr0 hc0
 have HB := zK (Below.refl w.heap.size w)
 have H : (if (wrap64 (a1 - (l0.length : Int))) < 0 then (some (-1)) else (laws_szWantS.l0 k l0 (wrap64 (a1 - (l0.length : Int))) 0)) = some r := h
 clear h
 by_cases c3 : (wrap64 (a1 - (l0.length : Int))) < 0
 ·rw [if_pos c3] at H
  have ao : decide ((wrap64 (a1 - (l0.length : Int))) < 0) = true := decide_eq_true c3
  clear c3; obtain rfl := Option.some.inj H
  go_enter Try.func72, Try.ntmps72
  go_wp2
  go_ret
  exact ⟨ze, zb HB⟩
 ·rw [if_neg c3] at H
  have ao : decide ((wrap64 (a1 - (l0.length : Int))) < 0) = false := decide_eq_false c3
  clear c3; have H' := zK H; clear H
  go_enter Try.func72, Try.ntmps72
  go_wp2
  go_loopg [1, 5] k (fun kq v1 v5 w' => ∃ (ai : Int) (aa : Int), v1 = .int .i64 ai ∧ v5 = .int .i64 aa ∧ Aside0 (laws_szWantS.l0 kq l0 ai aa = some r) ∧ Aside0 (kq ≤ k) ∧ Aside0 (Below w.heap.size w w'))
  case atStart => exact ⟨(wrap64 (a1 - (l0.length : Int))), (0), zf, zf, H', ⟨Nat.le_refl _⟩, ⟨zb HB⟩⟩
  case round =>
   clear H' ao
   obtain ⟨ai, aa, rfl, rfl, HA, HK1, HB⟩ := hrel
   cases gk with
   | zero => exact absurd HA.out (by simp [laws_szWantS.l0])
   | succ k1 =>
    have H := HA.out; clear HA
    simp only [laws_szWantS.l0] at H
    by_cases c4 : aa < (l0.length : Int)
    ·rw [if_pos c4] at H
     have c4b0 : decide (aa < (l0.length : Int)) = true := decide_eq_true c4
     clear c4
     by_cases c5 : 0 ≤ aa
     ·rw [if_pos c5] at H
      have c5b0 : decide (0 ≤ aa) = true := decide_eq_true c5
      clear c5; replace H := Option.bind_eq_some_iff.mp H
      obtain ⟨ah, A60, H⟩ := H
      replace H : (if ah < 0 then (some (-1)) else (laws_szWantS.l0 k1 l0 ah (wrap64 (aa + 1)))) = some r := H
      have A6 := zK A60; clear A60
      by_cases c7 : ah < 0
      ·rw [if_pos c7] at H
       have c7b0 : decide (ah < 0) = true := decide_eq_true c7
       clear c7; obtain rfl := Option.some.inj H
       have aj : 0 ≤ (aa : Int) := zd
       have ak : aa < (l0.length : Int) := zd
       obtain ⟨ap, al, am, an, ab, ac, ad, ae⟩ := at_T97 HR0.out aa aj ak
       cases an
       replace ab := (HB.out.cell (World.block_lt_of_cell? w _ ab)).trans ab
       replace ac := (HB.out.cell (World.block_lt_of_cell? w _ ac)).trans ac
       have af := zK ae; have ag := zK ad; clear ae ad; replace aj := eq_true aj; replace ak := eq_true ak
       go_wp2_with (first | ((with_reducible refine gate_callee (f := 97) rfl ?_); refine goesL_ (some 23) rfl rfl Try.func97 (by kernel_rfl) rfl #[.agg #[.int .i64 ((rd_T97 l0 aa).f0), .slice al ((rd_T97 l0 aa).f1).length am], .int .i64 ai] rfl zg ?_; (with_reducible refine (laws_szWant.calls ((rd_T97 l0 aa).f0) _ _ ((rd_T97 l0 aa).f1) ai ah _ ?side1 ?side2 A6.out).mono ?_); (case side1 => exact zs (Kd.C_below af.out HB.out)); (case side2 => exact ag.out); rintro e w8 ⟨rfl, hb⟩; refine ⟨_, rfl, ?_⟩; have aq := zK (below_step (zb HB) hb); clear HB; have HB := aq; clear aq; (try clear hb)))
       go_ret
       exact ⟨ze, zb HB⟩
      ·rw [if_neg c7] at H
       have c7b0 : decide (ah < 0) = false := decide_eq_false c7
       clear c7; have H' := zK H; clear H
       have aj : 0 ≤ (aa : Int) := zd
       have ak : aa < (l0.length : Int) := zd
       obtain ⟨ap, al, am, an, ab, ac, ad, ae⟩ := at_T97 HR0.out aa aj ak
       cases an
       replace ab := (HB.out.cell (World.block_lt_of_cell? w _ ab)).trans ab
       replace ac := (HB.out.cell (World.block_lt_of_cell? w _ ac)).trans ac
       have af := zK ae; have ag := zK ad; clear ae ad; replace aj := eq_true aj; replace ak := eq_true ak
       go_wp2_with (first | ((with_reducible refine gate_callee (f := 97) rfl ?_); refine goesL_ (some 23) rfl rfl Try.func97 (by kernel_rfl) rfl #[.agg #[.int .i64 ((rd_T97 l0 aa).f0), .slice al ((rd_T97 l0 aa).f1).length am], .int .i64 ai] rfl zg ?_; (with_reducible refine (laws_szWant.calls ((rd_T97 l0 aa).f0) _ _ ((rd_T97 l0 aa).f1) ai ah _ ?side1 ?side2 A6.out).mono ?_); (case side1 => exact zs (Kd.C_below af.out HB.out)); (case side2 => exact ag.out); rintro e w9 ⟨rfl, hb⟩; refine ⟨_, rfl, ?_⟩; have aq := zK (below_step (zb HB) hb); clear HB; have HB := aq; clear aq; (try clear hb)))
       go_roundg k1
       case measure => have := HK1.out; omega
       case rel => exact ⟨(ah), (wrap64 (aa + 1)), zf, zf, H', ⟨by have := HK1.out; omega⟩, ⟨zb HB⟩⟩
     ·rw [if_neg c5] at H
      exact absurd H (by simp)
    ·rw [if_neg c4] at H
     have c4b0 : decide (aa < (l0.length : Int)) = false := decide_eq_false c4
     clear c4; obtain rfl := Option.some.inj H
     go_wp2
     go_ret
     exact ⟨ze, zb HB⟩
def laws_szLoop.f (k : Nat) (l0_0 : List Int) (a0_1 : Int) (l0_2 : List (S95)) (l0_3 : List (S97)) (a1 : Int) : Option (Int) := (laws_szIntS.f l0_0 a1).bind fun t616 => (if t616 < 0 then (some (-1)) else ((laws_szChuteS.f k l0_2 t616).bind fun t617 => (if t617 < 0 then (some (-1)) else ((laws_szWantS.f k l0_3 t617).bind fun t618 => (if t618 < 0 then (some (-1)) else (some t618))))))
set_option maxHeartbeats 8000000 in
set_option maxRecDepth 100000 in
theorem laws_szLoop.calls (k : Nat) (ag : Option Addr) (ah : Nat) (ac : List Int) (a0_1 : Int) (ai : Option Addr) (aj : Nat) (ad : List (S95)) (ak : Option Addr) (al : Nat) (ae : List (S97)) (a1 : Int) (r : Int) (w : World) (aA : Kd.C (Kd.int .i64) w ag ac.length ac) (hc0_0 : ac.length ≤ ah) (aB : Kd.C k95 w ai ad.length ad) (hc0_2 : ad.length ≤ aj) (aC : Kd.C k97 w ak ae.length ae) (hc0_3 : ae.length ≤ al) (h : laws_szLoop.f k ac a0_1 ad ae a1 = some r) :
  Calls Try.prog 31 #[.agg #[.slice ag ac.length ah, .int .i64 a0_1, .slice ai ad.length aj, .slice ak ae.length al], .int .i64 a1] w fun e w' => e = .returned (.int .i64 r) ∧ Below w.heap.size w w' := by
 have hu43 := Try.underlying43; have ar := zK aA; have au := zK hc0_0; clear aA hc0_0; have av := zK aB; have aw := zK hc0_2; clear aB hc0_2; have aD := zK aC; have aE := zK hc0_3; clear aC hc0_3
 have HB := zK (Below.refl w.heap.size w)
 have H : ((laws_szIntS.f ac a1).bind fun am => (if am < 0 then (some (-1)) else ((laws_szChuteS.f k ad am).bind fun an => (if an < 0 then (some (-1)) else ((laws_szWantS.f k ae an).bind fun ao => (if ao < 0 then (some (-1)) else (some ao))))))) = some r := h
 clear h; replace H := Option.bind_eq_some_iff.mp H
 obtain ⟨am, A30, H⟩ := H
 replace H : (if am < 0 then (some (-1)) else ((laws_szChuteS.f k ad am).bind fun an => (if an < 0 then (some (-1)) else ((laws_szWantS.f k ae an).bind fun ao => (if ao < 0 then (some (-1)) else (some ao)))))) = some r := H
 have A3 := zK A30; clear A30
 by_cases c4 : am < 0
 ·rw [if_pos c4] at H
  have c4b0 : decide (am < 0) = true := decide_eq_true c4
  clear c4; obtain rfl := Option.some.inj H
  go_enter Try.func31, Try.ntmps31
  go_wp2_with (first | ((with_reducible refine gate_dst (N := 2) rfl ?_); refine zX 2 #[.slice ag ac.length ah, .int .i64 a0_1, .slice ai ad.length aj, .slice ak ae.length al] 43 ?_; intro ab hg w5 hbox hb; have ap := zK (below_step (zb HB) hb); have aq := zK (hbox); have ax := zK ((by rw [hg]; exact (below_size (zb HB)) : w.heap.size ≤ ab)); have ay := zK ((by rw [hg]; exact (below_size (zb HB)) : w.heap.size ≤ ab)); clear HB; have HB := ap; have aa := aq; have az := ax; have af := ay; clear ap aq ax ay; clear hb hbox hg; have hcz6_0 : w5.cell? ⟨ab, 0, none⟩ = some (.slice ag ac.length ah) := (blk_cell aa.out 0).trans rfl; have hcz6_1 : w5.cell? ⟨ab, 1, none⟩ = some (.int .i64 a0_1) := (blk_cell aa.out 1).trans rfl; have hcz6_2 : w5.cell? ⟨ab, 2, none⟩ = some (.slice ai ad.length aj) := (blk_cell aa.out 2).trans rfl; have hcz6_3 : w5.cell? ⟨ab, 3, none⟩ = some (.slice ak ae.length al) := (blk_cell aa.out 3).trans rfl; have hfz6_0 := blk_frozen aa.out 0; have hfz6_1 := blk_frozen aa.out 1; have hfz6_2 := blk_frozen aa.out 2; have hfz6_3 := blk_frozen aa.out 3) | ((with_reducible refine gate_callee (f := 70) rfl ?_); refine goesL_ (some 8) rfl rfl Try.func70 (by kernel_rfl) rfl #[.slice ag ac.length ah, .int .i64 a1] rfl zg ?_; (with_reducible refine (laws_szIntS.calls _ _ ac a1 am _ ?side1 ?side2 A3.out).mono ?_); (case side1 => exact zs (Kd.C_below ar.out HB.out)); (case side2 => exact au.out); rintro e w' ⟨rfl, ⟨nd, rfl⟩⟩; refine ⟨_, rfl, ?_⟩))
  go_ret
  exact ⟨ze, zb HB⟩
 ·rw [if_neg c4] at H
  have c4b0 : decide (am < 0) = false := decide_eq_false c4
  clear c4; replace H := Option.bind_eq_some_iff.mp H
  obtain ⟨an, A70, H⟩ := H
  replace H : (if an < 0 then (some (-1)) else ((laws_szWantS.f k ae an).bind fun ao => (if ao < 0 then (some (-1)) else (some ao)))) = some r := H
  have A7 := zK A70; clear A70
  by_cases c8 : an < 0
  ·rw [if_pos c8] at H
   have c8b0 : decide (an < 0) = true := decide_eq_true c8
   clear c8; obtain rfl := Option.some.inj H
   go_enter Try.func31, Try.ntmps31
   go_wp2_with (first | ((with_reducible refine gate_dst (N := 2) rfl ?_); refine zX 2 #[.slice ag ac.length ah, .int .i64 a0_1, .slice ai ad.length aj, .slice ak ae.length al] 43 ?_; intro ab hg w9 hbox hb; have ap := zK (below_step (zb HB) hb); have aq := zK (hbox); have ax := zK ((by rw [hg]; exact (below_size (zb HB)) : w.heap.size ≤ ab)); have ay := zK ((by rw [hg]; exact (below_size (zb HB)) : w.heap.size ≤ ab)); clear HB; have HB := ap; have aa := aq; have az := ax; have af := ay; clear ap aq ax ay; clear hb hbox hg; have hcz10_0 : w9.cell? ⟨ab, 0, none⟩ = some (.slice ag ac.length ah) := (blk_cell aa.out 0).trans rfl; have hcz10_1 : w9.cell? ⟨ab, 1, none⟩ = some (.int .i64 a0_1) := (blk_cell aa.out 1).trans rfl; have hcz10_2 : w9.cell? ⟨ab, 2, none⟩ = some (.slice ai ad.length aj) := (blk_cell aa.out 2).trans rfl; have hcz10_3 : w9.cell? ⟨ab, 3, none⟩ = some (.slice ak ae.length al) := (blk_cell aa.out 3).trans rfl; have hfz10_0 := blk_frozen aa.out 0; have hfz10_1 := blk_frozen aa.out 1; have hfz10_2 := blk_frozen aa.out 2; have hfz10_3 := blk_frozen aa.out 3) | ((with_reducible refine gate_callee (f := 70) rfl ?_); refine goesL_ (some 8) rfl rfl Try.func70 (by kernel_rfl) rfl #[.slice ag ac.length ah, .int .i64 a1] rfl zg ?_; (with_reducible refine (laws_szIntS.calls _ _ ac a1 am _ ?side1 ?side2 A3.out).mono ?_); (case side1 => exact zs (Kd.C_below ar.out HB.out)); (case side2 => exact au.out); rintro e w' ⟨rfl, ⟨nd, rfl⟩⟩; refine ⟨_, rfl, ?_⟩) | ((with_reducible refine gate_callee (f := 71) rfl ?_); refine goesL_ (some 14) rfl rfl Try.func71 (by kernel_rfl) rfl #[.slice ai ad.length aj, .int .i64 am] rfl zg ?_; (with_reducible refine (laws_szChuteS.calls k _ _ ad am an _ ?side1 ?side2 A7.out).mono ?_); (case side1 => exact zs (Kd.C_below av.out (zb HB))); (case side2 => exact aw.out); rintro e w11 ⟨rfl, hb⟩; refine ⟨_, rfl, ?_⟩; have ap := zK (blk_below (g := ab) (o := .cells #[.slice ag ac.length ah, .int .i64 a0_1, .slice ai ad.length aj, .slice ak ae.length al] 43 (0, 0)) (zk aa) hb); have aq := zK (below_step (zb HB) hb); clear aa; clear HB; have aa := ap; have HB := aq; clear ap aq; (try clear hb)))
   go_ret
   exact ⟨ze, zb HB⟩
  ·rw [if_neg c8] at H
   have c8b0 : decide (an < 0) = false := decide_eq_false c8
   clear c8; replace H := Option.bind_eq_some_iff.mp H
   obtain ⟨ao, aG, H⟩ := H
   replace H : (if ao < 0 then (some (-1)) else (some ao)) = some r := H
   have A12 := zK aG; clear aG
   by_cases aF : ao < 0
   ·rw [if_pos aF] at H
    have aH : decide (ao < 0) = true := decide_eq_true aF
    clear aF; obtain rfl := Option.some.inj H
    go_enter Try.func31, Try.ntmps31
    go_wp2_with (first | ((with_reducible refine gate_dst (N := 2) rfl ?_); refine zX 2 #[.slice ag ac.length ah, .int .i64 a0_1, .slice ai ad.length aj, .slice ak ae.length al] 43 ?_; intro ab hg w14 hbox hb; have ap := zK (below_step (zb HB) hb); have aq := zK (hbox); have ax := zK ((by rw [hg]; exact (below_size (zb HB)) : w.heap.size ≤ ab)); have ay := zK ((by rw [hg]; exact (below_size (zb HB)) : w.heap.size ≤ ab)); clear HB; have HB := ap; have aa := aq; have az := ax; have af := ay; clear ap aq ax ay; clear hb hbox hg; have hcz15_0 : w14.cell? ⟨ab, 0, none⟩ = some (.slice ag ac.length ah) := (blk_cell aa.out 0).trans rfl; have hcz15_1 : w14.cell? ⟨ab, 1, none⟩ = some (.int .i64 a0_1) := (blk_cell aa.out 1).trans rfl; have hcz15_2 : w14.cell? ⟨ab, 2, none⟩ = some (.slice ai ad.length aj) := (blk_cell aa.out 2).trans rfl; have hcz15_3 : w14.cell? ⟨ab, 3, none⟩ = some (.slice ak ae.length al) := (blk_cell aa.out 3).trans rfl; have hfz15_0 := blk_frozen aa.out 0; have hfz15_1 := blk_frozen aa.out 1; have hfz15_2 := blk_frozen aa.out 2; have hfz15_3 := blk_frozen aa.out 3) | ((with_reducible refine gate_callee (f := 70) rfl ?_); refine goesL_ (some 8) rfl rfl Try.func70 (by kernel_rfl) rfl #[.slice ag ac.length ah, .int .i64 a1] rfl zg ?_; (with_reducible refine (laws_szIntS.calls _ _ ac a1 am _ ?side1 ?side2 A3.out).mono ?_); (case side1 => exact zs (Kd.C_below ar.out HB.out)); (case side2 => exact au.out); rintro e w' ⟨rfl, ⟨nd, rfl⟩⟩; refine ⟨_, rfl, ?_⟩) | ((with_reducible refine gate_callee (f := 71) rfl ?_); refine goesL_ (some 14) rfl rfl Try.func71 (by kernel_rfl) rfl #[.slice ai ad.length aj, .int .i64 am] rfl zg ?_; (with_reducible refine (laws_szChuteS.calls k _ _ ad am an _ ?side1 ?side2 A7.out).mono ?_); (case side1 => exact zs (Kd.C_below av.out (zb HB))); (case side2 => exact aw.out); rintro e w16 ⟨rfl, hb⟩; refine ⟨_, rfl, ?_⟩; have ap := zK (blk_below (g := ab) (o := .cells #[.slice ag ac.length ah, .int .i64 a0_1, .slice ai ad.length aj, .slice ak ae.length al] 43 (0, 0)) (zk aa) hb); have aq := zK (below_step (zb HB) hb); clear aa; clear HB; have aa := ap; have HB := aq; clear ap aq; (try clear hb); have hcz17_0 : w16.cell? ⟨ab, 0, none⟩ = some (.slice ag ac.length ah) := (blk_cell aa.out 0).trans rfl; have hcz17_1 : w16.cell? ⟨ab, 1, none⟩ = some (.int .i64 a0_1) := (blk_cell aa.out 1).trans rfl; have hcz17_2 : w16.cell? ⟨ab, 2, none⟩ = some (.slice ai ad.length aj) := (blk_cell aa.out 2).trans rfl; have hcz17_3 : w16.cell? ⟨ab, 3, none⟩ = some (.slice ak ae.length al) := (blk_cell aa.out 3).trans rfl; have hfz17_0 := blk_frozen aa.out 0; have hfz17_1 := blk_frozen aa.out 1; have hfz17_2 := blk_frozen aa.out 2; have hfz17_3 := blk_frozen aa.out 3) | ((with_reducible refine gate_callee (f := 72) rfl ?_); refine goesL_ (some 20) rfl rfl Try.func72 (by kernel_rfl) rfl #[.slice ak ae.length al, .int .i64 an] rfl zg ?_; (with_reducible refine (laws_szWantS.calls k _ _ ae an ao _ ?side1 ?side2 A12.out).mono ?_); (case side1 => exact zs (Kd.C_below aD.out HB.out)); (case side2 => exact aE.out); rintro e w18 ⟨rfl, hb⟩; refine ⟨_, rfl, ?_⟩; have ap := zK (blk_below (g := ab) (o := .cells #[.slice ag ac.length ah, .int .i64 a0_1, .slice ai ad.length aj, .slice ak ae.length al] 43 (0, 0)) (zk aa) hb); have aq := zK (below_step (zb HB) hb); clear aa; clear HB; have aa := ap; have HB := aq; clear ap aq; (try clear hb)))
    go_ret
    exact ⟨ze, zb HB⟩
   ·rw [if_neg aF] at H
    have aH : decide (ao < 0) = false := decide_eq_false aF
    clear aF; obtain rfl := Option.some.inj H
    go_enter Try.func31, Try.ntmps31
    go_wp2_with (first | ((with_reducible refine gate_dst (N := 2) rfl ?_); refine zX 2 #[.slice ag ac.length ah, .int .i64 a0_1, .slice ai ad.length aj, .slice ak ae.length al] 43 ?_; intro ab hg w19 hbox hb; have ap := zK (below_step (zb HB) hb); have aq := zK (hbox); have ax := zK ((by rw [hg]; exact (below_size (zb HB)) : w.heap.size ≤ ab)); have ay := zK ((by rw [hg]; exact (below_size (zb HB)) : w.heap.size ≤ ab)); clear HB; have HB := ap; have aa := aq; have az := ax; have af := ay; clear ap aq ax ay; clear hb hbox hg; have hcz20_0 : w19.cell? ⟨ab, 0, none⟩ = some (.slice ag ac.length ah) := (blk_cell aa.out 0).trans rfl; have hcz20_1 : w19.cell? ⟨ab, 1, none⟩ = some (.int .i64 a0_1) := (blk_cell aa.out 1).trans rfl; have hcz20_2 : w19.cell? ⟨ab, 2, none⟩ = some (.slice ai ad.length aj) := (blk_cell aa.out 2).trans rfl; have hcz20_3 : w19.cell? ⟨ab, 3, none⟩ = some (.slice ak ae.length al) := (blk_cell aa.out 3).trans rfl; have hfz20_0 := blk_frozen aa.out 0; have hfz20_1 := blk_frozen aa.out 1; have hfz20_2 := blk_frozen aa.out 2; have hfz20_3 := blk_frozen aa.out 3) | ((with_reducible refine gate_callee (f := 70) rfl ?_); refine goesL_ (some 8) rfl rfl Try.func70 (by kernel_rfl) rfl #[.slice ag ac.length ah, .int .i64 a1] rfl zg ?_; (with_reducible refine (laws_szIntS.calls _ _ ac a1 am _ ?side1 ?side2 A3.out).mono ?_); (case side1 => exact zs (Kd.C_below ar.out HB.out)); (case side2 => exact au.out); rintro e w' ⟨rfl, ⟨nd, rfl⟩⟩; refine ⟨_, rfl, ?_⟩) | ((with_reducible refine gate_callee (f := 71) rfl ?_); refine goesL_ (some 14) rfl rfl Try.func71 (by kernel_rfl) rfl #[.slice ai ad.length aj, .int .i64 am] rfl zg ?_; (with_reducible refine (laws_szChuteS.calls k _ _ ad am an _ ?side1 ?side2 A7.out).mono ?_); (case side1 => exact zs (Kd.C_below av.out (zb HB))); (case side2 => exact aw.out); rintro e w21 ⟨rfl, hb⟩; refine ⟨_, rfl, ?_⟩; have ap := zK (blk_below (g := ab) (o := .cells #[.slice ag ac.length ah, .int .i64 a0_1, .slice ai ad.length aj, .slice ak ae.length al] 43 (0, 0)) (zk aa) hb); have aq := zK (below_step (zb HB) hb); clear aa; clear HB; have aa := ap; have HB := aq; clear ap aq; (try clear hb); have hcz22_0 : w21.cell? ⟨ab, 0, none⟩ = some (.slice ag ac.length ah) := (blk_cell aa.out 0).trans rfl; have hcz22_1 : w21.cell? ⟨ab, 1, none⟩ = some (.int .i64 a0_1) := (blk_cell aa.out 1).trans rfl; have hcz22_2 : w21.cell? ⟨ab, 2, none⟩ = some (.slice ai ad.length aj) := (blk_cell aa.out 2).trans rfl; have hcz22_3 : w21.cell? ⟨ab, 3, none⟩ = some (.slice ak ae.length al) := (blk_cell aa.out 3).trans rfl; have hfz22_0 := blk_frozen aa.out 0; have hfz22_1 := blk_frozen aa.out 1; have hfz22_2 := blk_frozen aa.out 2; have hfz22_3 := blk_frozen aa.out 3) | ((with_reducible refine gate_callee (f := 72) rfl ?_); refine goesL_ (some 20) rfl rfl Try.func72 (by kernel_rfl) rfl #[.slice ak ae.length al, .int .i64 an] rfl zg ?_; (with_reducible refine (laws_szWantS.calls k _ _ ae an ao _ ?side1 ?side2 A12.out).mono ?_); (case side1 => exact zs (Kd.C_below aD.out HB.out)); (case side2 => exact aE.out); rintro e w23 ⟨rfl, hb⟩; refine ⟨_, rfl, ?_⟩; have ap := zK (blk_below (g := ab) (o := .cells #[.slice ag ac.length ah, .int .i64 a0_1, .slice ai ad.length aj, .slice ak ae.length al] 43 (0, 0)) (zk aa) hb); have aq := zK (below_step (zb HB) hb); clear aa; clear HB; have aa := ap; have HB := aq; clear ap aq; (try clear hb)))
    go_ret
    exact ⟨ze, zb HB⟩
def laws_toIntS.l0 : Nat → List Int → List Int → Int → Option (List Int)
 | 0, _, _, _ => none
 | k + 1, x0, x3, x4 => if x4 < (x0.length : Int) then (if 0 ≤ x4 then (if x4 < (x3.length : Int) then (laws_toIntS.l0 k x0 (x3.set (x4 : Int).toNat (rd x0 x4)) (wrap64 (x4 + 1))) else (none)) else (none)) else (some x3)
def laws_toIntS.f (k : Nat) (l0 : List Int) : Option (List Int) := if 0 ≤ (l0.length : Int) then (if ((l0.length : Int) : Int).toNat ≤ 35184372088832 then (laws_toIntS.l0 k l0 (List.replicate ((l0.length : Int) : Int).toNat 0) 0) else (none)) else (none)
set_option maxHeartbeats 8000000 in
set_option maxRecDepth 100000 in
theorem laws_toIntS.calls (k : Nat) (A0 : Option Addr) (c0 : Nat) (l0 : List Int) (r : List Int) (w : World) (hr0 : Kd.C (Kd.int .i64) w A0 l0.length l0) (hc0 : l0.length ≤ c0) (h : laws_toIntS.f k l0 = some r) :
  Calls Try.prog 39 #[.slice A0 l0.length c0] w fun e w' => ∃ v0_ : Value, e = .returned (v0_) ∧ Kd.R (Kd.int .i64) 3 w' w.heap.size (fun _ => True) v0_ r ∧ Below w.heap.size w w' := by
 have HR0 := zK hr0; have HC0 := zK hc0; clear hr0 hc0
 have HB := zK (Below.refl w.heap.size w)
 have H : (if 0 ≤ (l0.length : Int) then (if ((l0.length : Int) : Int).toNat ≤ 35184372088832 then (laws_toIntS.l0 k l0 (List.replicate ((l0.length : Int) : Int).toNat 0) 0) else (none)) else (none)) = some r := h
 clear h
 by_cases c2 : 0 ≤ (l0.length : Int)
 ·rw [if_pos c2] at H
  have c2b0 := eq_true c2
  have c2b1 : decide (0 ≤ (l0.length : Int)) = true := decide_eq_true c2
  clear c2
  by_cases c3 : ((l0.length : Int) : Int).toNat ≤ 35184372088832
  ·rw [if_pos c3] at H
   have c3b0 := eq_true c3
   have c3b1 : decide (((l0.length : Int) : Int).toNat ≤ 35184372088832) = true := decide_eq_true c3
   clear c3
   obtain ⟨ak, ac⟩ : ∃ y_ : List Int, y_ = (List.replicate ((l0.length : Int) : Int).toNat 0) := ⟨_, rfl⟩
   replace H : (laws_toIntS.l0 k l0 ak 0) = some r := by first | (rw [ac]; with_reducible exact H) | (have H2_ := (Option.bind_some _ _).symm.trans H; rw [ac]; with_reducible exact H2_) | (have H2_ := (Option.bind_some _ _).symm.trans H; with_reducible exact H2_) | with_reducible exact H | (rw [ac]; exact H) | exact H
   have Ny619 := zK ac; clear ac; have H' := zK H; clear H
   go_enter Try.func39, Try.ntmps39
   go_wp2_with (first | ((with_reducible refine gate_dst (N := 7) rfl ?_); refine Kd.R_make (Kd.int .i64) _ 3 rfl (N := 7) rfl 24 _ _ rfl (l0.length : Int) rfl rfl Try.underlying24 (.int .i64 0) 8 info3 rfl (by decide) (by omega) 0 (ok := fun _ => True) (okp := fun _ => True) rfl (fun _ hk => hk) trivial (zd) (Nat.le_trans (Nat.mul_le_mul_right _ (zd : (l0.length : Int).toNat ≤ 35184372088832)) (by omega)) (Below.refl _ _) (Nat.le_refl _) ?_; intro v620 w4 ho5 hb hg_ hnew_; clear hg_ hnew_; (first | rw [← Ny619.out] at ho5 | (simp only [Int.reduceToNat] at ho5; rw [← Ny619.out] at ho5)); have al := zK (Kd.R_lower ho5 (below_size (zb HB))); have am := zK (below_step (zb HB) hb); clear HB; have an := al; have HB := am; clear al am; clear hb ho5))
   go_loopg [4] k (fun kq v4 w' => ∃ (ad : List Int) (aa : Int), v4 = .int .i64 aa ∧ Aside0 (laws_toIntS.l0 kq l0 ad aa = some r) ∧ Aside0 (kq ≤ k) ∧ Aside0 (Kd.R (Kd.int .i64) 3 w' w.heap.size (fun _ => True) v620 ad) ∧ Aside0 (Below w.heap.size w w'))
   case atStart => exact ⟨(ak), (0), zf, H', ⟨Nat.le_refl _⟩, ⟨zR an⟩, ⟨zb HB⟩⟩
   case round =>
    clear H' c2b0 c2b1 c3b0 c3b1
    obtain ⟨ad, aa, rfl, HA, HK1, af, HB⟩ := hrel
    cases gk with
    | zero => exact absurd HA.out (by simp [laws_toIntS.l0])
    | succ k1 =>
     have H := HA.out; clear HA
     simp only [laws_toIntS.l0] at H
     by_cases c6 : aa < (l0.length : Int)
     ·rw [if_pos c6] at H
      have c6b0 : decide (aa < (l0.length : Int)) = true := decide_eq_true c6
      clear c6
      by_cases c7 : 0 ≤ aa
      ·rw [if_pos c7] at H
       have c7b0 : decide (0 ≤ aa) = true := decide_eq_true c7
       clear c7
       by_cases c8 : aa < (ad.length : Int)
       ·rw [if_pos c8] at H
        have c8b0 : decide (aa < (ad.length : Int)) = true := decide_eq_true c8
        clear c8
        obtain ⟨ag, ae⟩ : ∃ y_ : List Int, y_ = (ad.set (aa : Int).toNat (rd l0 aa)) := ⟨_, rfl⟩
        replace H : (laws_toIntS.l0 k1 l0 ag (wrap64 (aa + 1))) = some r := by first | (rw [ae]; with_reducible exact H) | (have H2_ := (Option.bind_some _ _).symm.trans H; rw [ae]; with_reducible exact H2_) | (have H2_ := (Option.bind_some _ _).symm.trans H; with_reducible exact H2_) | with_reducible exact H | (rw [ae]; exact H) | exact H
        have Ny623 := zK ae; clear ae; have H' := zK H; clear H
        have ah : 0 ≤ (aa : Int) := zd
        have ai : aa < (l0.length : Int) := zd
        obtain ⟨ad622, e622, ab⟩ := Kd.at_int HR0.out aa ah ai
        cases e622
        replace ab := (HB.out.cell (World.block_lt_of_cell? w _ ab)).trans ab
        replace ah := eq_true ah; replace ai := eq_true ai
        have p9 : 0 ≤ (aa : Int) := zd
        have q9 : (aa : Int) < ((ad.length : Int) : Int) := zd
        obtain ⟨go9, co9, eo9, gb9, gl9, cl9, HG9⟩ := Kd.R_form af.out (by omega)
        (first | cases eo9 | (injection eo9 with ea_ en_ ec_; (first | subst ea_ | (injection ea_ with ea_; subst ea_)); subst ec_; clear en_))
        have GB9 := zK gb9; have GG9 := zK HG9; clear gb9 gl9 HG9
        obtain ⟨hx9_0, hf9_0⟩ := Kd.R_celln 0 af.out (aa : Int) p9 q9
        replace p9 := eq_true p9; replace q9 := eq_true q9
        have aj := Kd.R_putg af.out (aa : Int) (rd l0 aa)
        go_wp2_with (first | ((with_reducible refine gate_store (t := 3) (p := 20) rfl ?_); refine store_event (t := 3) (p := 20) (v := ?vo_w11) (w1 := (wr.setCell ⟨go9, (aa : Int).toNat, none⟩ (.int .i64 (rd l0 aa)))) ?hg ?ho ?hn ?hr ?_; (case ho => rfl); (case hg => rfl); (case hn => rfl); (case hr => first | (go_simp; done) | (go_simp; rfl)); intro w11 hw; have hg : wr.grownBy w11 (some go9) := (by rw [hw]; exact aj.2); have hp_ : Kd.R (Kd.int .i64) 3 w11 w.heap.size (fun _ => True) (.slice (some ⟨go9, 0, none⟩) ad.length co9) ag := (by rw [hw, Ny623.out]; exact aj.1); clear aj; have al := zK (hp_); have am := zK ((by rw [hw]; exact zS (HB.out) GB9.out : Below w.heap.size w w11)); clear af; clear HB; have af := al; have HB := am; clear al am; clear hg hw hp_))
        go_roundg k1
        case measure => have := HK1.out; omega
        case rel => exact ⟨(ag), (wrap64 (aa + 1)), zf, H', ⟨by have := HK1.out; omega⟩, ⟨zR af⟩, ⟨zb HB⟩⟩
       ·rw [if_neg c8] at H
        exact absurd H (by simp)
      ·rw [if_neg c7] at H
       exact absurd H (by simp)
     ·rw [if_neg c6] at H
      have c6b0 : decide (aa < (l0.length : Int)) = false := decide_eq_false c6
      clear c6; obtain rfl := Option.some.inj H
      go_wp2
      go_ret
      exact ⟨_, ze, by (with_reducible repeat (first | apply Kd.R_alloc | apply Kd.R_drewN | apply Kd.R_drew)); exact af.out, zb HB⟩
  ·rw [if_neg c3] at H
   exact absurd H (by simp)
 ·rw [if_neg c2] at H
  exact absurd H (by simp)
def laws_toChute.f (k : Nat) (a0_0 : Int) (a0_1 : Int) (l0_2 : List Int) : Option (Int × Int × List Int) := (laws_toIntS.f k l0_2).bind fun t627 => (some (a0_0, a0_1, t627))
set_option maxHeartbeats 8000000 in
set_option maxRecDepth 100000 in
theorem laws_toChute.calls (k : Nat) (a0_0 : Int) (a0_1 : Int) (ak : Option Addr) (al : Nat) (ag : List Int) (r1 : Int) (r2 : Int) (r3 : List Int) (w : World) (az : Kd.C (Kd.int .i64) w ak ag.length ag) (hc0_2 : ag.length ≤ al) (h : laws_toChute.f k a0_0 a0_1 ag = some (r1, r2, r3)) :
  Calls Try.prog 98 #[.agg #[.int .i64 a0_0, .int .i64 a0_1, .slice ak ag.length al]] w fun e w' => ∃ v2_ : Value, e = .returned (.agg #[.int .i64 r1, .int .i64 r2, v2_]) ∧ Kd.R (Kd.int .i64) 3 w' w.heap.size (fun _ => True) v2_ r3 ∧ Below w.heap.size w w' := by
 have hu95 := Try.underlying95; have hu69 := Try.underlying69; have aF := zK az; have aG := zK hc0_2; clear az hc0_2
 have HB := zK (Below.refl w.heap.size w)
 have H : ((laws_toIntS.f k ag).bind fun an => (some (a0_0, a0_1, an))) = some (r1, r2, r3) := h
 clear h; replace H := Option.bind_eq_some_iff.mp H
 obtain ⟨an, A20, H⟩ := H
 replace H : (some (a0_0, a0_1, an)) = some (r1, r2, r3) := H
 have A2 := zK A20; clear A20
 simp only [Option.some.injEq, Prod.mk.injEq] at H
 obtain ⟨rfl, rfl, rfl⟩ := H
 go_enter Try.func98, Try.ntmps98
 go_wp2_with (first | ((with_reducible refine gate_dst (N := 1) rfl ?_); refine zX 1 #[.int .i64 a0_0, .int .i64 a0_1, .slice ak ag.length al] 95 ?_; intro ac hg w3 hbox hb; have av := zK (below_step (zb HB) hb); have aw := zK (hbox); have ax := zK ((by rw [hg]; exact (below_size (zb HB)) : w.heap.size ≤ ac)); have ay := zK ((by rw [hg]; exact (below_size (zb HB)) : w.heap.size ≤ ac)); clear HB; have HB := av; have aa := aw; have GW624 := ax; have ai := ay; clear av aw ax ay; clear hb hbox hg) | ((with_reducible refine gate_dst (N := 2) rfl ?_); refine zX 2 #[.int .i64 0, .int .i64 0, .slice none 0 0] 69 ?_; intro ab hg w4 hbox hb; have av := zK (blk_below (g := ac) (o := .cells #[.int .i64 a0_0, .int .i64 a0_1, .slice ak ag.length al] 95 (0, 0)) (zk aa) hb); have aw := zK (below_step (zb HB) hb); have ax := zK (hbox); have ay := zK ((by rw [hg]; exact (below_size (zb HB)) : w.heap.size ≤ ab)); have aA := zK ((by rw [hg]; exact (below_size (zb HB)) : w.heap.size ≤ ab)); have aH := zK ((by rw [hg]; exact Nat.ne_of_lt (blk_lt (g := ac) (o := .cells #[.int .i64 a0_0, .int .i64 a0_1, .slice ak ag.length al] 95 (0, 0)) (zk aa)) : ac ≠ ab)); have aI := zK ((by rw [hg]; exact Nat.ne_of_gt (blk_lt (g := ac) (o := .cells #[.int .i64 a0_0, .int .i64 a0_1, .slice ak ag.length al] 95 (0, 0)) (zk aa)) : ab ≠ ac)); clear aa; clear HB; have aa := av; have HB := aw; have ad := ax; have GW625 := ay; have am := aA; have ap := aH; have aq := aI; clear av aw ax ay aA aH aI; clear hb hbox hg) | ((with_reducible refine gate_dst (N := 3) rfl ?_); refine zX 3 #[.int .i64 0, .int .i64 0, .slice none 0 0] 69 ?_; intro af hg w5 hbox hb; have av := zK (blk_below (g := ac) (o := .cells #[.int .i64 a0_0, .int .i64 a0_1, .slice ak ag.length al] 95 (0, 0)) (zk aa) hb); have aw := zK (blk_below (g := ab) (o := .cells #[.int .i64 0, .int .i64 0, .slice none 0 0] 69 (0, 0)) (zk ad) hb); have ax := zK (below_step (zb HB) hb); have ay := zK (hbox); have aA := zK ((by rw [hg]; exact (below_size (zb HB)) : w.heap.size ≤ af)); have aH := zK ((by rw [hg]; exact (below_size (zb HB)) : w.heap.size ≤ af)); have aI := zK ((by rw [hg]; exact Nat.ne_of_lt (blk_lt (g := ac) (o := .cells #[.int .i64 a0_0, .int .i64 a0_1, .slice ak ag.length al] 95 (0, 0)) (zk aa)) : ac ≠ af)); have n7_ := zK ((by rw [hg]; exact Nat.ne_of_gt (blk_lt (g := ac) (o := .cells #[.int .i64 a0_0, .int .i64 a0_1, .slice ak ag.length al] 95 (0, 0)) (zk aa)) : af ≠ ac)); have n8_ := zK ((by rw [hg]; exact Nat.ne_of_lt (blk_lt (g := ab) (o := .cells #[.int .i64 0, .int .i64 0, .slice none 0 0] 69 (0, 0)) (zk ad)) : ab ≠ af)); have n9_ := zK ((by rw [hg]; exact Nat.ne_of_gt (blk_lt (g := ab) (o := .cells #[.int .i64 0, .int .i64 0, .slice none 0 0] 69 (0, 0)) (zk ad)) : af ≠ ab)); clear aa; clear ad; clear HB; have aa := av; have ad := aw; have HB := ax; have ae := ay; have GW626 := aA; have ao := aH; have aj := aI; have ar := n7_; have ah := n8_; have au := n9_; clear av aw ax ay aA aH aI n7_ n8_ n9_; clear hb hbox hg; have hnb6 := ap.out; have hnc6 := aq.out; have hnb7 := aj.out; have hnc7 := ar.out; have hcz8_0 : w5.cell? ⟨ac, 0, none⟩ = some (.int .i64 a0_0) := (blk_cell aa.out 0).trans rfl; have hcz8_1 : w5.cell? ⟨ac, 1, none⟩ = some (.int .i64 a0_1) := (blk_cell aa.out 1).trans rfl; have hcz8_2 : w5.cell? ⟨ac, 2, none⟩ = some (.slice ak ag.length al) := (blk_cell aa.out 2).trans rfl; have hfz8_0 := blk_frozen aa.out 0; have hfz8_1 := blk_frozen aa.out 1; have hfz8_2 := blk_frozen aa.out 2; have hnb9 := au.out; have hnc9 := ah.out; have hcz10_0 : w5.cell? ⟨af, 0, none⟩ = some (.int .i64 0) := (blk_cell ae.out 0).trans rfl; have hcz10_1 : w5.cell? ⟨af, 1, none⟩ = some (.int .i64 0) := (blk_cell ae.out 1).trans rfl; have hcz10_2 : w5.cell? ⟨af, 2, none⟩ = some (.slice none 0 0) := (blk_cell ae.out 2).trans rfl; have hfz10_0 := blk_frozen ae.out 0; have hfz10_1 := blk_frozen ae.out 1; have hfz10_2 := blk_frozen ae.out 2) | ((with_reducible refine gate_callee (f := 39) rfl ?_); refine goesL_ (some 12) rfl rfl Try.func39 (by kernel_rfl) rfl #[.slice ak ag.length al] rfl zg ?_; (with_reducible refine (laws_toIntS.calls k _ _ ag an _ ?side1 ?side2 A2.out).mono ?_); (case side1 => exact Kd.C_below aF.out (zb HB)); (case side2 => exact aG.out); rintro e aE ⟨v628, rfl, ho0, hb⟩; refine ⟨_, rfl, ?_⟩; have av := zK (Kd.R_lower ho0 (below_size (zb HB))); have aw := zK (blk_below (g := ac) (o := .cells #[.int .i64 a0_0, .int .i64 a0_1, .slice ak ag.length al] 95 (0, 0)) (zh aa aj) hb); have ax := zK (blk_below (g := ab) (o := .cells #[.int .i64 0, .int .i64 0, .slice none 0 0] 69 (0, 0)) (zh ad ah) hb); have ay := zK (blk_below (g := af) (o := .cells #[.int .i64 a0_0, .int .i64 a0_1, .slice none 0 0] 69 (0, 0)) (by (with_reducible repeat (first | refine zN ?_ _ | refine zD ?_ | refine zA ?_ _)); refine blk_put (cs := #[.int .i64 a0_0, .int .i64 0, .slice none 0 0]) ?_ 1 _ rfl; (with_reducible repeat (first | refine zN ?_ _ | refine zD ?_ | refine zA ?_ _)); refine blk_put (cs := #[.int .i64 0, .int .i64 0, .slice none 0 0]) ?_ 0 _ rfl; (with_reducible repeat (first | refine zN ?_ _ | refine zD ?_ | refine zA ?_ _)); exact ae.out) hb); have aA := zK (below_step (zb HB) hb); clear aa; clear ad; clear ae; clear HB; have aB := av; have aa := aw; have ad := ax; have ae := ay; have HB := aA; clear av aw ax ay aA; (try clear hb); (try clear ho0); obtain ⟨aC, aD, eo12⟩ := Kd.R_slice aB.out; subst eo12; have hcz13_0 : aE.cell? ⟨af, 0, none⟩ = some (.int .i64 a0_0) := (blk_cell ae.out 0).trans rfl; have hcz13_1 : aE.cell? ⟨af, 1, none⟩ = some (.int .i64 a0_1) := (blk_cell ae.out 1).trans rfl; have hcz13_2 : aE.cell? ⟨af, 2, none⟩ = some (.slice none 0 0) := (blk_cell ae.out 2).trans rfl; have hfz13_0 := blk_frozen ae.out 0; have hfz13_1 := blk_frozen ae.out 1; have hfz13_2 := blk_frozen ae.out 2; have hcz14_0 : aE.cell? ⟨ab, 0, none⟩ = some (.int .i64 0) := (blk_cell ad.out 0).trans rfl; have hcz14_1 : aE.cell? ⟨ab, 1, none⟩ = some (.int .i64 0) := (blk_cell ad.out 1).trans rfl; have hcz14_2 : aE.cell? ⟨ab, 2, none⟩ = some (.slice none 0 0) := (blk_cell ad.out 2).trans rfl; have hfz14_0 := blk_frozen ad.out 0; have hfz14_1 := blk_frozen ad.out 1; have hfz14_2 := blk_frozen ad.out 2))
 refine bodyPost_ret (results_cell_row rfl _ _ ab 69 #[.int .i64 a0_0, .int .i64 a0_1, .slice aC an.length aD] (0, 0) _ rfl (by (with_reducible repeat (first | refine zN ?_ _ | refine zD ?_ | refine zA ?_ _)); refine blk_put (cs := #[.int .i64 a0_0, .int .i64 a0_1, .slice none 0 0]) ?_ 2 _ rfl; (with_reducible repeat (first | refine zN ?_ _ | refine zD ?_ | refine zA ?_ _)); refine blk_put (cs := #[.int .i64 a0_0, .int .i64 0, .slice none 0 0]) ?_ 1 _ rfl; (with_reducible repeat (first | refine zN ?_ _ | refine zD ?_ | refine zA ?_ _)); refine blk_put (cs := #[.int .i64 0, .int .i64 0, .slice none 0 0]) ?_ 0 _ rfl; (with_reducible repeat (first | refine zN ?_ _ | refine zD ?_ | refine zA ?_ _)); refine blk_far ?_ ah.out _; (with_reducible repeat (first | refine zN ?_ _ | refine zD ?_ | refine zA ?_ _)); exact ad.out) Try.underlying69 rfl (by kernel_rfl)) rfl ?_
 exact ⟨_, ze, by (with_reducible repeat (first | apply Kd.R_alloc | apply Kd.R_drewN | apply Kd.R_drew)); exact Kd.R_mono (Kd.R_far (p := ⟨ab, 2, none⟩) (Kd.R_far (p := ⟨ab, 1, none⟩) (Kd.R_far (p := ⟨ab, 0, none⟩) (Kd.R_far (p := ⟨af, 2, none⟩) (Kd.R_types (Kd.R_types aB.out ae.out (by decide)) ad.out (by decide)) (fun _ hk => hk.1.2) (.slice aC an.length aD)) (fun _ hk => hk.2) (.int .i64 a0_0)) (fun _ hk => hk.2) (.int .i64 a0_1)) (fun _ hk => hk.2) (.slice aC an.length aD)) (fun _ hk => trivial), zb HB⟩
def laws_toChuteS.l0 : Nat → List (S95) → List (S69) → Int → Option ((List (S69)))
 | 0, _, _, _ => none
 | k + 1, x0, x3, x4 => if x4 < (x0.length : Int) then (if 0 ≤ x4 then ((laws_toChute.f k ((rd_T95 x0 x4).f0) ((rd_T95 x0 x4).f1) ((rd_T95 x0 x4).f2)).bind fun bt634 => (if x4 < (x3.length : Int) then (laws_toChuteS.l0 k x0 (x3.set (x4 : Int).toNat (⟨bt634.1, bt634.2.1, bt634.2.2⟩ : S69)) (wrap64 (x4 + 1))) else (none))) else (none)) else (some x3)
def laws_toChuteS.f (k : Nat) (l0 : List (S95)) : Option ((List (S69))) := if 0 ≤ (l0.length : Int) then (if ((l0.length : Int) : Int).toNat ≤ 7036874417766 then (laws_toChuteS.l0 k l0 (List.replicate ((l0.length : Int) : Int).toNat z69) 0) else (none)) else (none)
set_option maxHeartbeats 8000000 in
set_option maxRecDepth 100000 in
theorem laws_toChuteS.calls (k : Nat) (A0 : Option Addr) (c0 : Nat) (l0 : List (S95)) (r : List (S69)) (w : World) (hr0 : Kd.C k95 w A0 l0.length l0) (hc0 : l0.length ≤ c0) (h : laws_toChuteS.f k l0 = some r) :
  Calls Try.prog 73 #[.slice A0 l0.length c0] w fun e w' => ∃ v0_ : Value, e = .returned (v0_) ∧ Kd.S k69 69 w' w.heap.size (fun _ => True) v0_ r ∧ Below w.heap.size w w' := by
 have hu95 := Try.underlying95; have hu69 := Try.underlying69; have HR0 := zK hr0; have HC0 := zK hc0; clear hr0 hc0
 have HB := zK (Below.refl w.heap.size w)
 have H : (if 0 ≤ (l0.length : Int) then (if ((l0.length : Int) : Int).toNat ≤ 7036874417766 then (laws_toChuteS.l0 k l0 (List.replicate ((l0.length : Int) : Int).toNat z69) 0) else (none)) else (none)) = some r := h
 clear h
 by_cases c2 : 0 ≤ (l0.length : Int)
 ·rw [if_pos c2] at H
  have c2b0 := eq_true c2
  have c2b1 : decide (0 ≤ (l0.length : Int)) = true := decide_eq_true c2
  clear c2
  by_cases c3 : ((l0.length : Int) : Int).toNat ≤ 7036874417766
  ·rw [if_pos c3] at H
   have c3b0 := eq_true c3
   have c3b1 : decide (((l0.length : Int) : Int).toNat ≤ 7036874417766) = true := decide_eq_true c3
   clear c3
   obtain ⟨aQ, ah⟩ : ∃ y_ : List (S69), y_ = (List.replicate ((l0.length : Int) : Int).toNat z69) := ⟨_, rfl⟩
   replace H : (laws_toChuteS.l0 k l0 aQ 0) = some r := by first | (rw [ah]; with_reducible exact H) | (have H2_ := (Option.bind_some _ _).symm.trans H; rw [ah]; with_reducible exact H2_) | (have H2_ := (Option.bind_some _ _).symm.trans H; with_reducible exact H2_) | with_reducible exact H | (rw [ah]; exact H) | exact H
   have Ny630 := zK ah; clear ah; have H' := zK H; clear H
   go_enter Try.func73, Try.ntmps73
   go_wp2_with (first | ((with_reducible refine gate_dst (N := 7) rfl ?_); refine Kd.S_make k69 _ 69 rfl (N := 7) rfl 25 _ _ rfl (l0.length : Int) rfl rfl Try.underlying25 (.agg #[(.int .i64 0), (.int .i64 0), (.slice none 0 0)]) 40 info69 rfl (by decide) (by omega) z69 (ok := fun _ => True) (okp := fun _ => True) (k69_mkM _ _ _ z69 (Kd.R_nil _ _ _ _ _)) (fun _ hk => hk) trivial (zd) (Nat.le_trans (Nat.mul_le_mul_right _ (zd : (l0.length : Int).toNat ≤ 7036874417766)) (by omega)) (Below.refl _ _) (Nat.le_refl _) ?_; intro v631 w4 ho5 hb hg_ hnew_; clear hg_ hnew_; (first | rw [← Ny630.out] at ho5 | (simp only [Int.reduceToNat] at ho5; rw [← Ny630.out] at ho5)); have az := zK (Kd.S_lower ho5 (below_size (zb HB))); have aA := zK (below_step (zb HB) hb); clear HB; have aR := az; have HB := aA; clear az aA; clear hb ho5))
   go_loopg [4] k (fun kq v4 w' => ∃ (ac : List (S69)) (aa : Int), v4 = .int .i64 aa ∧ Aside0 (laws_toChuteS.l0 kq l0 ac aa = some r) ∧ Aside0 (kq ≤ k) ∧ Aside0 (Kd.S k69 69 w' w.heap.size (fun _ => True) v631 ac) ∧ Aside0 (Below w.heap.size w w'))
   case atStart => exact ⟨(aQ), (0), zf, H', ⟨Nat.le_refl _⟩, ⟨zT aR⟩, ⟨zb HB⟩⟩
   case round =>
    clear H' c2b0 c2b1 c3b0 c3b1
    obtain ⟨ac, aa, rfl, HA, HK1, ab, HB⟩ := hrel
    cases gk with
    | zero => exact absurd HA.out (by simp [laws_toChuteS.l0])
    | succ k1 =>
     have H := HA.out; clear HA
     simp only [laws_toChuteS.l0] at H
     by_cases c6 : aa < (l0.length : Int)
     ·rw [if_pos c6] at H
      have c6b0 : decide (aa < (l0.length : Int)) = true := decide_eq_true c6
      clear c6
      by_cases c7 : 0 ≤ aa
      ·rw [if_pos c7] at H
       have c7b0 : decide (0 ≤ aa) = true := decide_eq_true c7
       clear c7; replace H := Option.bind_eq_some_iff.mp H
       obtain ⟨⟨aj, ak, ar⟩, A80, H⟩ := H
       replace H : (if aa < (ac.length : Int) then (laws_toChuteS.l0 k1 l0 (ac.set (aa : Int).toNat (⟨aj, ak, ar⟩ : S69)) (wrap64 (aa + 1))) else (none)) = some r := H
       have A8 := zK A80; clear A80
       by_cases c9 : aa < (ac.length : Int)
       ·rw [if_pos c9] at H
        have c9b0 : decide (aa < (ac.length : Int)) = true := decide_eq_true c9
        clear c9
        obtain ⟨aB, ai⟩ : ∃ y_ : List (S69), y_ = (ac.set (aa : Int).toNat (⟨aj, ak, ar⟩ : S69)) := ⟨_, rfl⟩
        replace H : (laws_toChuteS.l0 k1 l0 aB (wrap64 (aa + 1))) = some r := by first | (rw [ai]; with_reducible exact H) | (have H2_ := (Option.bind_some _ _).symm.trans H; rw [ai]; with_reducible exact H2_) | (have H2_ := (Option.bind_some _ _).symm.trans H; with_reducible exact H2_) | with_reducible exact H | (rw [ai]; exact H) | exact H
        have Ny639 := zK ai; clear ai; have H' := zK H; clear H
        have aC : 0 ≤ (aa : Int) := zd
        have aD : aa < (l0.length : Int) := zd
        obtain ⟨ad633, aE, aF, e633, ae, af, ag, al, am⟩ := at_T95 HR0.out aa aC aD
        cases e633
        replace ae := (HB.out.cell (World.block_lt_of_cell? w _ ae)).trans ae
        replace af := (HB.out.cell (World.block_lt_of_cell? w _ af)).trans af
        replace ag := (HB.out.cell (World.block_lt_of_cell? w _ ag)).trans ag
        have aw := zK am; have ax := zK al; clear am al; replace aC := eq_true aC; replace aD := eq_true aD
        go_wp2_with (first | ((with_reducible refine gate_callee (f := 98) rfl ?_); refine goesL_ (some 20) rfl rfl Try.func98 (by kernel_rfl) rfl #[.agg #[.int .i64 ((rd_T95 l0 aa).f0), .int .i64 ((rd_T95 l0 aa).f1), .slice aE ((rd_T95 l0 aa).f2).length aF]] rfl zg ?_; (with_reducible refine (laws_toChute.calls k1 ((rd_T95 l0 aa).f0) ((rd_T95 l0 aa).f1) _ _ ((rd_T95 l0 aa).f2) aj ak ar _ ?side1 ?side2 A8.out).mono ?_); (case side1 => exact zs (Kd.C_below aw.out HB.out)); (case side2 => exact ax.out); rintro e ay ⟨au, rfl, ho0, hb⟩; refine ⟨_, rfl, ?_⟩; have az := zK (Kd.S_elder' (zT ab) (Kd.R_base ho0) hb); have aA := zK (Kd.R_lower ho0 (below_size (zb HB))); have n2_ := zK (below_step (zb HB) hb); clear ab; clear HB; have ab := az; have av := aA; have HB := n2_; clear az aA n2_; (try clear hb); (try clear hk); (try clear ho0); have p10 : 0 ≤ (aa : Int) := zd; have q10 : (aa : Int) < ((ac.length : Int) : Int) := zd; obtain ⟨ad, aS, aT, aU, gl10, cl10, aV⟩ := Kd.S_form ab.out (by omega); (first | cases aT | (injection aT with ea_ en_ ec_; (first | subst ea_ | (injection ea_ with ea_; subst ea_)); subst ec_; clear en_)); have aG := zK aU; have GG10 := zK aV; clear aU gl10 aV; obtain ⟨_, ce10, aW, aX, an, ao, _, _⟩ := Kd.S_elem ab.out z69 (aa : Int) p10 q10; obtain ⟨aH, rfl, ge10_2⟩ := k69_openM aX; have hx10_0 : ay.cell? ⟨ad, (aa : Int).toNat * 3, none⟩ = some (.int .i64 ((rd_T69 ac aa).f0)) := an 0 _ rfl; have hx10_1 : ay.cell? ⟨ad, (aa : Int).toNat * 3 + 1, none⟩ = some (.int .i64 ((rd_T69 ac aa).f1)) := an 1 _ rfl; have hx10_2 : ay.cell? ⟨ad, (aa : Int).toNat * 3 + 2, none⟩ = some (aH) := an 2 _ rfl; have hf10_0 : ay.frozen? ⟨ad, (aa : Int).toNat * 3, none⟩ = false := ao 0; have hf10_1 : ay.frozen? ⟨ad, (aa : Int).toNat * 3 + 1, none⟩ = false := ao 1; have hf10_2 : ay.frozen? ⟨ad, (aa : Int).toNat * 3 + 2, none⟩ = false := ao 2; clear aW an ao; (try clear aX); replace p10 := eq_true p10; replace q10 := eq_true q10; have n_ := zK (Kd.S_mono (ok' := (fun k_ => some k_ ≠ (au : Value).ownBlock)) ab.out (fun k_ hk => hk.2)); clear ab; have ab := n_; clear n_; have HX12 := zK (show Kd.S k69 69 ay w.heap.size (fun k_ => ((fun _ => True)) k_ ∧ ¬ ((fun k_ => some k_ = (au : Value).ownBlock)) k_) (.slice (some ⟨ad, 0, none⟩) ac.length aS) ac from (by (with_reducible repeat (first | apply Kd.S_alloc | apply Kd.S_drewN | apply Kd.S_drew)); exact Kd.S_mono ab.out (fun k_ hk => ⟨trivial, fun e_ => hk e_⟩))); obtain ⟨oki12, ce12, aY, aZ, ap, aq, aI, a0⟩ := Kd.S_elem HX12.out z69 (aa : Int) (zd) (by have h_ : (aa : Int) < ((ac.length : Int) : Int) := zd; first | exact h_ | (have e_ := (Kd.S_reads' ab.out).1; omega) | simpa using h_); obtain ⟨ve12_2, rfl, ge12_2⟩ := k69_openM aZ; have aJ := Kd.S_seg a0 (zd) (by have h_ : (aa : Int) < ((ac.length : Int) : Int) := zd; first | exact h_ | (have e_ := (Kd.S_reads' ab.out).1; omega) | simpa using h_) (seg := [.int .i64 aj, .int .i64 ak, au]) (j := 0) (show 3 ≤ 3 from by decide) (x' := (⟨aj, ak, ar⟩ : S69)) (k69_mkM _ _ _ (⟨aj, ak, ar⟩ : S69) (Kd.R_mono (Kd.R_tight rfl (Kd.R_mono (ok' := fun k_ => ((fun _ => True)) k_ ∧ k_ ≠ ad) (Kd.R_apart' (av.out) (Kd.S_typed ab.out) (by decide)) (fun k_ hk => ⟨trivial, fun e_ => (hk.2) (by rw [e_]; rfl)⟩))) (fun _ h_ => Or.inr (h_)))) (fun _ hk => hk) (fun k_ hk_ => ((Kd.R_mono (ok' := fun k_ => ((fun _ => True)) k_ ∧ k_ ≠ ad) (Kd.R_apart' (av.out) (Kd.S_typed ab.out) (by decide)) (fun k_ hk => ⟨trivial, fun e_ => (hk.2) (by rw [e_]; rfl)⟩))).1 k_ hk_.symm); have aK := ap 0 _ rfl; (try simp only [show (k69).sz = 3 from rfl, Nat.mul_one, Nat.add_zero] at aK); have aL := aq 0; (try simp only [show (k69).sz = 3 from rfl, Nat.mul_one, Nat.add_zero] at aL); have aM := ap 1 _ rfl; (try simp only [show (k69).sz = 3 from rfl, Nat.mul_one, Nat.add_zero] at aM); have aN := aq 1; (try simp only [show (k69).sz = 3 from rfl, Nat.mul_one, Nat.add_zero] at aN); have aO := ap 2 _ rfl; (try simp only [show (k69).sz = 3 from rfl, Nat.mul_one, Nat.add_zero] at aO); have aP := aq 2; (try simp only [show (k69).sz = 3 from rfl, Nat.mul_one, Nat.add_zero] at aP); clear aY ap aq aI a0; (try clear aZ)) | ((with_reducible refine gate_store (t := 69) (p := 21) rfl ?_); refine store_event (t := 69) (p := 21) (v := ?vo_w13) (w1 := (((ay.setCell ⟨ad, (aa : Int).toNat * 3, none⟩ (.int .i64 aj)).setCell ⟨ad, (aa : Int).toNat * 3 + 1, none⟩ (.int .i64 ak)).setCell ⟨ad, (aa : Int).toNat * 3 + 2, none⟩ (au))) ?hg ?ho ?hn ?hr ?_; (case ho => rfl); (case hg => rfl); (case hn => rfl); (case hr => first | (go_simp; done) | (go_simp; rfl) | (obtain ⟨A_, c_, he_⟩ := Kd.R_slice (v := au) (Aside0.out (by assumption)); rw [he_]; first | (go_simp; done) | (go_simp; rfl))); intro w13 hw; have hg : ay.grownBy w13 (some ad) := (by rw [hw]; exact aJ.2); have hp_ : Kd.S k69 69 w13 w.heap.size (fun _ => True) (.slice (some ⟨ad, 0, none⟩) ac.length aS) aB := (by rw [hw, Ny639.out]; exact aJ.1); clear aJ; have az := zK (hp_); have aA := zK ((by rw [hw]; exact zS (zS (zS (HB.out) aG.out) aG.out) aG.out : Below w.heap.size w w13)); clear ab; clear HB; clear av; have ab := az; have HB := aA; clear az aA; clear hg hw hp_))
        go_roundg k1
        case measure => have := HK1.out; omega
        case rel => exact ⟨(aB), (wrap64 (aa + 1)), zf, H', ⟨by have := HK1.out; omega⟩, ⟨zT ab⟩, ⟨zb HB⟩⟩
       ·rw [if_neg c9] at H
        exact absurd H (by simp)
      ·rw [if_neg c7] at H
       exact absurd H (by simp)
     ·rw [if_neg c6] at H
      have c6b0 : decide (aa < (l0.length : Int)) = false := decide_eq_false c6
      clear c6; obtain rfl := Option.some.inj H
      go_wp2
      go_ret
      exact ⟨_, ze, by (with_reducible repeat (first | apply Kd.S_alloc | apply Kd.S_drewN | apply Kd.S_drew)); exact ab.out, zb HB⟩
  ·rw [if_neg c3] at H
   exact absurd H (by simp)
 ·rw [if_neg c2] at H
  exact absurd H (by simp)
def laws_toWant.f (k : Nat) (a0_0 : Int) (l0_1 : List Int) : Option (Int × List Int) := (laws_toIntS.f k l0_1).bind fun t643 => (some (a0_0, t643))
set_option maxHeartbeats 8000000 in
set_option maxRecDepth 100000 in
theorem laws_toWant.calls (k : Nat) (a0_0 : Int) (aj : Option Addr) (ak : Nat) (ag : List Int) (r1 : Int) (r2 : List Int) (w : World) (az : Kd.C (Kd.int .i64) w aj ag.length ag) (hc0_1 : ag.length ≤ ak) (h : laws_toWant.f k a0_0 ag = some (r1, r2)) :
  Calls Try.prog 99 #[.agg #[.int .i64 a0_0, .slice aj ag.length ak]] w fun e w' => ∃ v1_ : Value, e = .returned (.agg #[.int .i64 r1, v1_]) ∧ Kd.R (Kd.int .i64) 3 w' w.heap.size (fun _ => True) v1_ r2 ∧ Below w.heap.size w w' := by
 have hu97 := Try.underlying97; have hu74 := Try.underlying74; have aE := zK az; have aF := zK hc0_1; clear az hc0_1
 have HB := zK (Below.refl w.heap.size w)
 have H : ((laws_toIntS.f k ag).bind fun an => (some (a0_0, an))) = some (r1, r2) := h
 clear h; replace H := Option.bind_eq_some_iff.mp H
 obtain ⟨an, A20, H⟩ := H
 replace H : (some (a0_0, an)) = some (r1, r2) := H
 have A2 := zK A20; clear A20
 simp only [Option.some.injEq, Prod.mk.injEq] at H
 obtain ⟨rfl, rfl⟩ := H
 go_enter Try.func99, Try.ntmps99
 go_wp2_with (first | ((with_reducible refine gate_dst (N := 1) rfl ?_); refine zX 1 #[.int .i64 a0_0, .slice aj ag.length ak] 97 ?_; intro ab hg w3 hbox hb; have av := zK (below_step (zb HB) hb); have aw := zK (hbox); have ax := zK ((by rw [hg]; exact (below_size (zb HB)) : w.heap.size ≤ ab)); have ay := zK ((by rw [hg]; exact (below_size (zb HB)) : w.heap.size ≤ ab)); clear HB; have HB := av; have aa := aw; have GW640 := ax; have ah := ay; clear av aw ax ay; clear hb hbox hg) | ((with_reducible refine gate_dst (N := 2) rfl ?_); refine zX 2 #[.int .i64 0, .slice none 0 0] 74 ?_; intro ac hg w4 hbox hb; have av := zK (blk_below (g := ab) (o := .cells #[.int .i64 a0_0, .slice aj ag.length ak] 97 (0, 0)) (zk aa) hb); have aw := zK (below_step (zb HB) hb); have ax := zK (hbox); have ay := zK ((by rw [hg]; exact (below_size (zb HB)) : w.heap.size ≤ ac)); have aA := zK ((by rw [hg]; exact (below_size (zb HB)) : w.heap.size ≤ ac)); have aG := zK ((by rw [hg]; exact Nat.ne_of_lt (blk_lt (g := ab) (o := .cells #[.int .i64 a0_0, .slice aj ag.length ak] 97 (0, 0)) (zk aa)) : ab ≠ ac)); have aH := zK ((by rw [hg]; exact Nat.ne_of_gt (blk_lt (g := ab) (o := .cells #[.int .i64 a0_0, .slice aj ag.length ak] 97 (0, 0)) (zk aa)) : ac ≠ ab)); clear aa; clear HB; have aa := av; have HB := aw; have ad := ax; have GW641 := ay; have al := aA; have ap := aG; have aq := aH; clear av aw ax ay aA aG aH; clear hb hbox hg) | ((with_reducible refine gate_dst (N := 3) rfl ?_); refine zX 3 #[.int .i64 0, .slice none 0 0] 74 ?_; intro ae hg w5 hbox hb; have av := zK (blk_below (g := ab) (o := .cells #[.int .i64 a0_0, .slice aj ag.length ak] 97 (0, 0)) (zk aa) hb); have aw := zK (blk_below (g := ac) (o := .cells #[.int .i64 0, .slice none 0 0] 74 (0, 0)) (zk ad) hb); have ax := zK (below_step (zb HB) hb); have ay := zK (hbox); have aA := zK ((by rw [hg]; exact (below_size (zb HB)) : w.heap.size ≤ ae)); have aG := zK ((by rw [hg]; exact (below_size (zb HB)) : w.heap.size ≤ ae)); have aH := zK ((by rw [hg]; exact Nat.ne_of_lt (blk_lt (g := ab) (o := .cells #[.int .i64 a0_0, .slice aj ag.length ak] 97 (0, 0)) (zk aa)) : ab ≠ ae)); have n7_ := zK ((by rw [hg]; exact Nat.ne_of_gt (blk_lt (g := ab) (o := .cells #[.int .i64 a0_0, .slice aj ag.length ak] 97 (0, 0)) (zk aa)) : ae ≠ ab)); have n8_ := zK ((by rw [hg]; exact Nat.ne_of_lt (blk_lt (g := ac) (o := .cells #[.int .i64 0, .slice none 0 0] 74 (0, 0)) (zk ad)) : ac ≠ ae)); have n9_ := zK ((by rw [hg]; exact Nat.ne_of_gt (blk_lt (g := ac) (o := .cells #[.int .i64 0, .slice none 0 0] 74 (0, 0)) (zk ad)) : ae ≠ ac)); clear aa; clear ad; clear HB; have aa := av; have ad := aw; have HB := ax; have af := ay; have GW642 := aA; have ao := aG; have am := aH; have ar := n7_; have ai := n8_; have au := n9_; clear av aw ax ay aA aG aH n7_ n8_ n9_; clear hb hbox hg; have hnb6 := ap.out; have hnc6 := aq.out; have hnb7 := am.out; have hnc7 := ar.out; have hcz8_0 : w5.cell? ⟨ab, 0, none⟩ = some (.int .i64 a0_0) := (blk_cell aa.out 0).trans rfl; have hcz8_1 : w5.cell? ⟨ab, 1, none⟩ = some (.slice aj ag.length ak) := (blk_cell aa.out 1).trans rfl; have hfz8_0 := blk_frozen aa.out 0; have hfz8_1 := blk_frozen aa.out 1; have hnb9 := au.out; have hnc9 := ai.out; have hcz10_0 : w5.cell? ⟨ae, 0, none⟩ = some (.int .i64 0) := (blk_cell af.out 0).trans rfl; have hcz10_1 : w5.cell? ⟨ae, 1, none⟩ = some (.slice none 0 0) := (blk_cell af.out 1).trans rfl; have hfz10_0 := blk_frozen af.out 0; have hfz10_1 := blk_frozen af.out 1) | ((with_reducible refine gate_callee (f := 39) rfl ?_); refine goesL_ (some 9) rfl rfl Try.func39 (by kernel_rfl) rfl #[.slice aj ag.length ak] rfl zg ?_; (with_reducible refine (laws_toIntS.calls k _ _ ag an _ ?side1 ?side2 A2.out).mono ?_); (case side1 => exact Kd.C_below aE.out (zb HB)); (case side2 => exact aF.out); rintro e w11 ⟨v644, rfl, ho0, hb⟩; refine ⟨_, rfl, ?_⟩; have av := zK (Kd.R_lower ho0 (below_size (zb HB))); have aw := zK (blk_below (g := ab) (o := .cells #[.int .i64 a0_0, .slice aj ag.length ak] 97 (0, 0)) (zh aa am) hb); have ax := zK (blk_below (g := ac) (o := .cells #[.int .i64 0, .slice none 0 0] 74 (0, 0)) (zh ad ai) hb); have ay := zK (blk_below (g := ae) (o := .cells #[.int .i64 a0_0, .slice none 0 0] 74 (0, 0)) (by (with_reducible repeat (first | refine zN ?_ _ | refine zD ?_ | refine zA ?_ _)); refine blk_put (cs := #[.int .i64 0, .slice none 0 0]) ?_ 0 _ rfl; (with_reducible repeat (first | refine zN ?_ _ | refine zD ?_ | refine zA ?_ _)); exact af.out) hb); have aA := zK (below_step (zb HB) hb); clear aa; clear ad; clear af; clear HB; have aB := av; have aa := aw; have ad := ax; have af := ay; have HB := aA; clear av aw ax ay aA; (try clear hb); (try clear ho0); obtain ⟨aC, aD, eo12⟩ := Kd.R_slice aB.out; subst eo12; have hcz13_0 : w11.cell? ⟨ae, 0, none⟩ = some (.int .i64 a0_0) := (blk_cell af.out 0).trans rfl; have hcz13_1 : w11.cell? ⟨ae, 1, none⟩ = some (.slice none 0 0) := (blk_cell af.out 1).trans rfl; have hfz13_0 := blk_frozen af.out 0; have hfz13_1 := blk_frozen af.out 1; have hcz14_0 : w11.cell? ⟨ac, 0, none⟩ = some (.int .i64 0) := (blk_cell ad.out 0).trans rfl; have hcz14_1 : w11.cell? ⟨ac, 1, none⟩ = some (.slice none 0 0) := (blk_cell ad.out 1).trans rfl; have hfz14_0 := blk_frozen ad.out 0; have hfz14_1 := blk_frozen ad.out 1))
 refine bodyPost_ret (results_cell_row rfl _ _ ac 74 #[.int .i64 a0_0, .slice aC an.length aD] (0, 0) _ rfl (by (with_reducible repeat (first | refine zN ?_ _ | refine zD ?_ | refine zA ?_ _)); refine blk_put (cs := #[.int .i64 a0_0, .slice none 0 0]) ?_ 1 _ rfl; (with_reducible repeat (first | refine zN ?_ _ | refine zD ?_ | refine zA ?_ _)); refine blk_put (cs := #[.int .i64 0, .slice none 0 0]) ?_ 0 _ rfl; (with_reducible repeat (first | refine zN ?_ _ | refine zD ?_ | refine zA ?_ _)); refine blk_far ?_ ai.out _; (with_reducible repeat (first | refine zN ?_ _ | refine zD ?_ | refine zA ?_ _)); exact ad.out) Try.underlying74 rfl (by kernel_rfl)) rfl ?_
 exact ⟨_, ze, by (with_reducible repeat (first | apply Kd.R_alloc | apply Kd.R_drewN | apply Kd.R_drew)); exact Kd.R_mono (Kd.R_far (p := ⟨ac, 1, none⟩) (Kd.R_far (p := ⟨ac, 0, none⟩) (Kd.R_far (p := ⟨ae, 1, none⟩) (Kd.R_types (Kd.R_types aB.out af.out (by decide)) ad.out (by decide)) (fun _ hk => hk.1.2) (.slice aC an.length aD)) (fun _ hk => hk.2) (.int .i64 a0_0)) (fun _ hk => hk.2) (.slice aC an.length aD)) (fun _ hk => trivial), zb HB⟩
def laws_toWantS.l0 : Nat → List (S97) → List (S74) → Int → Option ((List (S74)))
 | 0, _, _, _ => none
 | k + 1, x0, x3, x4 => if x4 < (x0.length : Int) then (if 0 ≤ x4 then ((laws_toWant.f k ((rd_T97 x0 x4).f0) ((rd_T97 x0 x4).f1)).bind fun bt650 => (if x4 < (x3.length : Int) then (laws_toWantS.l0 k x0 (x3.set (x4 : Int).toNat (⟨bt650.1, bt650.2⟩ : S74)) (wrap64 (x4 + 1))) else (none))) else (none)) else (some x3)
def laws_toWantS.f (k : Nat) (l0 : List (S97)) : Option ((List (S74))) := if 0 ≤ (l0.length : Int) then (if ((l0.length : Int) : Int).toNat ≤ 8796093022208 then (laws_toWantS.l0 k l0 (List.replicate ((l0.length : Int) : Int).toNat z74) 0) else (none)) else (none)
set_option maxHeartbeats 8000000 in
set_option maxRecDepth 100000 in
theorem laws_toWantS.calls (k : Nat) (A0 : Option Addr) (c0 : Nat) (l0 : List (S97)) (r : List (S74)) (w : World) (hr0 : Kd.C k97 w A0 l0.length l0) (hc0 : l0.length ≤ c0) (h : laws_toWantS.f k l0 = some r) :
  Calls Try.prog 74 #[.slice A0 l0.length c0] w fun e w' => ∃ v0_ : Value, e = .returned (v0_) ∧ Kd.S k74 74 w' w.heap.size (fun _ => True) v0_ r ∧ Below w.heap.size w w' := by
 have hu97 := Try.underlying97; have hu74 := Try.underlying74; have HR0 := zK hr0; have HC0 := zK hc0; clear hr0 hc0
 have HB := zK (Below.refl w.heap.size w)
 have H : (if 0 ≤ (l0.length : Int) then (if ((l0.length : Int) : Int).toNat ≤ 8796093022208 then (laws_toWantS.l0 k l0 (List.replicate ((l0.length : Int) : Int).toNat z74) 0) else (none)) else (none)) = some r := h
 clear h
 by_cases c2 : 0 ≤ (l0.length : Int)
 ·rw [if_pos c2] at H
  have c2b0 := eq_true c2
  have c2b1 : decide (0 ≤ (l0.length : Int)) = true := decide_eq_true c2
  clear c2
  by_cases c3 : ((l0.length : Int) : Int).toNat ≤ 8796093022208
  ·rw [if_pos c3] at H
   have c3b0 := eq_true c3
   have c3b1 : decide (((l0.length : Int) : Int).toNat ≤ 8796093022208) = true := decide_eq_true c3
   clear c3
   obtain ⟨aL, ag⟩ : ∃ y_ : List (S74), y_ = (List.replicate ((l0.length : Int) : Int).toNat z74) := ⟨_, rfl⟩
   replace H : (laws_toWantS.l0 k l0 aL 0) = some r := by first | (rw [ag]; with_reducible exact H) | (have H2_ := (Option.bind_some _ _).symm.trans H; rw [ag]; with_reducible exact H2_) | (have H2_ := (Option.bind_some _ _).symm.trans H; with_reducible exact H2_) | with_reducible exact H | (rw [ag]; exact H) | exact H
   have Ny646 := zK ag; clear ag; have H' := zK H; clear H
   go_enter Try.func74, Try.ntmps74
   go_wp2_with (first | ((with_reducible refine gate_dst (N := 7) rfl ?_); refine Kd.S_make k74 _ 74 rfl (N := 7) rfl 26 _ _ rfl (l0.length : Int) rfl rfl Try.underlying26 (.agg #[(.int .i64 0), (.slice none 0 0)]) 32 info74 rfl (by decide) (by omega) z74 (ok := fun _ => True) (okp := fun _ => True) (k74_mkM _ _ _ z74 (Kd.R_nil _ _ _ _ _)) (fun _ hk => hk) trivial (zd) (Nat.le_trans (Nat.mul_le_mul_right _ (zd : (l0.length : Int).toNat ≤ 8796093022208)) (by omega)) (Below.refl _ _) (Nat.le_refl _) ?_; intro v647 w4 ho5 hb hg_ hnew_; clear hg_ hnew_; (first | rw [← Ny646.out] at ho5 | (simp only [Int.reduceToNat] at ho5; rw [← Ny646.out] at ho5)); have aw := zK (Kd.S_lower ho5 (below_size (zb HB))); have ax := zK (below_step (zb HB) hb); clear HB; have aM := aw; have HB := ax; clear aw ax; clear hb ho5))
   go_loopg [4] k (fun kq v4 w' => ∃ (ac : List (S74)) (aa : Int), v4 = .int .i64 aa ∧ Aside0 (laws_toWantS.l0 kq l0 ac aa = some r) ∧ Aside0 (kq ≤ k) ∧ Aside0 (Kd.S k74 74 w' w.heap.size (fun _ => True) v647 ac) ∧ Aside0 (Below w.heap.size w w'))
   case atStart => exact ⟨(aL), (0), zf, H', ⟨Nat.le_refl _⟩, ⟨zT aM⟩, ⟨zb HB⟩⟩
   case round =>
    clear H' c2b0 c2b1 c3b0 c3b1
    obtain ⟨ac, aa, rfl, HA, HK1, ab, HB⟩ := hrel
    cases gk with
    | zero => exact absurd HA.out (by simp [laws_toWantS.l0])
    | succ k1 =>
     have H := HA.out; clear HA
     simp only [laws_toWantS.l0] at H
     by_cases c6 : aa < (l0.length : Int)
     ·rw [if_pos c6] at H
      have c6b0 : decide (aa < (l0.length : Int)) = true := decide_eq_true c6
      clear c6
      by_cases c7 : 0 ≤ aa
      ·rw [if_pos c7] at H
       have c7b0 : decide (0 ≤ aa) = true := decide_eq_true c7
       clear c7; replace H := Option.bind_eq_some_iff.mp H
       obtain ⟨⟨ai, al⟩, A80, H⟩ := H
       replace H : (if aa < (ac.length : Int) then (laws_toWantS.l0 k1 l0 (ac.set (aa : Int).toNat (⟨ai, al⟩ : S74)) (wrap64 (aa + 1))) else (none)) = some r := H
       have A8 := zK A80; clear A80
       by_cases c9 : aa < (ac.length : Int)
       ·rw [if_pos c9] at H
        have c9b0 : decide (aa < (ac.length : Int)) = true := decide_eq_true c9
        clear c9
        obtain ⟨ay, ah⟩ : ∃ y_ : List (S74), y_ = (ac.set (aa : Int).toNat (⟨ai, al⟩ : S74)) := ⟨_, rfl⟩
        replace H : (laws_toWantS.l0 k1 l0 ay (wrap64 (aa + 1))) = some r := by first | (rw [ah]; with_reducible exact H) | (have H2_ := (Option.bind_some _ _).symm.trans H; rw [ah]; with_reducible exact H2_) | (have H2_ := (Option.bind_some _ _).symm.trans H; with_reducible exact H2_) | with_reducible exact H | (rw [ah]; exact H) | exact H
        have Ny654 := zK ah; clear ah; have H' := zK H; clear H
        have az : 0 ≤ (aa : Int) := zd
        have aA : aa < (l0.length : Int) := zd
        obtain ⟨ad649, aB, aC, e649, ae, af, aj, ak⟩ := at_T97 HR0.out aa az aA
        cases e649
        replace ae := (HB.out.cell (World.block_lt_of_cell? w _ ae)).trans ae
        replace af := (HB.out.cell (World.block_lt_of_cell? w _ af)).trans af
        have au := zK ak; have av := zK aj; clear ak aj; replace az := eq_true az; replace aA := eq_true aA
        go_wp2_with (first | ((with_reducible refine gate_callee (f := 99) rfl ?_); refine goesL_ (some 20) rfl rfl Try.func99 (by kernel_rfl) rfl #[.agg #[.int .i64 ((rd_T97 l0 aa).f0), .slice aB ((rd_T97 l0 aa).f1).length aC]] rfl zg ?_; (with_reducible refine (laws_toWant.calls k1 ((rd_T97 l0 aa).f0) _ _ ((rd_T97 l0 aa).f1) ai al _ ?side1 ?side2 A8.out).mono ?_); (case side1 => exact zs (Kd.C_below au.out HB.out)); (case side2 => exact av.out); rintro e aD ⟨am, rfl, ho0, hb⟩; refine ⟨_, rfl, ?_⟩; have aw := zK (Kd.S_elder' (zT ab) (Kd.R_base ho0) hb); have ax := zK (Kd.R_lower ho0 (below_size (zb HB))); have n2_ := zK (below_step (zb HB) hb); clear ab; clear HB; have ab := aw; have an := ax; have HB := n2_; clear aw ax n2_; (try clear hb); (try clear hk); (try clear ho0); have p10 : 0 ≤ (aa : Int) := zd; have q10 : (aa : Int) < ((ac.length : Int) : Int) := zd; obtain ⟨ad, aN, aO, aP, gl10, cl10, aQ⟩ := Kd.S_form ab.out (by omega); (first | cases aO | (injection aO with ea_ en_ ec_; (first | subst ea_ | (injection ea_ with ea_; subst ea_)); subst ec_; clear en_)); have aR := zK aP; have GG10 := zK aQ; clear aP gl10 aQ; obtain ⟨_, ce10, aS, aT, ao, ap, _, _⟩ := Kd.S_elem ab.out z74 (aa : Int) p10 q10; obtain ⟨aE, rfl, ge10_1⟩ := k74_openM aT; have hx10_0 : aD.cell? ⟨ad, (aa : Int).toNat * 2, none⟩ = some (.int .i64 ((rd_T74 ac aa).f0)) := ao 0 _ rfl; have hx10_1 : aD.cell? ⟨ad, (aa : Int).toNat * 2 + 1, none⟩ = some (aE) := ao 1 _ rfl; have hf10_0 : aD.frozen? ⟨ad, (aa : Int).toNat * 2, none⟩ = false := ap 0; have hf10_1 : aD.frozen? ⟨ad, (aa : Int).toNat * 2 + 1, none⟩ = false := ap 1; clear aS ao ap; (try clear aT); replace p10 := eq_true p10; replace q10 := eq_true q10; have n_ := zK (Kd.S_mono (ok' := (fun k_ => some k_ ≠ (am : Value).ownBlock)) ab.out (fun k_ hk => hk.2)); clear ab; have ab := n_; clear n_; have HX12 := zK (show Kd.S k74 74 aD w.heap.size (fun k_ => ((fun _ => True)) k_ ∧ ¬ ((fun k_ => some k_ = (am : Value).ownBlock)) k_) (.slice (some ⟨ad, 0, none⟩) ac.length aN) ac from (by (with_reducible repeat (first | apply Kd.S_alloc | apply Kd.S_drewN | apply Kd.S_drew)); exact Kd.S_mono ab.out (fun k_ hk => ⟨trivial, fun e_ => hk e_⟩))); obtain ⟨oki12, ce12, aU, aV, aq, ar, aF, aW⟩ := Kd.S_elem HX12.out z74 (aa : Int) (zd) (by have h_ : (aa : Int) < ((ac.length : Int) : Int) := zd; first | exact h_ | (have e_ := (Kd.S_reads' ab.out).1; omega) | simpa using h_); obtain ⟨ve12_1, rfl, ge12_1⟩ := k74_openM aV; have aG := Kd.S_seg aW (zd) (by have h_ : (aa : Int) < ((ac.length : Int) : Int) := zd; first | exact h_ | (have e_ := (Kd.S_reads' ab.out).1; omega) | simpa using h_) (seg := [.int .i64 ai, am]) (j := 0) (show 2 ≤ 2 from by decide) (x' := (⟨ai, al⟩ : S74)) (k74_mkM _ _ _ (⟨ai, al⟩ : S74) (Kd.R_mono (Kd.R_tight rfl (Kd.R_mono (ok' := fun k_ => ((fun _ => True)) k_ ∧ k_ ≠ ad) (Kd.R_apart' (an.out) (Kd.S_typed ab.out) (by decide)) (fun k_ hk => ⟨trivial, fun e_ => (hk.2) (by rw [e_]; rfl)⟩))) (fun _ h_ => Or.inr (h_)))) (fun _ hk => hk) (fun k_ hk_ => ((Kd.R_mono (ok' := fun k_ => ((fun _ => True)) k_ ∧ k_ ≠ ad) (Kd.R_apart' (an.out) (Kd.S_typed ab.out) (by decide)) (fun k_ hk => ⟨trivial, fun e_ => (hk.2) (by rw [e_]; rfl)⟩))).1 k_ hk_.symm); have aH := aq 0 _ rfl; (try simp only [show (k74).sz = 2 from rfl, Nat.mul_one, Nat.add_zero] at aH); have aI := ar 0; (try simp only [show (k74).sz = 2 from rfl, Nat.mul_one, Nat.add_zero] at aI); have aJ := aq 1 _ rfl; (try simp only [show (k74).sz = 2 from rfl, Nat.mul_one, Nat.add_zero] at aJ); have aK := ar 1; (try simp only [show (k74).sz = 2 from rfl, Nat.mul_one, Nat.add_zero] at aK); clear aU aq ar aF aW; (try clear aV)) | ((with_reducible refine gate_store (t := 74) (p := 21) rfl ?_); refine store_event (t := 74) (p := 21) (v := ?vo_w13) (w1 := ((aD.setCell ⟨ad, (aa : Int).toNat * 2, none⟩ (.int .i64 ai)).setCell ⟨ad, (aa : Int).toNat * 2 + 1, none⟩ (am))) ?hg ?ho ?hn ?hr ?_; (case ho => rfl); (case hg => rfl); (case hn => rfl); (case hr => first | (go_simp; done) | (go_simp; rfl) | (obtain ⟨A_, c_, he_⟩ := Kd.R_slice (v := am) (Aside0.out (by assumption)); rw [he_]; first | (go_simp; done) | (go_simp; rfl))); intro w13 hw; have hg : aD.grownBy w13 (some ad) := (by rw [hw]; exact aG.2); have hp_ : Kd.S k74 74 w13 w.heap.size (fun _ => True) (.slice (some ⟨ad, 0, none⟩) ac.length aN) ay := (by rw [hw, Ny654.out]; exact aG.1); clear aG; have aw := zK (hp_); have ax := zK ((by rw [hw]; exact zS (zS (HB.out) aR.out) aR.out : Below w.heap.size w w13)); clear ab; clear HB; clear an; have ab := aw; have HB := ax; clear aw ax; clear hg hw hp_))
        go_roundg k1
        case measure => have := HK1.out; omega
        case rel => exact ⟨(ay), (wrap64 (aa + 1)), zf, H', ⟨by have := HK1.out; omega⟩, ⟨zT ab⟩, ⟨zb HB⟩⟩
       ·rw [if_neg c9] at H
        exact absurd H (by simp)
      ·rw [if_neg c7] at H
       exact absurd H (by simp)
     ·rw [if_neg c6] at H
      have c6b0 : decide (aa < (l0.length : Int)) = false := decide_eq_false c6
      clear c6; obtain rfl := Option.some.inj H
      go_wp2
      go_ret
      exact ⟨_, ze, by (with_reducible repeat (first | apply Kd.S_alloc | apply Kd.S_drewN | apply Kd.S_drew)); exact ab.out, zb HB⟩
  ·rw [if_neg c3] at H
   exact absurd H (by simp)
 ·rw [if_neg c2] at H
  exact absurd H (by simp)
def laws_toLoop.f (k : Nat) (l0_0 : List Int) (a0_1 : Int) (l0_2 : List (S95)) (l0_3 : List (S97)) : Option (List Int × Int × (List (S69)) × (List (S74))) := (laws_toIntS.f k l0_0).bind fun t658 => ((laws_toChuteS.f k l0_2).bind fun t661 => ((laws_toWantS.f k l0_3).bind fun t664 => (some (t658, a0_1, t661, t664))))
def laws_eqIntS.l0 : Nat → List Int → List Int → Int → Option (Bool)
 | 0, _, _, _ => none
 | k + 1, x0, x1, x5 => if x5 < (x0.length : Int) then (if 0 ≤ x5 then (if x5 < (x1.length : Int) then (if (rd x0 x5) = (rd x1 x5) then (laws_eqIntS.l0 k x0 x1 (wrap64 (x5 + 1))) else (some false)) else (none)) else (none)) else (some true)
def laws_eqIntS.f (k : Nat) (l0 : List Int) (l1 : List Int) : Option (Bool) := if (l0.length : Int) = (l1.length : Int) then (laws_eqIntS.l0 k l0 l1 0) else (some false)
set_option maxHeartbeats 8000000 in
set_option maxRecDepth 100000 in
theorem laws_eqIntS.calls (k : Nat) (A0 : Option Addr) (c0 : Nat) (l0 : List Int) (A1 : Option Addr) (c1 : Nat) (l1 : List Int) (r : Bool) (w : World) (hr0 : Kd.C (Kd.int .i64) w A0 l0.length l0) (hc0 : l0.length ≤ c0) (hr1 : Kd.C (Kd.int .i64) w A1 l1.length l1) (hc1 : l1.length ≤ c1) (h : laws_eqIntS.f k l0 l1 = some r) :
  Calls Try.prog 41 #[.slice A0 l0.length c0, .slice A1 l1.length c1] w fun e w' => e = .returned (.bool r) ∧ Drawn0 w w' := by
 have HR0 := zK hr0; have HC0 := zK hc0; clear hr0 hc0; have HR1 := zK hr1; have HC1 := zK hc1; clear hr1 hc1
 have H : (if (l0.length : Int) = (l1.length : Int) then (laws_eqIntS.l0 k l0 l1 0) else (some false)) = some r := h
 clear h
 by_cases c3 : (l0.length : Int) = (l1.length : Int)
 ·rw [if_pos c3] at H
  have aj : ((l0.length : Int) == (l1.length : Int)) = true := beq_iff_eq.mpr c3
  have ak : ((l0.length : Int) != (l1.length : Int)) = false := bne_eq_false_iff_eq.mpr c3
  have al : (l0.length == l1.length) = true := by first | simpa using c3 | (simp at c3 ⊢; omega)
  clear c3; have H' := zK H; clear H
  go_enter Try.func41, Try.ntmps41
  go_wp2
  repeat (go_quiet (fail); try go_wp2)
  go_loopg [5] k (fun kq v5 w' => ∃ (aa : Int), v5 = .int .i64 aa ∧ Aside0 (laws_eqIntS.l0 kq l0 l1 aa = some r) ∧ Aside0 (kq ≤ k) ∧ Drawn0 w w')
  case atStart => exact ⟨(0), zf, H', ⟨Nat.le_refl _⟩, by repeat (first | exact Drawn0.refl _ | apply Drawn0.step)⟩
  case round =>
   clear H' aj ak al
   obtain ⟨aa, rfl, HA, HK1, ⟨m1, rfl⟩⟩ := hrel
   cases gk with
   | zero => exact absurd HA.out (by simp [laws_eqIntS.l0])
   | succ k1 =>
    have H := HA.out; clear HA
    simp only [laws_eqIntS.l0] at H
    by_cases c4 : aa < (l0.length : Int)
    ·rw [if_pos c4] at H
     have c4b0 : decide (aa < (l0.length : Int)) = true := decide_eq_true c4
     clear c4
     by_cases c5 : 0 ≤ aa
     ·rw [if_pos c5] at H
      have c5b0 : decide (0 ≤ aa) = true := decide_eq_true c5
      clear c5
      by_cases c6 : aa < (l1.length : Int)
      ·rw [if_pos c6] at H
       have c6b0 : decide (aa < (l1.length : Int)) = true := decide_eq_true c6
       clear c6
       by_cases c7 : (rd l0 aa) = (rd l1 aa)
       ·rw [if_pos c7] at H
        have c7b0 : ((rd l0 aa) == (rd l1 aa)) = true := beq_iff_eq.mpr c7
        have c7b1 : ((rd l0 aa) != (rd l1 aa)) = false := bne_eq_false_iff_eq.mpr c7
        clear c7; have H' := zK H; clear H
        have ab : 0 ≤ (aa : Int) := zd
        have ac : aa < (l0.length : Int) := zd
        obtain ⟨am, ah, af⟩ := Kd.at_int HR0.out aa ab ac
        cases ah
        replace ab := eq_true ab; replace ac := eq_true ac
        have ad : 0 ≤ (aa : Int) := zd
        have ae : aa < (l1.length : Int) := zd
        obtain ⟨an, ai, ag⟩ := Kd.at_int HR1.out aa ad ae
        cases ai
        replace ad := eq_true ad; replace ae := eq_true ae
        go_wp2
        repeat (go_quiet (fail); try go_wp2)
        go_roundg k1
        case measure => have := HK1.out; omega
        case rel => exact ⟨(wrap64 (aa + 1)), zf, H', ⟨by have := HK1.out; omega⟩, by repeat (first | exact Drawn0.refl _ | apply Drawn0.step)⟩
       ·rw [if_neg c7] at H
        have c7b0 : ((rd l0 aa) == (rd l1 aa)) = false := beq_eq_false_iff_ne.mpr c7
        have c7b1 : ((rd l0 aa) != (rd l1 aa)) = true := bne_iff_ne.mpr c7
        obtain rfl := Option.some.inj H
        have ab : 0 ≤ (aa : Int) := zd
        have ac : aa < (l0.length : Int) := zd
        obtain ⟨am, ah, af⟩ := Kd.at_int HR0.out aa ab ac
        cases ah
        replace ab := eq_true ab; replace ac := eq_true ac
        have ad : 0 ≤ (aa : Int) := zd
        have ae : aa < (l1.length : Int) := zd
        obtain ⟨an, ai, ag⟩ := Kd.at_int HR1.out aa ad ae
        cases ai
        replace ad := eq_true ad; replace ae := eq_true ae
        go_wp2
        repeat (go_quiet (fail); try go_wp2)
        go_ret
        exact ⟨by first | rfl | (simp; done) | (simp [*]; done), by repeat (first | exact Drawn0.refl _ | apply Drawn0.step)⟩
      ·rw [if_neg c6] at H
       exact absurd H (by simp)
     ·rw [if_neg c5] at H
      exact absurd H (by simp)
    ·rw [if_neg c4] at H
     have c4b0 : decide (aa < (l0.length : Int)) = false := decide_eq_false c4
     clear c4; obtain rfl := Option.some.inj H
     go_wp2
     repeat (go_quiet (fail); try go_wp2)
     go_ret
     exact ⟨by first | rfl | (simp; done) | (simp [*]; done), by repeat (first | exact Drawn0.refl _ | apply Drawn0.step)⟩
 ·rw [if_neg c3] at H
  have aj : ((l0.length : Int) == (l1.length : Int)) = false := beq_eq_false_iff_ne.mpr c3
  have ak : ((l0.length : Int) != (l1.length : Int)) = true := bne_iff_ne.mpr c3
  have al : (l0.length == l1.length) = false := by first | simpa using c3 | (simp at c3 ⊢; omega)
  obtain rfl := Option.some.inj H
  go_enter Try.func41, Try.ntmps41
  go_wp2
  repeat (go_quiet (fail); try go_wp2)
  go_ret
  exact ⟨by first | rfl | (simp; done) | (simp [*]; done), by repeat (first | exact Drawn0.refl _ | apply Drawn0.step)⟩
def laws_eqChute.f (k : Nat) (a0_0 : Int) (a0_1 : Int) (l0_2 : List Int) (a1_0 : Int) (a1_1 : Int) (l1_2 : List Int) : Option (Bool) := if a0_0 = a1_0 then (if a0_1 = a1_1 then ((laws_eqIntS.f k l0_2 l1_2).bind fun t671 => (if t671 = true then (some true) else (some false))) else (some false)) else (some false)
set_option maxHeartbeats 8000000 in
set_option maxRecDepth 100000 in
theorem laws_eqChute.calls (k : Nat) (a0_0 : Int) (a0_1 : Int) (ai : Option Addr) (aj : Nat) (ae : List Int) (a1_0 : Int) (a1_1 : Int) (al : Option Addr) (am : Nat) (ak : List Int) (r : Bool) (w : World) (aA : Kd.C (Kd.int .i64) w ai ae.length ae) (hc0_2 : ae.length ≤ aj) (aB : Kd.C (Kd.int .i64) w al ak.length ak) (hc1_2 : ak.length ≤ am) (h : laws_eqChute.f k a0_0 a0_1 ae a1_0 a1_1 ak = some r) :
  Calls Try.prog 100 #[.agg #[.int .i64 a0_0, .int .i64 a0_1, .slice ai ae.length aj], .agg #[.int .i64 a1_0, .int .i64 a1_1, .slice al ak.length am]] w fun e w' => e = .returned (.bool r) ∧ Below w.heap.size w w' := by
 have hu69 := Try.underlying69; have aC := zK aA; have aD := zK hc0_2; clear aA hc0_2; have aE := zK aB; have aF := zK hc1_2; clear aB hc1_2
 have HB := zK (Below.refl w.heap.size w)
 have H : (if a0_0 = a1_0 then (if a0_1 = a1_1 then ((laws_eqIntS.f k ae ak).bind fun az => (if az = true then (some true) else (some false))) else (some false)) else (some false)) = some r := h
 clear h
 by_cases c3 : a0_0 = a1_0
 ·rw [if_pos c3] at H
  have c3b0 : (a0_0 == a1_0) = true := beq_iff_eq.mpr c3
  have c3b1 : (a0_0 != a1_0) = false := bne_eq_false_iff_eq.mpr c3
  clear c3
  by_cases c4 : a0_1 = a1_1
  ·rw [if_pos c4] at H
   have c4b0 : (a0_1 == a1_1) = true := beq_iff_eq.mpr c4
   have c4b1 : (a0_1 != a1_1) = false := bne_eq_false_iff_eq.mpr c4
   clear c4; replace H := Option.bind_eq_some_iff.mp H
   obtain ⟨az, A50, H⟩ := H
   replace H : (if az = true then (some true) else (some false)) = some r := H
   have A5 := zK A50; clear A50
   by_cases c6 : az = true
   ·subst c6
    have H1 : (some true) = some r := by rw [if_pos rfl] at H; exact H
    clear H; have H := H1; clear H1; obtain rfl := Option.some.inj H
    go_enter Try.func100, Try.ntmps100
    go_wp2_with (first | ((with_reducible refine gate_dst (N := 2) rfl ?_); refine zX 2 #[.int .i64 a0_0, .int .i64 a0_1, .slice ai ae.length aj] 69 ?_; intro ab hg w7 hbox hb; have an := zK (below_step (zb HB) hb); have ao := zK (hbox); have ap := zK ((by rw [hg]; exact (below_size (zb HB)) : w.heap.size ≤ ab)); have aq := zK ((by rw [hg]; exact (below_size (zb HB)) : w.heap.size ≤ ab)); clear HB; have HB := an; have aa := ao; have au := ap; have af := aq; clear an ao ap aq; clear hb hbox hg) | ((with_reducible refine gate_dst (N := 3) rfl ?_); refine zX 3 #[.int .i64 a1_0, .int .i64 a1_1, .slice al ak.length am] 69 ?_; intro ac hg w8 hbox hb; have an := zK (blk_below (g := ab) (o := .cells #[.int .i64 a0_0, .int .i64 a0_1, .slice ai ae.length aj] 69 (0, 0)) (zk aa) hb); have ao := zK (below_step (zb HB) hb); have ap := zK (hbox); have aq := zK ((by rw [hg]; exact (below_size (zb HB)) : w.heap.size ≤ ac)); have av := zK ((by rw [hg]; exact (below_size (zb HB)) : w.heap.size ≤ ac)); have aw := zK ((by rw [hg]; exact Nat.ne_of_lt (blk_lt (g := ab) (o := .cells #[.int .i64 a0_0, .int .i64 a0_1, .slice ai ae.length aj] 69 (0, 0)) (zk aa)) : ab ≠ ac)); have ax := zK ((by rw [hg]; exact Nat.ne_of_gt (blk_lt (g := ab) (o := .cells #[.int .i64 a0_0, .int .i64 a0_1, .slice ai ae.length aj] 69 (0, 0)) (zk aa)) : ac ≠ ab)); clear aa; clear HB; have aa := an; have HB := ao; have ad := ap; have ay := aq; have ar := av; have ag := aw; have ah := ax; clear an ao ap aq av aw ax; clear hb hbox hg; have hnb9 := ag.out; have hnc9 := ah.out; have hcz10_0 : w8.cell? ⟨ab, 0, none⟩ = some (.int .i64 a0_0) := (blk_cell aa.out 0).trans rfl; have hcz10_1 : w8.cell? ⟨ab, 1, none⟩ = some (.int .i64 a0_1) := (blk_cell aa.out 1).trans rfl; have hcz10_2 : w8.cell? ⟨ab, 2, none⟩ = some (.slice ai ae.length aj) := (blk_cell aa.out 2).trans rfl; have hfz10_0 := blk_frozen aa.out 0; have hfz10_1 := blk_frozen aa.out 1; have hfz10_2 := blk_frozen aa.out 2; have hcz11_0 : w8.cell? ⟨ac, 0, none⟩ = some (.int .i64 a1_0) := (blk_cell ad.out 0).trans rfl; have hcz11_1 : w8.cell? ⟨ac, 1, none⟩ = some (.int .i64 a1_1) := (blk_cell ad.out 1).trans rfl; have hcz11_2 : w8.cell? ⟨ac, 2, none⟩ = some (.slice al ak.length am) := (blk_cell ad.out 2).trans rfl; have hfz11_0 := blk_frozen ad.out 0; have hfz11_1 := blk_frozen ad.out 1; have hfz11_2 := blk_frozen ad.out 2) | ((with_reducible refine gate_callee (f := 41) rfl ?_); refine goesL_ (some 19) rfl rfl Try.func41 (by kernel_rfl) rfl #[.slice ai ae.length aj, .slice al ak.length am] rfl zg ?_; (with_reducible refine (laws_eqIntS.calls k _ _ ae _ _ ak true _ ?side1 ?side2 ?side3 ?side4 A5.out).mono ?_); (case side1 => exact zs (Kd.C_below aC.out HB.out)); (case side2 => exact aD.out); (case side3 => exact zs (Kd.C_below aE.out HB.out)); (case side4 => exact aF.out); rintro e w' ⟨rfl, ⟨nd, rfl⟩⟩; refine ⟨_, rfl, ?_⟩))
    go_ret
    exact ⟨ze, zb HB⟩
   ·replace c6 := Bool.eq_false_iff.mpr c6
    subst c6
    have H1 : (some false) = some r := by rw [if_neg (show ¬ (false = true) by decide)] at H; exact H
    clear H; have H := H1; clear H1; obtain rfl := Option.some.inj H
    go_enter Try.func100, Try.ntmps100
    go_wp2_with (first | ((with_reducible refine gate_dst (N := 2) rfl ?_); refine zX 2 #[.int .i64 a0_0, .int .i64 a0_1, .slice ai ae.length aj] 69 ?_; intro ab hg w12 hbox hb; have an := zK (below_step (zb HB) hb); have ao := zK (hbox); have ap := zK ((by rw [hg]; exact (below_size (zb HB)) : w.heap.size ≤ ab)); have aq := zK ((by rw [hg]; exact (below_size (zb HB)) : w.heap.size ≤ ab)); clear HB; have HB := an; have aa := ao; have au := ap; have af := aq; clear an ao ap aq; clear hb hbox hg) | ((with_reducible refine gate_dst (N := 3) rfl ?_); refine zX 3 #[.int .i64 a1_0, .int .i64 a1_1, .slice al ak.length am] 69 ?_; intro ac hg aG hbox hb; have an := zK (blk_below (g := ab) (o := .cells #[.int .i64 a0_0, .int .i64 a0_1, .slice ai ae.length aj] 69 (0, 0)) (zk aa) hb); have ao := zK (below_step (zb HB) hb); have ap := zK (hbox); have aq := zK ((by rw [hg]; exact (below_size (zb HB)) : w.heap.size ≤ ac)); have av := zK ((by rw [hg]; exact (below_size (zb HB)) : w.heap.size ≤ ac)); have aw := zK ((by rw [hg]; exact Nat.ne_of_lt (blk_lt (g := ab) (o := .cells #[.int .i64 a0_0, .int .i64 a0_1, .slice ai ae.length aj] 69 (0, 0)) (zk aa)) : ab ≠ ac)); have ax := zK ((by rw [hg]; exact Nat.ne_of_gt (blk_lt (g := ab) (o := .cells #[.int .i64 a0_0, .int .i64 a0_1, .slice ai ae.length aj] 69 (0, 0)) (zk aa)) : ac ≠ ab)); clear aa; clear HB; have aa := an; have HB := ao; have ad := ap; have ay := aq; have ar := av; have ag := aw; have ah := ax; clear an ao ap aq av aw ax; clear hb hbox hg; have hnb14 := ag.out; have hnc14 := ah.out; have hcz15_0 : aG.cell? ⟨ab, 0, none⟩ = some (.int .i64 a0_0) := (blk_cell aa.out 0).trans rfl; have hcz15_1 : aG.cell? ⟨ab, 1, none⟩ = some (.int .i64 a0_1) := (blk_cell aa.out 1).trans rfl; have hcz15_2 : aG.cell? ⟨ab, 2, none⟩ = some (.slice ai ae.length aj) := (blk_cell aa.out 2).trans rfl; have hfz15_0 := blk_frozen aa.out 0; have hfz15_1 := blk_frozen aa.out 1; have hfz15_2 := blk_frozen aa.out 2; have hcz16_0 : aG.cell? ⟨ac, 0, none⟩ = some (.int .i64 a1_0) := (blk_cell ad.out 0).trans rfl; have hcz16_1 : aG.cell? ⟨ac, 1, none⟩ = some (.int .i64 a1_1) := (blk_cell ad.out 1).trans rfl; have hcz16_2 : aG.cell? ⟨ac, 2, none⟩ = some (.slice al ak.length am) := (blk_cell ad.out 2).trans rfl; have hfz16_0 := blk_frozen ad.out 0; have hfz16_1 := blk_frozen ad.out 1; have hfz16_2 := blk_frozen ad.out 2) | ((with_reducible refine gate_callee (f := 41) rfl ?_); refine goesL_ (some 19) rfl rfl Try.func41 (by kernel_rfl) rfl #[.slice ai ae.length aj, .slice al ak.length am] rfl zg ?_; (with_reducible refine (laws_eqIntS.calls k _ _ ae _ _ ak false _ ?side1 ?side2 ?side3 ?side4 A5.out).mono ?_); (case side1 => exact zs (Kd.C_below aC.out HB.out)); (case side2 => exact aD.out); (case side3 => exact zs (Kd.C_below aE.out HB.out)); (case side4 => exact aF.out); rintro e w' ⟨rfl, ⟨nd, rfl⟩⟩; refine ⟨_, rfl, ?_⟩))
    go_ret
    exact ⟨ze, zb HB⟩
  ·rw [if_neg c4] at H
   have c4b0 : (a0_1 == a1_1) = false := beq_eq_false_iff_ne.mpr c4
   have c4b1 : (a0_1 != a1_1) = true := bne_iff_ne.mpr c4
   obtain rfl := Option.some.inj H
   go_enter Try.func100, Try.ntmps100
   go_wp2_with (first | ((with_reducible refine gate_dst (N := 2) rfl ?_); refine zX 2 #[.int .i64 a0_0, .int .i64 a0_1, .slice ai ae.length aj] 69 ?_; intro ab hg w17 hbox hb; have an := zK (below_step (zb HB) hb); have ao := zK (hbox); have ap := zK ((by rw [hg]; exact (below_size (zb HB)) : w.heap.size ≤ ab)); have aq := zK ((by rw [hg]; exact (below_size (zb HB)) : w.heap.size ≤ ab)); clear HB; have HB := an; have aa := ao; have au := ap; have af := aq; clear an ao ap aq; clear hb hbox hg) | ((with_reducible refine gate_dst (N := 3) rfl ?_); refine zX 3 #[.int .i64 a1_0, .int .i64 a1_1, .slice al ak.length am] 69 ?_; intro ac hg aH hbox hb; have an := zK (blk_below (g := ab) (o := .cells #[.int .i64 a0_0, .int .i64 a0_1, .slice ai ae.length aj] 69 (0, 0)) (zk aa) hb); have ao := zK (below_step (zb HB) hb); have ap := zK (hbox); have aq := zK ((by rw [hg]; exact (below_size (zb HB)) : w.heap.size ≤ ac)); have av := zK ((by rw [hg]; exact (below_size (zb HB)) : w.heap.size ≤ ac)); have aw := zK ((by rw [hg]; exact Nat.ne_of_lt (blk_lt (g := ab) (o := .cells #[.int .i64 a0_0, .int .i64 a0_1, .slice ai ae.length aj] 69 (0, 0)) (zk aa)) : ab ≠ ac)); have ax := zK ((by rw [hg]; exact Nat.ne_of_gt (blk_lt (g := ab) (o := .cells #[.int .i64 a0_0, .int .i64 a0_1, .slice ai ae.length aj] 69 (0, 0)) (zk aa)) : ac ≠ ab)); clear aa; clear HB; have aa := an; have HB := ao; have ad := ap; have ay := aq; have ar := av; have ag := aw; have ah := ax; clear an ao ap aq av aw ax; clear hb hbox hg; have hnb19 := ag.out; have hnc19 := ah.out; have hcz20_0 : aH.cell? ⟨ab, 0, none⟩ = some (.int .i64 a0_0) := (blk_cell aa.out 0).trans rfl; have hcz20_1 : aH.cell? ⟨ab, 1, none⟩ = some (.int .i64 a0_1) := (blk_cell aa.out 1).trans rfl; have hcz20_2 : aH.cell? ⟨ab, 2, none⟩ = some (.slice ai ae.length aj) := (blk_cell aa.out 2).trans rfl; have hfz20_0 := blk_frozen aa.out 0; have hfz20_1 := blk_frozen aa.out 1; have hfz20_2 := blk_frozen aa.out 2; have hcz21_0 : aH.cell? ⟨ac, 0, none⟩ = some (.int .i64 a1_0) := (blk_cell ad.out 0).trans rfl; have hcz21_1 : aH.cell? ⟨ac, 1, none⟩ = some (.int .i64 a1_1) := (blk_cell ad.out 1).trans rfl; have hcz21_2 : aH.cell? ⟨ac, 2, none⟩ = some (.slice al ak.length am) := (blk_cell ad.out 2).trans rfl; have hfz21_0 := blk_frozen ad.out 0; have hfz21_1 := blk_frozen ad.out 1; have hfz21_2 := blk_frozen ad.out 2))
   go_ret
   exact ⟨ze, zb HB⟩
 ·rw [if_neg c3] at H
  have c3b0 : (a0_0 == a1_0) = false := beq_eq_false_iff_ne.mpr c3
  have c3b1 : (a0_0 != a1_0) = true := bne_iff_ne.mpr c3
  obtain rfl := Option.some.inj H
  go_enter Try.func100, Try.ntmps100
  go_wp2_with (first | ((with_reducible refine gate_dst (N := 2) rfl ?_); refine zX 2 #[.int .i64 a0_0, .int .i64 a0_1, .slice ai ae.length aj] 69 ?_; intro ab hg w22 hbox hb; have an := zK (below_step (zb HB) hb); have ao := zK (hbox); have ap := zK ((by rw [hg]; exact (below_size (zb HB)) : w.heap.size ≤ ab)); have aq := zK ((by rw [hg]; exact (below_size (zb HB)) : w.heap.size ≤ ab)); clear HB; have HB := an; have aa := ao; have au := ap; have af := aq; clear an ao ap aq; clear hb hbox hg) | ((with_reducible refine gate_dst (N := 3) rfl ?_); refine zX 3 #[.int .i64 a1_0, .int .i64 a1_1, .slice al ak.length am] 69 ?_; intro ac hg aI hbox hb; have an := zK (blk_below (g := ab) (o := .cells #[.int .i64 a0_0, .int .i64 a0_1, .slice ai ae.length aj] 69 (0, 0)) (zk aa) hb); have ao := zK (below_step (zb HB) hb); have ap := zK (hbox); have aq := zK ((by rw [hg]; exact (below_size (zb HB)) : w.heap.size ≤ ac)); have av := zK ((by rw [hg]; exact (below_size (zb HB)) : w.heap.size ≤ ac)); have aw := zK ((by rw [hg]; exact Nat.ne_of_lt (blk_lt (g := ab) (o := .cells #[.int .i64 a0_0, .int .i64 a0_1, .slice ai ae.length aj] 69 (0, 0)) (zk aa)) : ab ≠ ac)); have ax := zK ((by rw [hg]; exact Nat.ne_of_gt (blk_lt (g := ab) (o := .cells #[.int .i64 a0_0, .int .i64 a0_1, .slice ai ae.length aj] 69 (0, 0)) (zk aa)) : ac ≠ ab)); clear aa; clear HB; have aa := an; have HB := ao; have ad := ap; have ay := aq; have ar := av; have ag := aw; have ah := ax; clear an ao ap aq av aw ax; clear hb hbox hg; have hnb24 := ag.out; have hnc24 := ah.out; have hcz25_0 : aI.cell? ⟨ab, 0, none⟩ = some (.int .i64 a0_0) := (blk_cell aa.out 0).trans rfl; have hcz25_1 : aI.cell? ⟨ab, 1, none⟩ = some (.int .i64 a0_1) := (blk_cell aa.out 1).trans rfl; have hcz25_2 : aI.cell? ⟨ab, 2, none⟩ = some (.slice ai ae.length aj) := (blk_cell aa.out 2).trans rfl; have hfz25_0 := blk_frozen aa.out 0; have hfz25_1 := blk_frozen aa.out 1; have hfz25_2 := blk_frozen aa.out 2; have hcz26_0 : aI.cell? ⟨ac, 0, none⟩ = some (.int .i64 a1_0) := (blk_cell ad.out 0).trans rfl; have hcz26_1 : aI.cell? ⟨ac, 1, none⟩ = some (.int .i64 a1_1) := (blk_cell ad.out 1).trans rfl; have hcz26_2 : aI.cell? ⟨ac, 2, none⟩ = some (.slice al ak.length am) := (blk_cell ad.out 2).trans rfl; have hfz26_0 := blk_frozen ad.out 0; have hfz26_1 := blk_frozen ad.out 1; have hfz26_2 := blk_frozen ad.out 2))
  go_ret
  exact ⟨ze, zb HB⟩
def laws_eqChuteS.l0 : Nat → List (S69) → List (S69) → Int → Option (Bool)
 | 0, _, _, _ => none
 | k + 1, x0, x1, x5 => if x5 < (x0.length : Int) then (if 0 ≤ x5 then (if x5 < (x1.length : Int) then ((laws_eqChute.f k ((rd_T69 x0 x5).f0) ((rd_T69 x0 x5).f1) ((rd_T69 x0 x5).f2) ((rd_T69 x1 x5).f0) ((rd_T69 x1 x5).f1) ((rd_T69 x1 x5).f2)).bind fun t674 => (if t674 = true then (laws_eqChuteS.l0 k x0 x1 (wrap64 (x5 + 1))) else (some false))) else (none)) else (none)) else (some true)
def laws_eqChuteS.f (k : Nat) (l0 : List (S69)) (l1 : List (S69)) : Option (Bool) := if (l0.length : Int) = (l1.length : Int) then (laws_eqChuteS.l0 k l0 l1 0) else (some false)
def laws_eqChuteS.T6 : Bool × List (List Nat × List Nat) := (true, [([], []), ([], []), ([0, 1], [0, 1]), ([2], [2]), ([], []), ([], []), ([4, 5], [4, 5]), ([6], [6]), ([3, 7], [3, 7]), ([8], [8])])
def laws_eqChuteS.B6 : List Nat := [0, 0, 3, 7, 0, 0, 48, 112, 255, 511]
theorem laws_eqChuteS.tab6 : rtab .any (opsOf Try.f75 6) = laws_eqChuteS.T6 := by kernel_rfl
theorem laws_eqChuteS.bits6 : waitsOk laws_eqChuteS.T6.2 laws_eqChuteS.B6 = true := by kernel_rfl
set_option maxHeartbeats 8000000 in
set_option maxRecDepth 100000 in
theorem laws_eqChuteS.calls (k : Nat) (A0 : Option Addr) (c0 : Nat) (l0 : List (S69)) (A1 : Option Addr) (c1 : Nat) (l1 : List (S69)) (r : Bool) (w : World) (hr0 : Kd.C k69 w A0 l0.length l0) (hc0 : l0.length ≤ c0) (hr1 : Kd.C k69 w A1 l1.length l1) (hc1 : l1.length ≤ c1) (h : laws_eqChuteS.f k l0 l1 = some r) :
  Calls Try.prog 75 #[.slice A0 l0.length c0, .slice A1 l1.length c1] w fun e w' => e = .returned (.bool r) ∧ Below w.heap.size w w' := by
 have hu69 := Try.underlying69; have HR0 := zK hr0; have HC0 := zK hc0; clear hr0 hc0; have HR1 := zK hr1; have HC1 := zK hc1; clear hr1 hc1
 have HB := zK (Below.refl w.heap.size w)
 have H : (if (l0.length : Int) = (l1.length : Int) then (laws_eqChuteS.l0 k l0 l1 0) else (some false)) = some r := h
 clear h
 by_cases c3 : (l0.length : Int) = (l1.length : Int)
 ·rw [if_pos c3] at H
  have aK : ((l0.length : Int) == (l1.length : Int)) = true := beq_iff_eq.mpr c3
  have aL : ((l0.length : Int) != (l1.length : Int)) = false := bne_eq_false_iff_eq.mpr c3
  have aM : (l0.length == l1.length) = true := by first | simpa using c3 | (simp at c3 ⊢; omega)
  clear c3; have H' := zK H; clear H
  go_enter Try.func75, Try.ntmps75
  go_wp2
  go_loopg [5] k (fun kq v5 w' => ∃ (aa : Int), v5 = .int .i64 aa ∧ Aside0 (laws_eqChuteS.l0 kq l0 l1 aa = some r) ∧ Aside0 (kq ≤ k) ∧ Aside0 (Below w.heap.size w w'))
  case atStart => exact ⟨(0), zf, H', ⟨Nat.le_refl _⟩, ⟨zb HB⟩⟩
  case round =>
   clear H' aK aL aM
   obtain ⟨aa, rfl, HA, HK1, HB⟩ := hrel
   cases gk with
   | zero => exact absurd HA.out (by simp [laws_eqChuteS.l0])
   | succ k1 =>
    have H := HA.out; clear HA
    simp only [laws_eqChuteS.l0] at H
    by_cases c4 : aa < (l0.length : Int)
    ·rw [if_pos c4] at H
     have c4b0 : decide (aa < (l0.length : Int)) = true := decide_eq_true c4
     clear c4
     by_cases c5 : 0 ≤ aa
     ·rw [if_pos c5] at H
      have c5b0 : decide (0 ≤ aa) = true := decide_eq_true c5
      clear c5
      by_cases c6 : aa < (l1.length : Int)
      ·rw [if_pos c6] at H
       have c6b0 : decide (aa < (l1.length : Int)) = true := decide_eq_true c6
       clear c6; replace H := Option.bind_eq_some_iff.mp H
       obtain ⟨aN, A70, H⟩ := H
       replace H : (if aN = true then (laws_eqChuteS.l0 k1 l0 l1 (wrap64 (aa + 1))) else (some false)) = some r := H
       have A7 := zK A70; clear A70
       by_cases c8 : aN = true
       ·subst c8
        have H1 : (laws_eqChuteS.l0 k1 l0 l1 (wrap64 (aa + 1))) = some r := by rw [if_pos rfl] at H; exact H
        clear H; have H := H1; clear H1; have H' := zK H; clear H
        try go_wp2
        have aH := zK (zE HB.out)
        clear HB; have HB := aH; clear aH
        have aD : 0 ≤ (aa : Int) := zd
        have aE : aa < (l0.length : Int) := zd
        obtain ⟨an, ax, ay, aI, ab, ac, ad, ap, aq⟩ := at_T69 HR0.out aa aD aE
        have ah := ad; have ai := ac; have aj := ab
        cases aI
        replace ab := (HB.out.cell (World.block_lt_of_cell? w _ ab)).trans ab
        replace ac := (HB.out.cell (World.block_lt_of_cell? w _ ac)).trans ac
        replace ad := (HB.out.cell (World.block_lt_of_cell? w _ ad)).trans ad
        have ar := zK aq; have aB := zK ap; clear aq ap; replace aD := eq_true aD; replace aE := eq_true aE
        have aF : 0 ≤ (aa : Int) := zd
        have aG : aa < (l1.length : Int) := zd
        obtain ⟨ao, az, aA, aJ, ae, af, ag, au, av⟩ := at_T69 HR1.out aa aF aG
        have ak := ag; have al := af; have am := ae
        cases aJ
        replace ae := (HB.out.cell (World.block_lt_of_cell? w _ ae)).trans ae
        replace af := (HB.out.cell (World.block_lt_of_cell? w _ af)).trans af
        replace ag := (HB.out.cell (World.block_lt_of_cell? w _ ag)).trans ag
        have aw := zK av; have aC := zK au; clear av au; replace aF := eq_true aF; replace aG := eq_true aG
        refine start_ (n := 10) (S := fun w' => w'.cell? (an.add ((aa).toNat * 3)) = some (.int .i64 ((rd_T69 l0 aa).f0)) ∧ w'.cell? ⟨(an.add ((aa).toNat * 3)).block, (an.add ((aa).toNat * 3)).off + 1, none⟩ = some (.int .i64 ((rd_T69 l0 aa).f1)) ∧ w'.cell? ⟨(an.add ((aa).toNat * 3)).block, (an.add ((aa).toNat * 3)).off + 2, none⟩ = some (.slice ax ((rd_T69 l0 aa).f2).length ay) ∧ w'.cell? (ao.add ((aa).toNat * 3)) = some (.int .i64 ((rd_T69 l1 aa).f0)) ∧ w'.cell? ⟨(ao.add ((aa).toNat * 3)).block, (ao.add ((aa).toNat * 3)).off + 1, none⟩ = some (.int .i64 ((rd_T69 l1 aa).f1)) ∧ w'.cell? ⟨(ao.add ((aa).toNat * 3)).block, (ao.add ((aa).toNat * 3)).off + 2, none⟩ = some (.slice az ((rd_T69 l1 aa).f2).length aA)) (ds := []) #[ff, ff, ff, ff, ff, ff, ff, ff, ff, ff] (by kernel_rfl) rfl rfl ⟨((HB.out.cell (World.block_lt_of_cell? w _ aj)).trans aj), ((HB.out.cell (World.block_lt_of_cell? w _ ai)).trans ai), ((HB.out.cell (World.block_lt_of_cell? w _ ah)).trans ah), ((HB.out.cell (World.block_lt_of_cell? w _ am)).trans am), ((HB.out.cell (World.block_lt_of_cell? w _ al)).trans al), ((HB.out.cell (World.block_lt_of_cell? w _ ak)).trans ak)⟩ (fun hHeld => ?_); refine with_tabW laws_eqChuteS.tab6 laws_eqChuteS.bits6 (fun HT_ HW_ => ?_)
        generalize wr.drew = w9 at HB ar aw ab ac ad ae af ag hHeld ⊢
        refine zu 0 (some 17) #[tt, ff, ff, ff, ff, ff, ff, ff, ff, ff] (any_of HT_.out (by kernel_rfl)) ?_
        refine zu 1 (some 18) #[tt, tt, ff, ff, ff, ff, ff, ff, ff, ff] (any_of HT_.out (by kernel_rfl)) ?_
        refine zu 2 (some 19) #[tt, tt, tt, ff, ff, ff, ff, ff, ff, ff] (any_of HT_.out (by kernel_rfl)) ?_
        refine zu 4 (some 21) #[tt, tt, tt, ff, tt, ff, ff, ff, ff, ff] (any_of HT_.out (by kernel_rfl)) ?_
        refine zu 5 (some 22) #[tt, tt, tt, ff, tt, tt, ff, ff, ff, ff] (any_of HT_.out (by kernel_rfl)) ?_
        refine zu 6 (some 23) #[tt, tt, tt, ff, tt, tt, tt, ff, ff, ff] (any_of HT_.out (by kernel_rfl)) ?_
        refine zt 3 (some 20) #[tt, tt, tt, tt, tt, tt, tt, ff, ff, ff] (take_ofW HT_.out HW_.out (by kernel_rfl)) hHeld ?_
        refine zt 7 (some 24) #[tt, tt, tt, tt, tt, tt, tt, tt, ff, ff] (take_ofW HT_.out HW_.out (by kernel_rfl)) hHeld ?_
        refine one_ (i := 8) (N := some 25) #[tt, tt, tt, tt, tt, tt, tt, tt, tt, ff] rfl rfl (one_of HT_.out (by kernel_rfl)) (by decide) (fun K hK => ?_)
        refine goes_ Try.func100 (by kernel_rfl) rfl #[.agg #[.int .i64 ((rd_T69 l0 aa).f0), .int .i64 ((rd_T69 l0 aa).f1), .slice ax ((rd_T69 l0 aa).f2).length ay], .agg #[.int .i64 ((rd_T69 l1 aa).f0), .int .i64 ((rd_T69 l1 aa).f1), .slice az ((rd_T69 l1 aa).f2).length aA]] (by rfl) rfl rfl zg ?_
        with_reducible refine (laws_eqChute.calls k1 ((rd_T69 l0 aa).f0) ((rd_T69 l0 aa).f1) _ _ ((rd_T69 l0 aa).f2) ((rd_T69 l1 aa).f0) ((rd_T69 l1 aa).f1) _ _ ((rd_T69 l1 aa).f2) true _ ?side1 ?side2 ?side3 ?side4 A7.out).mono ?_
        (case side1 => exact zs (Kd.C_below ar.out HB.out))
        (case side2 => exact aB.out)
        (case side3 => exact zs (Kd.C_below aw.out HB.out))
        (case side4 => exact aC.out)
        rintro e w10 ⟨rfl, hb⟩
        refine ⟨_, rfl, ?_⟩
        have aH := zK (below_step (zb HB) hb)
        clear HB; have HB := aH; clear aH; (try clear hb); (try clear hb2); (try clear hk); (try clear hi)
        refine hK.out _ _ ⟨((HB.out.cell (World.block_lt_of_cell? w _ aj)).trans aj), ((HB.out.cell (World.block_lt_of_cell? w _ ai)).trans ai), ((HB.out.cell (World.block_lt_of_cell? w _ ah)).trans ah), ((HB.out.cell (World.block_lt_of_cell? w _ am)).trans am), ((HB.out.cell (World.block_lt_of_cell? w _ al)).trans al), ((HB.out.cell (World.block_lt_of_cell? w _ ak)).trans ak)⟩ (fun hHeld => ?_)
        clear hK K
        refine norm_ (a' := ?_) ?_ ?_
        rotate_left
        ·show Act.put _ (some 25) _ = _
         simp only [Act.put, zp, zq, zr, i64_w, i32_w]
         rfl
        refine zu 9 (some 26) #[tt, tt, tt, tt, tt, tt, tt, tt, tt, tt] (any_of HT_.out (by kernel_rfl)) ?_
        refine done_ (done_of HT_.out (by kernel_rfl)) ?_
        try go_wp2
        go_roundg k1
        case measure => have := HK1.out; omega
        case rel => exact ⟨(wrap64 (aa + 1)), zf, H', ⟨by have := HK1.out; omega⟩, ⟨zb HB⟩⟩
       ·replace c8 := Bool.eq_false_iff.mpr c8
        subst c8
        have H1 : (some false) = some r := by rw [if_neg (show ¬ (false = true) by decide)] at H; exact H
        clear H; have H := H1; clear H1; obtain rfl := Option.some.inj H
        try go_wp2
        have aH := zK (zE HB.out)
        clear HB; have HB := aH; clear aH
        have aD : 0 ≤ (aa : Int) := zd
        have aE : aa < (l0.length : Int) := zd
        obtain ⟨an, ax, ay, aI, ab, ac, ad, ap, aq⟩ := at_T69 HR0.out aa aD aE
        have ah := ad; have ai := ac; have aj := ab
        cases aI
        replace ab := (HB.out.cell (World.block_lt_of_cell? w _ ab)).trans ab
        replace ac := (HB.out.cell (World.block_lt_of_cell? w _ ac)).trans ac
        replace ad := (HB.out.cell (World.block_lt_of_cell? w _ ad)).trans ad
        have ar := zK aq; have aB := zK ap; clear aq ap; replace aD := eq_true aD; replace aE := eq_true aE
        have aF : 0 ≤ (aa : Int) := zd
        have aG : aa < (l1.length : Int) := zd
        obtain ⟨ao, az, aA, aJ, ae, af, ag, au, av⟩ := at_T69 HR1.out aa aF aG
        have ak := ag; have al := af; have am := ae
        cases aJ
        replace ae := (HB.out.cell (World.block_lt_of_cell? w _ ae)).trans ae
        replace af := (HB.out.cell (World.block_lt_of_cell? w _ af)).trans af
        replace ag := (HB.out.cell (World.block_lt_of_cell? w _ ag)).trans ag
        have aw := zK av; have aC := zK au; clear av au; replace aF := eq_true aF; replace aG := eq_true aG
        refine start_ (n := 10) (S := fun w' => w'.cell? (an.add ((aa).toNat * 3)) = some (.int .i64 ((rd_T69 l0 aa).f0)) ∧ w'.cell? ⟨(an.add ((aa).toNat * 3)).block, (an.add ((aa).toNat * 3)).off + 1, none⟩ = some (.int .i64 ((rd_T69 l0 aa).f1)) ∧ w'.cell? ⟨(an.add ((aa).toNat * 3)).block, (an.add ((aa).toNat * 3)).off + 2, none⟩ = some (.slice ax ((rd_T69 l0 aa).f2).length ay) ∧ w'.cell? (ao.add ((aa).toNat * 3)) = some (.int .i64 ((rd_T69 l1 aa).f0)) ∧ w'.cell? ⟨(ao.add ((aa).toNat * 3)).block, (ao.add ((aa).toNat * 3)).off + 1, none⟩ = some (.int .i64 ((rd_T69 l1 aa).f1)) ∧ w'.cell? ⟨(ao.add ((aa).toNat * 3)).block, (ao.add ((aa).toNat * 3)).off + 2, none⟩ = some (.slice az ((rd_T69 l1 aa).f2).length aA)) (ds := []) #[ff, ff, ff, ff, ff, ff, ff, ff, ff, ff] (by kernel_rfl) rfl rfl ⟨((HB.out.cell (World.block_lt_of_cell? w _ aj)).trans aj), ((HB.out.cell (World.block_lt_of_cell? w _ ai)).trans ai), ((HB.out.cell (World.block_lt_of_cell? w _ ah)).trans ah), ((HB.out.cell (World.block_lt_of_cell? w _ am)).trans am), ((HB.out.cell (World.block_lt_of_cell? w _ al)).trans al), ((HB.out.cell (World.block_lt_of_cell? w _ ak)).trans ak)⟩ (fun hHeld => ?_); refine with_tabW laws_eqChuteS.tab6 laws_eqChuteS.bits6 (fun HT_ HW_ => ?_)
        generalize wr.drew = w11 at HB ar aw ab ac ad ae af ag hHeld ⊢
        refine zu 0 (some 17) #[tt, ff, ff, ff, ff, ff, ff, ff, ff, ff] (any_of HT_.out (by kernel_rfl)) ?_
        refine zu 1 (some 18) #[tt, tt, ff, ff, ff, ff, ff, ff, ff, ff] (any_of HT_.out (by kernel_rfl)) ?_
        refine zu 2 (some 19) #[tt, tt, tt, ff, ff, ff, ff, ff, ff, ff] (any_of HT_.out (by kernel_rfl)) ?_
        refine zu 4 (some 21) #[tt, tt, tt, ff, tt, ff, ff, ff, ff, ff] (any_of HT_.out (by kernel_rfl)) ?_
        refine zu 5 (some 22) #[tt, tt, tt, ff, tt, tt, ff, ff, ff, ff] (any_of HT_.out (by kernel_rfl)) ?_
        refine zu 6 (some 23) #[tt, tt, tt, ff, tt, tt, tt, ff, ff, ff] (any_of HT_.out (by kernel_rfl)) ?_
        refine zt 3 (some 20) #[tt, tt, tt, tt, tt, tt, tt, ff, ff, ff] (take_ofW HT_.out HW_.out (by kernel_rfl)) hHeld ?_
        refine zt 7 (some 24) #[tt, tt, tt, tt, tt, tt, tt, tt, ff, ff] (take_ofW HT_.out HW_.out (by kernel_rfl)) hHeld ?_
        refine one_ (i := 8) (N := some 25) #[tt, tt, tt, tt, tt, tt, tt, tt, tt, ff] rfl rfl (one_of HT_.out (by kernel_rfl)) (by decide) (fun K hK => ?_)
        refine goes_ Try.func100 (by kernel_rfl) rfl #[.agg #[.int .i64 ((rd_T69 l0 aa).f0), .int .i64 ((rd_T69 l0 aa).f1), .slice ax ((rd_T69 l0 aa).f2).length ay], .agg #[.int .i64 ((rd_T69 l1 aa).f0), .int .i64 ((rd_T69 l1 aa).f1), .slice az ((rd_T69 l1 aa).f2).length aA]] (by rfl) rfl rfl zg ?_
        with_reducible refine (laws_eqChute.calls k1 ((rd_T69 l0 aa).f0) ((rd_T69 l0 aa).f1) _ _ ((rd_T69 l0 aa).f2) ((rd_T69 l1 aa).f0) ((rd_T69 l1 aa).f1) _ _ ((rd_T69 l1 aa).f2) false _ ?side1 ?side2 ?side3 ?side4 A7.out).mono ?_
        (case side1 => exact zs (Kd.C_below ar.out HB.out))
        (case side2 => exact aB.out)
        (case side3 => exact zs (Kd.C_below aw.out HB.out))
        (case side4 => exact aC.out)
        rintro e w12 ⟨rfl, hb⟩
        refine ⟨_, rfl, ?_⟩
        have aH := zK (below_step (zb HB) hb)
        clear HB; have HB := aH; clear aH; (try clear hb); (try clear hb2); (try clear hk); (try clear hi)
        refine hK.out _ _ ⟨((HB.out.cell (World.block_lt_of_cell? w _ aj)).trans aj), ((HB.out.cell (World.block_lt_of_cell? w _ ai)).trans ai), ((HB.out.cell (World.block_lt_of_cell? w _ ah)).trans ah), ((HB.out.cell (World.block_lt_of_cell? w _ am)).trans am), ((HB.out.cell (World.block_lt_of_cell? w _ al)).trans al), ((HB.out.cell (World.block_lt_of_cell? w _ ak)).trans ak)⟩ (fun hHeld => ?_)
        clear hK K
        refine norm_ (a' := ?_) ?_ ?_
        rotate_left
        ·show Act.put _ (some 25) _ = _
         simp only [Act.put, zp, zq, zr, i64_w, i32_w]
         rfl
        refine zu 9 (some 26) #[tt, tt, tt, tt, tt, tt, tt, tt, tt, tt] (any_of HT_.out (by kernel_rfl)) ?_
        refine done_ (done_of HT_.out (by kernel_rfl)) ?_
        try go_wp2
        go_ret
        exact ⟨ze, zb HB⟩
      ·rw [if_neg c6] at H
       exact absurd H (by simp)
     ·rw [if_neg c5] at H
      exact absurd H (by simp)
    ·rw [if_neg c4] at H
     have c4b0 : decide (aa < (l0.length : Int)) = false := decide_eq_false c4
     clear c4; obtain rfl := Option.some.inj H
     go_wp2
     go_ret
     exact ⟨ze, zb HB⟩
 ·rw [if_neg c3] at H
  have aK : ((l0.length : Int) == (l1.length : Int)) = false := beq_eq_false_iff_ne.mpr c3
  have aL : ((l0.length : Int) != (l1.length : Int)) = true := bne_iff_ne.mpr c3
  have aM : (l0.length == l1.length) = false := by first | simpa using c3 | (simp at c3 ⊢; omega)
  obtain rfl := Option.some.inj H
  go_enter Try.func75, Try.ntmps75
  go_wp2
  go_ret
  exact ⟨ze, zb HB⟩
def laws_eqWant.f (k : Nat) (a0_0 : Int) (l0_1 : List Int) (a1_0 : Int) (l1_1 : List Int) : Option (Bool) := if a0_0 = a1_0 then ((laws_eqIntS.f k l0_1 l1_1).bind fun t677 => (if t677 = true then (some true) else (some false))) else (some false)
set_option maxHeartbeats 8000000 in
set_option maxRecDepth 100000 in
theorem laws_eqWant.calls (k : Nat) (a0_0 : Int) (ai : Option Addr) (aj : Nat) (ad : List Int) (a1_0 : Int) (al : Option Addr) (am : Nat) (ak : List Int) (r : Bool) (w : World) (av : Kd.C (Kd.int .i64) w ai ad.length ad) (hc0_1 : ad.length ≤ aj) (aw : Kd.C (Kd.int .i64) w al ak.length ak) (hc1_1 : ak.length ≤ am) (h : laws_eqWant.f k a0_0 ad a1_0 ak = some r) :
  Calls Try.prog 101 #[.agg #[.int .i64 a0_0, .slice ai ad.length aj], .agg #[.int .i64 a1_0, .slice al ak.length am]] w fun e w' => e = .returned (.bool r) ∧ Below w.heap.size w w' := by
 have hu74 := Try.underlying74; have ax := zK av; have ay := zK hc0_1; clear av hc0_1; have az := zK aw; have aA := zK hc1_1; clear aw hc1_1
 have HB := zK (Below.refl w.heap.size w)
 have H : (if a0_0 = a1_0 then ((laws_eqIntS.f k ad ak).bind fun au => (if au = true then (some true) else (some false))) else (some false)) = some r := h
 clear h
 by_cases c3 : a0_0 = a1_0
 ·rw [if_pos c3] at H
  have c3b0 : (a0_0 == a1_0) = true := beq_iff_eq.mpr c3
  have c3b1 : (a0_0 != a1_0) = false := bne_eq_false_iff_eq.mpr c3
  clear c3; replace H := Option.bind_eq_some_iff.mp H
  obtain ⟨au, A40, H⟩ := H
  replace H : (if au = true then (some true) else (some false)) = some r := H
  have A4 := zK A40; clear A40
  by_cases c5 : au = true
  ·subst c5
   have H1 : (some true) = some r := by rw [if_pos rfl] at H; exact H
   clear H; have H := H1; clear H1; obtain rfl := Option.some.inj H
   go_enter Try.func101, Try.ntmps101
   go_wp2_with (first | ((with_reducible refine gate_dst (N := 2) rfl ?_); refine zX 2 #[.int .i64 a0_0, .slice ai ad.length aj] 74 ?_; intro aa hg w6 hbox hb; have an := zK (below_step (zb HB) hb); have ao := zK (hbox); have ap := zK ((by rw [hg]; exact (below_size (zb HB)) : w.heap.size ≤ aa)); have aq := zK ((by rw [hg]; exact (below_size (zb HB)) : w.heap.size ≤ aa)); clear HB; have HB := an; have ab := ao; have aB := ap; have ae := aq; clear an ao ap aq; clear hb hbox hg) | ((with_reducible refine gate_dst (N := 3) rfl ?_); refine zX 3 #[.int .i64 a1_0, .slice al ak.length am] 74 ?_; intro ac hg w7 hbox hb; have an := zK (blk_below (g := aa) (o := .cells #[.int .i64 a0_0, .slice ai ad.length aj] 74 (0, 0)) (zk ab) hb); have ao := zK (below_step (zb HB) hb); have ap := zK (hbox); have aq := zK ((by rw [hg]; exact (below_size (zb HB)) : w.heap.size ≤ ac)); have aC := zK ((by rw [hg]; exact (below_size (zb HB)) : w.heap.size ≤ ac)); have aD := zK ((by rw [hg]; exact Nat.ne_of_lt (blk_lt (g := aa) (o := .cells #[.int .i64 a0_0, .slice ai ad.length aj] 74 (0, 0)) (zk ab)) : aa ≠ ac)); have aE := zK ((by rw [hg]; exact Nat.ne_of_gt (blk_lt (g := aa) (o := .cells #[.int .i64 a0_0, .slice ai ad.length aj] 74 (0, 0)) (zk ab)) : ac ≠ aa)); clear ab; clear HB; have ab := an; have HB := ao; have af := ap; have aF := aq; have ar := aC; have ag := aD; have ah := aE; clear an ao ap aq aC aD aE; clear hb hbox hg; have hnb8 := ag.out; have hnc8 := ah.out; have hcz9_0 : w7.cell? ⟨aa, 0, none⟩ = some (.int .i64 a0_0) := (blk_cell ab.out 0).trans rfl; have hcz9_1 : w7.cell? ⟨aa, 1, none⟩ = some (.slice ai ad.length aj) := (blk_cell ab.out 1).trans rfl; have hfz9_0 := blk_frozen ab.out 0; have hfz9_1 := blk_frozen ab.out 1; have hcz10_0 : w7.cell? ⟨ac, 0, none⟩ = some (.int .i64 a1_0) := (blk_cell af.out 0).trans rfl; have hcz10_1 : w7.cell? ⟨ac, 1, none⟩ = some (.slice al ak.length am) := (blk_cell af.out 1).trans rfl; have hfz10_0 := blk_frozen af.out 0; have hfz10_1 := blk_frozen af.out 1) | ((with_reducible refine gate_callee (f := 41) rfl ?_); refine goesL_ (some 14) rfl rfl Try.func41 (by kernel_rfl) rfl #[.slice ai ad.length aj, .slice al ak.length am] rfl zg ?_; (with_reducible refine (laws_eqIntS.calls k _ _ ad _ _ ak true _ ?side1 ?side2 ?side3 ?side4 A4.out).mono ?_); (case side1 => exact zs (Kd.C_below ax.out HB.out)); (case side2 => exact ay.out); (case side3 => exact zs (Kd.C_below az.out HB.out)); (case side4 => exact aA.out); rintro e w' ⟨rfl, ⟨nd, rfl⟩⟩; refine ⟨_, rfl, ?_⟩))
   go_ret
   exact ⟨ze, zb HB⟩
  ·replace c5 := Bool.eq_false_iff.mpr c5
   subst c5
   have H1 : (some false) = some r := by rw [if_neg (show ¬ (false = true) by decide)] at H; exact H
   clear H; have H := H1; clear H1; obtain rfl := Option.some.inj H
   go_enter Try.func101, Try.ntmps101
   go_wp2_with (first | ((with_reducible refine gate_dst (N := 2) rfl ?_); refine zX 2 #[.int .i64 a0_0, .slice ai ad.length aj] 74 ?_; intro aa hg w11 hbox hb; have an := zK (below_step (zb HB) hb); have ao := zK (hbox); have ap := zK ((by rw [hg]; exact (below_size (zb HB)) : w.heap.size ≤ aa)); have aq := zK ((by rw [hg]; exact (below_size (zb HB)) : w.heap.size ≤ aa)); clear HB; have HB := an; have ab := ao; have aB := ap; have ae := aq; clear an ao ap aq; clear hb hbox hg) | ((with_reducible refine gate_dst (N := 3) rfl ?_); refine zX 3 #[.int .i64 a1_0, .slice al ak.length am] 74 ?_; intro ac hg w12 hbox hb; have an := zK (blk_below (g := aa) (o := .cells #[.int .i64 a0_0, .slice ai ad.length aj] 74 (0, 0)) (zk ab) hb); have ao := zK (below_step (zb HB) hb); have ap := zK (hbox); have aq := zK ((by rw [hg]; exact (below_size (zb HB)) : w.heap.size ≤ ac)); have aC := zK ((by rw [hg]; exact (below_size (zb HB)) : w.heap.size ≤ ac)); have aD := zK ((by rw [hg]; exact Nat.ne_of_lt (blk_lt (g := aa) (o := .cells #[.int .i64 a0_0, .slice ai ad.length aj] 74 (0, 0)) (zk ab)) : aa ≠ ac)); have aE := zK ((by rw [hg]; exact Nat.ne_of_gt (blk_lt (g := aa) (o := .cells #[.int .i64 a0_0, .slice ai ad.length aj] 74 (0, 0)) (zk ab)) : ac ≠ aa)); clear ab; clear HB; have ab := an; have HB := ao; have af := ap; have aF := aq; have ar := aC; have ag := aD; have ah := aE; clear an ao ap aq aC aD aE; clear hb hbox hg; have hnb13 := ag.out; have hnc13 := ah.out; have hcz14_0 : w12.cell? ⟨aa, 0, none⟩ = some (.int .i64 a0_0) := (blk_cell ab.out 0).trans rfl; have hcz14_1 : w12.cell? ⟨aa, 1, none⟩ = some (.slice ai ad.length aj) := (blk_cell ab.out 1).trans rfl; have hfz14_0 := blk_frozen ab.out 0; have hfz14_1 := blk_frozen ab.out 1; have hcz15_0 : w12.cell? ⟨ac, 0, none⟩ = some (.int .i64 a1_0) := (blk_cell af.out 0).trans rfl; have hcz15_1 : w12.cell? ⟨ac, 1, none⟩ = some (.slice al ak.length am) := (blk_cell af.out 1).trans rfl; have hfz15_0 := blk_frozen af.out 0; have hfz15_1 := blk_frozen af.out 1) | ((with_reducible refine gate_callee (f := 41) rfl ?_); refine goesL_ (some 14) rfl rfl Try.func41 (by kernel_rfl) rfl #[.slice ai ad.length aj, .slice al ak.length am] rfl zg ?_; (with_reducible refine (laws_eqIntS.calls k _ _ ad _ _ ak false _ ?side1 ?side2 ?side3 ?side4 A4.out).mono ?_); (case side1 => exact zs (Kd.C_below ax.out HB.out)); (case side2 => exact ay.out); (case side3 => exact zs (Kd.C_below az.out HB.out)); (case side4 => exact aA.out); rintro e w' ⟨rfl, ⟨nd, rfl⟩⟩; refine ⟨_, rfl, ?_⟩))
   go_ret
   exact ⟨ze, zb HB⟩
 ·rw [if_neg c3] at H
  have c3b0 : (a0_0 == a1_0) = false := beq_eq_false_iff_ne.mpr c3
  have c3b1 : (a0_0 != a1_0) = true := bne_iff_ne.mpr c3
  obtain rfl := Option.some.inj H
  go_enter Try.func101, Try.ntmps101
  go_wp2_with (first | ((with_reducible refine gate_dst (N := 2) rfl ?_); refine zX 2 #[.int .i64 a0_0, .slice ai ad.length aj] 74 ?_; intro aa hg w16 hbox hb; have an := zK (below_step (zb HB) hb); have ao := zK (hbox); have ap := zK ((by rw [hg]; exact (below_size (zb HB)) : w.heap.size ≤ aa)); have aq := zK ((by rw [hg]; exact (below_size (zb HB)) : w.heap.size ≤ aa)); clear HB; have HB := an; have ab := ao; have aB := ap; have ae := aq; clear an ao ap aq; clear hb hbox hg) | ((with_reducible refine gate_dst (N := 3) rfl ?_); refine zX 3 #[.int .i64 a1_0, .slice al ak.length am] 74 ?_; intro ac hg w17 hbox hb; have an := zK (blk_below (g := aa) (o := .cells #[.int .i64 a0_0, .slice ai ad.length aj] 74 (0, 0)) (zk ab) hb); have ao := zK (below_step (zb HB) hb); have ap := zK (hbox); have aq := zK ((by rw [hg]; exact (below_size (zb HB)) : w.heap.size ≤ ac)); have aC := zK ((by rw [hg]; exact (below_size (zb HB)) : w.heap.size ≤ ac)); have aD := zK ((by rw [hg]; exact Nat.ne_of_lt (blk_lt (g := aa) (o := .cells #[.int .i64 a0_0, .slice ai ad.length aj] 74 (0, 0)) (zk ab)) : aa ≠ ac)); have aE := zK ((by rw [hg]; exact Nat.ne_of_gt (blk_lt (g := aa) (o := .cells #[.int .i64 a0_0, .slice ai ad.length aj] 74 (0, 0)) (zk ab)) : ac ≠ aa)); clear ab; clear HB; have ab := an; have HB := ao; have af := ap; have aF := aq; have ar := aC; have ag := aD; have ah := aE; clear an ao ap aq aC aD aE; clear hb hbox hg; have hnb18 := ag.out; have hnc18 := ah.out; have hcz19_0 : w17.cell? ⟨aa, 0, none⟩ = some (.int .i64 a0_0) := (blk_cell ab.out 0).trans rfl; have hcz19_1 : w17.cell? ⟨aa, 1, none⟩ = some (.slice ai ad.length aj) := (blk_cell ab.out 1).trans rfl; have hfz19_0 := blk_frozen ab.out 0; have hfz19_1 := blk_frozen ab.out 1; have hcz20_0 : w17.cell? ⟨ac, 0, none⟩ = some (.int .i64 a1_0) := (blk_cell af.out 0).trans rfl; have hcz20_1 : w17.cell? ⟨ac, 1, none⟩ = some (.slice al ak.length am) := (blk_cell af.out 1).trans rfl; have hfz20_0 := blk_frozen af.out 0; have hfz20_1 := blk_frozen af.out 1))
  go_ret
  exact ⟨ze, zb HB⟩
def laws_eqWantS.l0 : Nat → List (S74) → List (S74) → Int → Option (Bool)
 | 0, _, _, _ => none
 | k + 1, x0, x1, x5 => if x5 < (x0.length : Int) then (if 0 ≤ x5 then (if x5 < (x1.length : Int) then ((laws_eqWant.f k ((rd_T74 x0 x5).f0) ((rd_T74 x0 x5).f1) ((rd_T74 x1 x5).f0) ((rd_T74 x1 x5).f1)).bind fun t680 => (if t680 = true then (laws_eqWantS.l0 k x0 x1 (wrap64 (x5 + 1))) else (some false))) else (none)) else (none)) else (some true)
def laws_eqWantS.f (k : Nat) (l0 : List (S74)) (l1 : List (S74)) : Option (Bool) := if (l0.length : Int) = (l1.length : Int) then (laws_eqWantS.l0 k l0 l1 0) else (some false)
def laws_eqWantS.T6 : Bool × List (List Nat × List Nat) := (true, [([], []), ([], []), ([0, 1], [0, 1]), ([2], [2]), ([], []), ([], []), ([4, 5], [4, 5]), ([6], [6]), ([3, 7], [3, 7]), ([8], [8])])
def laws_eqWantS.B6 : List Nat := [0, 0, 3, 7, 0, 0, 48, 112, 255, 511]
theorem laws_eqWantS.tab6 : rtab .any (opsOf Try.f76 6) = laws_eqWantS.T6 := by kernel_rfl
theorem laws_eqWantS.bits6 : waitsOk laws_eqWantS.T6.2 laws_eqWantS.B6 = true := by kernel_rfl
set_option maxHeartbeats 8000000 in
set_option maxRecDepth 100000 in
theorem laws_eqWantS.calls (k : Nat) (A0 : Option Addr) (c0 : Nat) (l0 : List (S74)) (A1 : Option Addr) (c1 : Nat) (l1 : List (S74)) (r : Bool) (w : World) (hr0 : Kd.C k74 w A0 l0.length l0) (hc0 : l0.length ≤ c0) (hr1 : Kd.C k74 w A1 l1.length l1) (hc1 : l1.length ≤ c1) (h : laws_eqWantS.f k l0 l1 = some r) :
  Calls Try.prog 76 #[.slice A0 l0.length c0, .slice A1 l1.length c1] w fun e w' => e = .returned (.bool r) ∧ Below w.heap.size w w' := by
 have hu74 := Try.underlying74; have HR0 := zK hr0; have HC0 := zK hc0; clear hr0 hc0; have HR1 := zK hr1; have HC1 := zK hc1; clear hr1 hc1
 have HB := zK (Below.refl w.heap.size w)
 have H : (if (l0.length : Int) = (l1.length : Int) then (laws_eqWantS.l0 k l0 l1 0) else (some false)) = some r := h
 clear h
 by_cases c3 : (l0.length : Int) = (l1.length : Int)
 ·rw [if_pos c3] at H
  have aG : ((l0.length : Int) == (l1.length : Int)) = true := beq_iff_eq.mpr c3
  have aH : ((l0.length : Int) != (l1.length : Int)) = false := bne_eq_false_iff_eq.mpr c3
  have aI : (l0.length == l1.length) = true := by first | simpa using c3 | (simp at c3 ⊢; omega)
  clear c3; have H' := zK H; clear H
  go_enter Try.func76, Try.ntmps76
  go_wp2
  go_loopg [5] k (fun kq v5 w' => ∃ (aa : Int), v5 = .int .i64 aa ∧ Aside0 (laws_eqWantS.l0 kq l0 l1 aa = some r) ∧ Aside0 (kq ≤ k) ∧ Aside0 (Below w.heap.size w w'))
  case atStart => exact ⟨(0), zf, H', ⟨Nat.le_refl _⟩, ⟨zb HB⟩⟩
  case round =>
   clear H' aG aH aI
   obtain ⟨aa, rfl, HA, HK1, HB⟩ := hrel
   cases gk with
   | zero => exact absurd HA.out (by simp [laws_eqWantS.l0])
   | succ k1 =>
    have H := HA.out; clear HA
    simp only [laws_eqWantS.l0] at H
    by_cases c4 : aa < (l0.length : Int)
    ·rw [if_pos c4] at H
     have c4b0 : decide (aa < (l0.length : Int)) = true := decide_eq_true c4
     clear c4
     by_cases c5 : 0 ≤ aa
     ·rw [if_pos c5] at H
      have c5b0 : decide (0 ≤ aa) = true := decide_eq_true c5
      clear c5
      by_cases c6 : aa < (l1.length : Int)
      ·rw [if_pos c6] at H
       have c6b0 : decide (aa < (l1.length : Int)) = true := decide_eq_true c6
       clear c6; replace H := Option.bind_eq_some_iff.mp H
       obtain ⟨aJ, A70, H⟩ := H
       replace H : (if aJ = true then (laws_eqWantS.l0 k1 l0 l1 (wrap64 (aa + 1))) else (some false)) = some r := H
       have A7 := zK A70; clear A70
       by_cases c8 : aJ = true
       ·subst c8
        have H1 : (laws_eqWantS.l0 k1 l0 l1 (wrap64 (aa + 1))) = some r := by rw [if_pos rfl] at H; exact H
        clear H; have H := H1; clear H1; have H' := zK H; clear H
        try go_wp2
        have aD := zK (zE HB.out)
        clear HB; have HB := aD; clear aD
        have az : 0 ≤ (aa : Int) := zd
        have aA : aa < (l0.length : Int) := zd
        obtain ⟨ap, aq, ar, aE, ab, ac, aj, ak⟩ := at_T74 HR0.out aa az aA
        have af := ac; have ag := ab
        cases aE
        replace ab := (HB.out.cell (World.block_lt_of_cell? w _ ab)).trans ab
        replace ac := (HB.out.cell (World.block_lt_of_cell? w _ ac)).trans ac
        have al := zK ak; have ax := zK aj; clear ak aj; replace az := eq_true az; replace aA := eq_true aA
        have aB : 0 ≤ (aa : Int) := zd
        have aC : aa < (l1.length : Int) := zd
        obtain ⟨au, av, aw, aF, ad, ae, am, an⟩ := at_T74 HR1.out aa aB aC
        have ah := ae; have ai := ad
        cases aF
        replace ad := (HB.out.cell (World.block_lt_of_cell? w _ ad)).trans ad
        replace ae := (HB.out.cell (World.block_lt_of_cell? w _ ae)).trans ae
        have ao := zK an; have ay := zK am; clear an am; replace aB := eq_true aB; replace aC := eq_true aC
        refine start_ (n := 10) (S := fun w' => w'.cell? (ap.add ((aa).toNat * 2)) = some (.int .i64 ((rd_T74 l0 aa).f0)) ∧ w'.cell? ⟨(ap.add ((aa).toNat * 2)).block, (ap.add ((aa).toNat * 2)).off + 1, none⟩ = some (.slice aq ((rd_T74 l0 aa).f1).length ar) ∧ w'.cell? (au.add ((aa).toNat * 2)) = some (.int .i64 ((rd_T74 l1 aa).f0)) ∧ w'.cell? ⟨(au.add ((aa).toNat * 2)).block, (au.add ((aa).toNat * 2)).off + 1, none⟩ = some (.slice av ((rd_T74 l1 aa).f1).length aw)) (ds := []) #[ff, ff, ff, ff, ff, ff, ff, ff, ff, ff] (by kernel_rfl) rfl rfl ⟨((HB.out.cell (World.block_lt_of_cell? w _ ag)).trans ag), ((HB.out.cell (World.block_lt_of_cell? w _ af)).trans af), ((HB.out.cell (World.block_lt_of_cell? w _ ai)).trans ai), ((HB.out.cell (World.block_lt_of_cell? w _ ah)).trans ah)⟩ (fun hHeld => ?_); refine with_tabW laws_eqWantS.tab6 laws_eqWantS.bits6 (fun HT_ HW_ => ?_)
        generalize wr.drew = w9 at HB al ao ab ac ad ae hHeld ⊢
        refine zu 0 (some 17) #[tt, ff, ff, ff, ff, ff, ff, ff, ff, ff] (any_of HT_.out (by kernel_rfl)) ?_
        refine zu 1 (some 18) #[tt, tt, ff, ff, ff, ff, ff, ff, ff, ff] (any_of HT_.out (by kernel_rfl)) ?_
        refine zu 2 (some 19) #[tt, tt, tt, ff, ff, ff, ff, ff, ff, ff] (any_of HT_.out (by kernel_rfl)) ?_
        refine zu 4 (some 21) #[tt, tt, tt, ff, tt, ff, ff, ff, ff, ff] (any_of HT_.out (by kernel_rfl)) ?_
        refine zu 5 (some 22) #[tt, tt, tt, ff, tt, tt, ff, ff, ff, ff] (any_of HT_.out (by kernel_rfl)) ?_
        refine zu 6 (some 23) #[tt, tt, tt, ff, tt, tt, tt, ff, ff, ff] (any_of HT_.out (by kernel_rfl)) ?_
        refine zt 3 (some 20) #[tt, tt, tt, tt, tt, tt, tt, ff, ff, ff] (take_ofW HT_.out HW_.out (by kernel_rfl)) hHeld ?_
        refine zt 7 (some 24) #[tt, tt, tt, tt, tt, tt, tt, tt, ff, ff] (take_ofW HT_.out HW_.out (by kernel_rfl)) hHeld ?_
        refine one_ (i := 8) (N := some 25) #[tt, tt, tt, tt, tt, tt, tt, tt, tt, ff] rfl rfl (one_of HT_.out (by kernel_rfl)) (by decide) (fun K hK => ?_)
        refine goes_ Try.func101 (by kernel_rfl) rfl #[.agg #[.int .i64 ((rd_T74 l0 aa).f0), .slice aq ((rd_T74 l0 aa).f1).length ar], .agg #[.int .i64 ((rd_T74 l1 aa).f0), .slice av ((rd_T74 l1 aa).f1).length aw]] (by rfl) rfl rfl zg ?_
        with_reducible refine (laws_eqWant.calls k1 ((rd_T74 l0 aa).f0) _ _ ((rd_T74 l0 aa).f1) ((rd_T74 l1 aa).f0) _ _ ((rd_T74 l1 aa).f1) true _ ?side1 ?side2 ?side3 ?side4 A7.out).mono ?_
        (case side1 => exact zs (Kd.C_below al.out HB.out))
        (case side2 => exact ax.out)
        (case side3 => exact zs (Kd.C_below ao.out HB.out))
        (case side4 => exact ay.out)
        rintro e w10 ⟨rfl, hb⟩
        refine ⟨_, rfl, ?_⟩
        have aD := zK (below_step (zb HB) hb)
        clear HB; have HB := aD; clear aD; (try clear hb); (try clear hb2); (try clear hk); (try clear hi)
        refine hK.out _ _ ⟨((HB.out.cell (World.block_lt_of_cell? w _ ag)).trans ag), ((HB.out.cell (World.block_lt_of_cell? w _ af)).trans af), ((HB.out.cell (World.block_lt_of_cell? w _ ai)).trans ai), ((HB.out.cell (World.block_lt_of_cell? w _ ah)).trans ah)⟩ (fun hHeld => ?_)
        clear hK K
        refine norm_ (a' := ?_) ?_ ?_
        rotate_left
        ·show Act.put _ (some 25) _ = _
         simp only [Act.put, zp, zq, zr, i64_w, i32_w]
         rfl
        refine zu 9 (some 26) #[tt, tt, tt, tt, tt, tt, tt, tt, tt, tt] (any_of HT_.out (by kernel_rfl)) ?_
        refine done_ (done_of HT_.out (by kernel_rfl)) ?_
        try go_wp2
        go_roundg k1
        case measure => have := HK1.out; omega
        case rel => exact ⟨(wrap64 (aa + 1)), zf, H', ⟨by have := HK1.out; omega⟩, ⟨zb HB⟩⟩
       ·replace c8 := Bool.eq_false_iff.mpr c8
        subst c8
        have H1 : (some false) = some r := by rw [if_neg (show ¬ (false = true) by decide)] at H; exact H
        clear H; have H := H1; clear H1; obtain rfl := Option.some.inj H
        try go_wp2
        have aD := zK (zE HB.out)
        clear HB; have HB := aD; clear aD
        have az : 0 ≤ (aa : Int) := zd
        have aA : aa < (l0.length : Int) := zd
        obtain ⟨ap, aq, ar, aE, ab, ac, aj, ak⟩ := at_T74 HR0.out aa az aA
        have af := ac; have ag := ab
        cases aE
        replace ab := (HB.out.cell (World.block_lt_of_cell? w _ ab)).trans ab
        replace ac := (HB.out.cell (World.block_lt_of_cell? w _ ac)).trans ac
        have al := zK ak; have ax := zK aj; clear ak aj; replace az := eq_true az; replace aA := eq_true aA
        have aB : 0 ≤ (aa : Int) := zd
        have aC : aa < (l1.length : Int) := zd
        obtain ⟨au, av, aw, aF, ad, ae, am, an⟩ := at_T74 HR1.out aa aB aC
        have ah := ae; have ai := ad
        cases aF
        replace ad := (HB.out.cell (World.block_lt_of_cell? w _ ad)).trans ad
        replace ae := (HB.out.cell (World.block_lt_of_cell? w _ ae)).trans ae
        have ao := zK an; have ay := zK am; clear an am; replace aB := eq_true aB; replace aC := eq_true aC
        refine start_ (n := 10) (S := fun w' => w'.cell? (ap.add ((aa).toNat * 2)) = some (.int .i64 ((rd_T74 l0 aa).f0)) ∧ w'.cell? ⟨(ap.add ((aa).toNat * 2)).block, (ap.add ((aa).toNat * 2)).off + 1, none⟩ = some (.slice aq ((rd_T74 l0 aa).f1).length ar) ∧ w'.cell? (au.add ((aa).toNat * 2)) = some (.int .i64 ((rd_T74 l1 aa).f0)) ∧ w'.cell? ⟨(au.add ((aa).toNat * 2)).block, (au.add ((aa).toNat * 2)).off + 1, none⟩ = some (.slice av ((rd_T74 l1 aa).f1).length aw)) (ds := []) #[ff, ff, ff, ff, ff, ff, ff, ff, ff, ff] (by kernel_rfl) rfl rfl ⟨((HB.out.cell (World.block_lt_of_cell? w _ ag)).trans ag), ((HB.out.cell (World.block_lt_of_cell? w _ af)).trans af), ((HB.out.cell (World.block_lt_of_cell? w _ ai)).trans ai), ((HB.out.cell (World.block_lt_of_cell? w _ ah)).trans ah)⟩ (fun hHeld => ?_); refine with_tabW laws_eqWantS.tab6 laws_eqWantS.bits6 (fun HT_ HW_ => ?_)
        generalize wr.drew = w11 at HB al ao ab ac ad ae hHeld ⊢
        refine zu 0 (some 17) #[tt, ff, ff, ff, ff, ff, ff, ff, ff, ff] (any_of HT_.out (by kernel_rfl)) ?_
        refine zu 1 (some 18) #[tt, tt, ff, ff, ff, ff, ff, ff, ff, ff] (any_of HT_.out (by kernel_rfl)) ?_
        refine zu 2 (some 19) #[tt, tt, tt, ff, ff, ff, ff, ff, ff, ff] (any_of HT_.out (by kernel_rfl)) ?_
        refine zu 4 (some 21) #[tt, tt, tt, ff, tt, ff, ff, ff, ff, ff] (any_of HT_.out (by kernel_rfl)) ?_
        refine zu 5 (some 22) #[tt, tt, tt, ff, tt, tt, ff, ff, ff, ff] (any_of HT_.out (by kernel_rfl)) ?_
        refine zu 6 (some 23) #[tt, tt, tt, ff, tt, tt, tt, ff, ff, ff] (any_of HT_.out (by kernel_rfl)) ?_
        refine zt 3 (some 20) #[tt, tt, tt, tt, tt, tt, tt, ff, ff, ff] (take_ofW HT_.out HW_.out (by kernel_rfl)) hHeld ?_
        refine zt 7 (some 24) #[tt, tt, tt, tt, tt, tt, tt, tt, ff, ff] (take_ofW HT_.out HW_.out (by kernel_rfl)) hHeld ?_
        refine one_ (i := 8) (N := some 25) #[tt, tt, tt, tt, tt, tt, tt, tt, tt, ff] rfl rfl (one_of HT_.out (by kernel_rfl)) (by decide) (fun K hK => ?_)
        refine goes_ Try.func101 (by kernel_rfl) rfl #[.agg #[.int .i64 ((rd_T74 l0 aa).f0), .slice aq ((rd_T74 l0 aa).f1).length ar], .agg #[.int .i64 ((rd_T74 l1 aa).f0), .slice av ((rd_T74 l1 aa).f1).length aw]] (by rfl) rfl rfl zg ?_
        with_reducible refine (laws_eqWant.calls k1 ((rd_T74 l0 aa).f0) _ _ ((rd_T74 l0 aa).f1) ((rd_T74 l1 aa).f0) _ _ ((rd_T74 l1 aa).f1) false _ ?side1 ?side2 ?side3 ?side4 A7.out).mono ?_
        (case side1 => exact zs (Kd.C_below al.out HB.out))
        (case side2 => exact ax.out)
        (case side3 => exact zs (Kd.C_below ao.out HB.out))
        (case side4 => exact ay.out)
        rintro e w12 ⟨rfl, hb⟩
        refine ⟨_, rfl, ?_⟩
        have aD := zK (below_step (zb HB) hb)
        clear HB; have HB := aD; clear aD; (try clear hb); (try clear hb2); (try clear hk); (try clear hi)
        refine hK.out _ _ ⟨((HB.out.cell (World.block_lt_of_cell? w _ ag)).trans ag), ((HB.out.cell (World.block_lt_of_cell? w _ af)).trans af), ((HB.out.cell (World.block_lt_of_cell? w _ ai)).trans ai), ((HB.out.cell (World.block_lt_of_cell? w _ ah)).trans ah)⟩ (fun hHeld => ?_)
        clear hK K
        refine norm_ (a' := ?_) ?_ ?_
        rotate_left
        ·show Act.put _ (some 25) _ = _
         simp only [Act.put, zp, zq, zr, i64_w, i32_w]
         rfl
        refine zu 9 (some 26) #[tt, tt, tt, tt, tt, tt, tt, tt, tt, tt] (any_of HT_.out (by kernel_rfl)) ?_
        refine done_ (done_of HT_.out (by kernel_rfl)) ?_
        try go_wp2
        go_ret
        exact ⟨ze, zb HB⟩
      ·rw [if_neg c6] at H
       exact absurd H (by simp)
     ·rw [if_neg c5] at H
      exact absurd H (by simp)
    ·rw [if_neg c4] at H
     have c4b0 : decide (aa < (l0.length : Int)) = false := decide_eq_false c4
     clear c4; obtain rfl := Option.some.inj H
     go_wp2
     go_ret
     exact ⟨ze, zb HB⟩
 ·rw [if_neg c3] at H
  have aG : ((l0.length : Int) == (l1.length : Int)) = false := beq_eq_false_iff_ne.mpr c3
  have aH : ((l0.length : Int) != (l1.length : Int)) = true := bne_iff_ne.mpr c3
  have aI : (l0.length == l1.length) = false := by first | simpa using c3 | (simp at c3 ⊢; omega)
  obtain rfl := Option.some.inj H
  go_enter Try.func76, Try.ntmps76
  go_wp2
  go_ret
  exact ⟨ze, zb HB⟩
end Go.Proofs.Ytmjhbdmicejppaa.Px
