import Derived.Test.YtmjhbdmicejppaaZrPx0
import Derived.Test.YtmjhbdmicejppaaZrPx9
import Derived.Test.YtmjhbdmicejppaaZrPx13
import Derived.Test.YtmjhbdmicejppaaZrPx14
import Derived.Test.YtmjhbdmicejppaaZrPx17
import Derived.Test.YtmjhbdmicejppaaZrPx18
namespace Go.Proofs.Ytmjhbdmicejppaa.Px
open Go.RowKit Go.Proofs.YtmjhbdmicejppaaW.PrintWords Go.Proofs.YtmjhbdmicejppaaW.PrintLast Go.Proofs.YtmjhbdmicejppaaW.PrintMore
attribute [local go_sem] max2_int min2_int max_two min_two max_three min_three max_four min_four   
set_option linter.unusedVariables false
set_option linter.unusedSimpArgs false
def spec_l01New.l0 : Nat → List Int → Int → Int → Option (List Int × Int × Int)
 | 0, _, _, _ => none
 | k + 1, x0, x3, x4 => if x4 < (x0.length : Int) then (if x4 < 4000 then (if 0 ≤ x4 then (spec_l01New.l0 k x0 (Go.bits .and .i64 (wrap64 ((wrap64 ((wrap64 (x3 * 131)) + (wrap64 (rd x0 x4)))) + 7)) 1073741823) (wrap64 (x4 + 1))) else (none)) else (some (x0, 0, x3))) else (some (x0, 0, x3))
def spec_l01New.f (k : Nat) (l0 : List Int) : Option (List Int × Int × Int) := spec_l01New.l0 k l0 (wrap64 (33193 + (l0.length : Int))) 0
set_option maxHeartbeats 8000000 in
set_option maxRecDepth 100000 in
theorem spec_l01New.calls (k : Nat) (A0 : Option Addr) (c0 : Nat) (l0 : List Int) (r1 : List Int) (r2 : Int) (r3 : Int) (w0 w : World) (hB : Below w0.heap.size w0 w) (hr0 : Kd.C (Kd.int .u8) w0 A0 l0.length l0) (hc0 : l0.length ≤ c0) (h : spec_l01New.f k l0 = some (r1, r2, r3)) :
  Calls Try.prog 51 #[.slice A0 l0.length c0] w fun e w' => ∃ g_ : Nat, e = .returned (.pointer (some ⟨g_, 0, none⟩)) ∧ IsS90 w0 w' g_ r1 r2 r3 ∧ Below w0.heap.size w0 w' ∧ Below w.heap.size w w' := by
 have hu90 := Try.underlying90; have HR0 := zK hr0; have HC0 := zK hc0; clear hr0 hc0
 have HBW := zK (Below.refl w.heap.size w)
 have HW0 := zK hB.size; have HB := zK hB; clear hB
 have H : (spec_l01New.l0 k l0 (wrap64 (33193 + (l0.length : Int))) 0) = some (r1, r2, r3) := h
 clear h; have H' := zK H; clear H
 go_enter Try.func51, Try.ntmps51
 go_wp2
 go_loopg [3, 4] k (fun kq v3 v4 w' => ∃ (ab : Int) (aa : Int), v3 = .int .i64 ab ∧ v4 = .int .i64 aa ∧ Aside0 (spec_l01New.l0 kq l0 ab aa = some (r1, r2, r3)) ∧ Aside0 (kq ≤ k) ∧ Aside0 (Below w0.heap.size w0 w') ∧ Aside0 (Below w.heap.size w w'))
 case atStart => exact ⟨(wrap64 (33193 + (l0.length : Int))), (0), zf, zf, H', ⟨Nat.le_refl _⟩, ⟨zb HB⟩, ⟨zb HBW⟩⟩
 case round =>
  clear H'
  obtain ⟨ab, aa, rfl, rfl, HA, HK1, HB, HBW⟩ := hrel
  cases gk with
  | zero => exact absurd HA.out (by simp [spec_l01New.l0])
  | succ k1 =>
   have H := HA.out; clear HA
   simp only [spec_l01New.l0] at H
   by_cases c2 : aa < (l0.length : Int)
   ·rw [if_pos c2] at H
    have c2b0 : decide (aa < (l0.length : Int)) = true := decide_eq_true c2
    clear c2
    by_cases c3 : aa < 4000
    ·rw [if_pos c3] at H
     have c3b0 : decide (aa < 4000) = true := decide_eq_true c3
     clear c3
     by_cases c4 : 0 ≤ aa
     ·rw [if_pos c4] at H
      have c4b0 : decide (0 ≤ aa) = true := decide_eq_true c4
      clear c4; have H' := zK H; clear H
      have ah : 0 ≤ (aa : Int) := zd
      have ai : aa < (l0.length : Int) := zd
      obtain ⟨ad171, e171, ac⟩ := Kd.at_int HR0.out aa ah ai
      cases e171
      replace ac := pw_cell_below HB.out ac; replace ah := eq_true ah; replace ai := eq_true ai
      go_wp2
      go_roundg k1
      case measure => have := HK1.out; omega
      case rel => exact ⟨(Go.bits .and .i64 (wrap64 ((wrap64 ((wrap64 (ab * 131)) + (wrap64 (rd l0 aa)))) + 7)) 1073741823), (wrap64 (aa + 1)), zf, zf, H', ⟨by have := HK1.out; omega⟩, ⟨zb HB⟩, ⟨zb HBW⟩⟩
     ·rw [if_neg c4] at H
      exact absurd H (by simp)
    ·rw [if_neg c3] at H
     have c3b0 : decide (aa < 4000) = false := decide_eq_false c3
     clear c3
     simp only [Option.some.injEq, Prod.mk.injEq] at H
     obtain ⟨rfl, rfl, rfl⟩ := H
     go_wp2_with (first | ((with_reducible refine gate_dst (N := 31) rfl ?_); refine zX 31 #[.slice A0 l0.length c0, .int .i64 0, .int .i64 ab] 90 ?_; intro ad hg w5 hbox hb; have aj := zK (below_step HBW.out hb); have ak := zK (below_step (zb HB) hb); have al := zK (hbox); have am := zK ((by rw [hg]; exact (below_size (zb HBW)) : w.heap.size ≤ ad)); have an := zK ((Nat.le_trans HW0.out (by rw [hg]; exact (below_size (zb HBW)) : w.heap.size ≤ ad) : w0.heap.size ≤ ad)); clear HBW; clear HB; have HBW := aj; have HB := ak; have ao := al; have ap := am; have af := an; clear aj ak al am an; clear hb hbox hg))
     go_ret
     exact ⟨_, rfl, (show IsS90 w0 _ ad l0 0 ab from ⟨_, _, by (with_reducible repeat (first | refine zN ?_ _ | refine zD ?_ | refine zA ?_ _)); exact ao.out, af.out, HR0.out⟩), zb HB, zb HBW⟩
   ·rw [if_neg c2] at H
    have c2b0 : decide (aa < (l0.length : Int)) = false := decide_eq_false c2
    clear c2
    simp only [Option.some.injEq, Prod.mk.injEq] at H
    obtain ⟨rfl, rfl, rfl⟩ := H
    go_wp2_with (first | ((with_reducible refine gate_dst (N := 31) rfl ?_); refine zX 31 #[.slice A0 l0.length c0, .int .i64 0, .int .i64 ab] 90 ?_; intro ae hg w6 hbox hb; have aj := zK (below_step HBW.out hb); have ak := zK (below_step (zb HB) hb); have al := zK (hbox); have am := zK ((by rw [hg]; exact (below_size (zb HBW)) : w.heap.size ≤ ae)); have an := zK ((Nat.le_trans HW0.out (by rw [hg]; exact (below_size (zb HBW)) : w.heap.size ≤ ae) : w0.heap.size ≤ ae)); clear HBW; clear HB; have HBW := aj; have HB := ak; have aq := al; have ar := am; have ag := an; clear aj ak al am an; clear hb hbox hg))
    go_ret
    exact ⟨_, rfl, (show IsS90 w0 _ ae l0 0 ab from ⟨_, _, by (with_reducible repeat (first | refine zN ?_ _ | refine zD ?_ | refine zA ?_ _)); exact aq.out, ag.out, HR0.out⟩), zb HB, zb HBW⟩
def spec_DrawLoop.f (k : Nat) (l0 : List Int) : Option (List Int × Int × (List (S69)) × (List (S74))) := (spec_l01New.f k l0).bind fun bt175 => ((spec_l05Loop.f k bt175.1 bt175.2.1 bt175.2.2).bind fun bt179 => (some (bt179.1, bt179.2.1, bt179.2.2.1, bt179.2.2.2.1)))
theorem zi13 {p q : Prop} (h : Aside0 p) (s : p → q := by intro h_; repeat (first | (with_reducible first | exact h_ | apply IsS90.alloc | apply IsS90.drewN | apply IsS90.drew | apply IsS90.set_1 | apply IsS90.set_2 | refine IsS90.far ?_ (Aside0.out (by assumption)) _) | exact h_)) : q := s h.out
theorem zj13 {p q : Prop} (h : Aside0 p) (s : p → q := by intro h_; repeat (first | (with_reducible first | exact h_ | apply zB | apply zC | apply zE | refine zS ?_ (Aside0.out (by assumption)) | refine zS ?_ (IsS90.ge (Aside0.out (by assumption)))) | exact h_)) : q := s h.out
set_option maxHeartbeats 8000000 in
set_option maxRecDepth 100000 in
theorem spec_DrawLoop.calls (k : Nat) (A0 : Option Addr) (c0 : Nat) (l0 : List Int) (r1 : List Int) (r2 : Int) (r3 : List (S69)) (r4 : List (S74)) (w : World) (hr0 : Kd.C (Kd.int .u8) w A0 l0.length l0) (hc0 : l0.length ≤ c0) (h : spec_DrawLoop.f k l0 = some (r1, r2, r3, r4)) :
  Calls Try.prog 16 #[.slice A0 l0.length c0] w fun e w' => ∃ v0_ v2_ v3_ : Value, e = .returned (.agg #[v0_, .int .i64 r2, v2_, v3_]) ∧ Kd.R (Kd.int .i64) 3 w' w.heap.size (fun _ => True) v0_ r1 ∧ Kd.S k69 69 w' w.heap.size (fun k_ => some k_ ≠ (v0_ : Value).ownBlock) v2_ r3 ∧ Kd.S k74 74 w' w.heap.size (fun k_ => some k_ ≠ (v0_ : Value).ownBlock) v3_ r4 ∧ Below w.heap.size w w' := by
 have hu28 := Try.underlying28; have HR0 := zK hr0; have HC0 := zK hc0; clear hr0 hc0
 have HB := zK (Below.refl w.heap.size w)
 have H : ((spec_l01New.f k l0).bind fun bt175 => ((spec_l05Loop.f k bt175.1 bt175.2.1 bt175.2.2).bind fun bt179 => (some (bt179.1, bt179.2.1, bt179.2.2.1, bt179.2.2.2.1)))) = some (r1, r2, r3, r4) := h
 clear h; replace H := Option.bind_eq_some_iff.mp H
 obtain ⟨⟨aw, ax, ay⟩, A20, H⟩ := H
 replace H : ((spec_l05Loop.f k aw ax ay).bind fun bt179 => (some (bt179.1, bt179.2.1, bt179.2.2.1, bt179.2.2.2.1))) = some (r1, r2, r3, r4) := H
 have A2 := zK A20; clear A20; replace H := Option.bind_eq_some_iff.mp H
 obtain ⟨⟨af, ag, ah, ai, t189, t190⟩, A30, H⟩ := H
 replace H : (some (af, ag, ah, ai)) = some (r1, r2, r3, r4) := H
 have A3 := zK A30; clear A30
 simp only [Option.some.injEq, Prod.mk.injEq] at H
 obtain ⟨rfl, rfl, rfl, rfl⟩ := H
 go_enter Try.func16, Try.ntmps16
 go_wp2_with (first | ((with_reducible refine gate_dst (N := 2) rfl ?_); refine zX 2 #[.slice none 0 0, .int .i64 0, .slice none 0 0, .slice none 0 0] 28 ?_; intro aa hg w4 hbox hb; have an := zK (below_step (zb HB) hb); have ao := zK (hbox); have ap := zK ((by rw [hg]; exact (below_size (zb HB)) : w.heap.size ≤ aa)); have aq := zK ((by rw [hg]; exact (below_size (zb HB)) : w.heap.size ≤ aa)); clear HB; have HB := an; have ab := ao; have GW174 := ap; have ac := aq; clear an ao ap aq; clear hb hbox hg) | ((with_reducible refine gate_callee (f := 51) rfl ?_); refine goesL_ (some 4) rfl rfl Try.func51 (by kernel_rfl) rfl #[.slice A0 l0.length c0] rfl zg ?_; (with_reducible refine (spec_l01New.calls k _ _ l0 aw ax ay w _ ?side1 ?side2 ?side3 A2.out).mono ?_); (case side1 => exact zb HB); (case side2 => exact HR0.out); (case side3 => exact HC0.out); rintro e w5 ⟨g178, rfl, hi, hb, hb2⟩; refine ⟨_, rfl, ?_⟩; have an := zK (blk_below (g := aa) (o := .cells #[.slice none 0 0, .int .i64 0, .slice none 0 0, .slice none 0 0] 28 (0, 0)) (zk ab) hb2); have ao := zK (hb); have ap := zK (hi); have aq := zK (IsS90.ne_blk hi (blk_below (g := aa) (o := .cells #[.slice none 0 0, .int .i64 0, .slice none 0 0, .slice none 0 0] 28 (0, 0)) (zk ab) hb2) (by decide)); have aB := zK (Ne.symm (IsS90.ne_blk hi (blk_below (g := aa) (o := .cells #[.slice none 0 0, .int .i64 0, .slice none 0 0, .slice none 0 0] 28 (0, 0)) (zk ab) hb2) (by decide))); clear ab; clear HB; have ab := an; have HB := ao; have HI178 := ap; have ad := aq; have ae := aB; clear an ao ap aq aB; (try clear hb); (try clear hb2); (try clear hk); (try clear hi)) | ((with_reducible refine gate_callee (f := 50) rfl ?_); refine goesL_ (some 5) rfl rfl Try.func50 (by kernel_rfl) rfl #[.pointer (some ⟨g178, 0, none⟩)] rfl zg ?_; (with_reducible refine (spec_l05Loop.calls k g178 aw ax ay af ag ah ai t189 t190 w _ ?side1 ?side2 A3.out).mono ?_); (case side1 => exact zi13 HI178); (case side2 => exact zj13 HB); rintro e w6 ⟨v180, v184, v187, rfl, ho0, ho1, ho2, hi, hb, hk⟩; refine ⟨_, rfl, ?_⟩; have an := zK (KeepBut.blk hk (g' := aa) (o := .cells #[.slice none 0 0, .int .i64 0, .slice none 0 0, .slice none 0 0] 28 (0, 0)) (zk ab) ae.out (by simp)); have ao := zK (Kd.R_lower ho0 (below_size (zj13 HB))); have ap := zK (Kd.S_lower ho1 (below_size (zj13 HB))); have aq := zK (Kd.S_lower ho2 (below_size (zj13 HB))); have aB := zK (hb); have n5_ := zK (hi); clear ab; clear HB; clear HI178; have ab := an; have ar := ao; have au := ap; have av := aq; have HB := aB; have HI178 := n5_; clear an ao ap aq aB n5_; (try clear hb); (try clear hb2); (try clear hk); (try clear hi); (try clear ho0); (try clear ho1); (try clear ho2); obtain ⟨az, aA, eo7⟩ := Kd.R_slice ar.out; subst eo7; have hnb8 := ae.out; have hnc8 := ad.out; have hcz9_0 : w6.cell? ⟨aa, 0, none⟩ = some (.slice none 0 0) := (blk_cell ab.out 0).trans rfl; have hcz9_1 : w6.cell? ⟨aa, 1, none⟩ = some (.int .i64 0) := (blk_cell ab.out 1).trans rfl; have hcz9_2 : w6.cell? ⟨aa, 2, none⟩ = some (.slice none 0 0) := (blk_cell ab.out 2).trans rfl; have hcz9_3 : w6.cell? ⟨aa, 3, none⟩ = some (.slice none 0 0) := (blk_cell ab.out 3).trans rfl; have hfz9_0 := blk_frozen ab.out 0; have hfz9_1 := blk_frozen ab.out 1; have hfz9_2 := blk_frozen ab.out 2; have hfz9_3 := blk_frozen ab.out 3; obtain ⟨aj, ak, eo10⟩ := Kd.S_slice au.out; subst eo10; obtain ⟨al, am, eo11⟩ := Kd.S_slice av.out; subst eo11))
 refine bodyPost_ret (results_cell_row rfl _ _ aa 28 #[.slice az af.length aA, .int .i64 ag, .slice aj ah.length ak, .slice al ai.length am] (0, 0) _ rfl (by (with_reducible repeat (first | refine zN ?_ _ | refine zD ?_ | refine zA ?_ _)); refine blk_put (cs := #[.slice az af.length aA, .int .i64 ag, .slice aj ah.length ak, .slice none 0 0]) ?_ 3 _ rfl; (with_reducible repeat (first | refine zN ?_ _ | refine zD ?_ | refine zA ?_ _)); refine blk_put (cs := #[.slice az af.length aA, .int .i64 ag, .slice none 0 0, .slice none 0 0]) ?_ 2 _ rfl; (with_reducible repeat (first | refine zN ?_ _ | refine zD ?_ | refine zA ?_ _)); refine blk_put (cs := #[.slice az af.length aA, .int .i64 0, .slice none 0 0, .slice none 0 0]) ?_ 1 _ rfl; (with_reducible repeat (first | refine zN ?_ _ | refine zD ?_ | refine zA ?_ _)); refine blk_put (cs := #[.slice none 0 0, .int .i64 0, .slice none 0 0, .slice none 0 0]) ?_ 0 _ rfl; (with_reducible repeat (first | refine zN ?_ _ | refine zD ?_ | refine zA ?_ _)); exact ab.out) Try.underlying28 rfl (by kernel_rfl)) rfl ?_
 exact ⟨_, _, _, ze, by (with_reducible repeat (first | apply Kd.R_alloc | apply Kd.R_drewN | apply Kd.R_drew)); exact Kd.R_mono (Kd.R_far (p := ⟨aa, 3, none⟩) (Kd.R_far (p := ⟨aa, 2, none⟩) (Kd.R_far (p := ⟨aa, 1, none⟩) (Kd.R_far (p := ⟨aa, 0, none⟩) (Kd.R_types ar.out ab.out (by decide)) (fun _ hk => hk.2) (.slice az af.length aA)) (fun _ hk => hk.2) (.int .i64 ag)) (fun _ hk => hk.2) (.slice aj ah.length ak)) (fun _ hk => hk.2) (.slice al ai.length am)) (fun _ hk => trivial), by (with_reducible repeat (first | apply Kd.S_alloc | apply Kd.S_drewN | apply Kd.S_drew)); exact Kd.S_mono (Kd.S_far (p := ⟨aa, 3, none⟩) (Kd.S_far (p := ⟨aa, 2, none⟩) (Kd.S_far (p := ⟨aa, 1, none⟩) (Kd.S_far (p := ⟨aa, 0, none⟩) (Kd.S_types au.out ab.out (by decide)) (fun _ hk => hk.2) (.slice az af.length aA)) (fun _ hk => hk.2) (.int .i64 ag)) (fun _ hk => hk.2) (.slice aj ah.length ak)) (fun _ hk => hk.2) (.slice al ai.length am)) (fun _ hk => hk.1), by (with_reducible repeat (first | apply Kd.S_alloc | apply Kd.S_drewN | apply Kd.S_drew)); exact Kd.S_mono (Kd.S_far (p := ⟨aa, 3, none⟩) (Kd.S_far (p := ⟨aa, 2, none⟩) (Kd.S_far (p := ⟨aa, 1, none⟩) (Kd.S_far (p := ⟨aa, 0, none⟩) (Kd.S_types av.out ab.out (by decide)) (fun _ hk => hk.2) (.slice az af.length aA)) (fun _ hk => hk.2) (.int .i64 ag)) (fun _ hk => hk.2) (.slice aj ah.length ak)) (fun _ hk => hk.2) (.slice al ai.length am)) (fun _ hk => hk.1), zj13 HB⟩
def laws_has.l0 : Nat → List Int → Int → Int → Option (Bool)
 | 0, _, _, _ => none
 | k + 1, x0, x1, x5 => if x5 < (x0.length : Int) then (if 0 ≤ x5 then (if (rd x0 x5) = x1 then (some true) else (laws_has.l0 k x0 x1 (wrap64 (x5 + 1)))) else (none)) else (some false)
def laws_has.f (k : Nat) (l0 : List Int) (a1 : Int) : Option (Bool) := laws_has.l0 k l0 a1 0
set_option maxHeartbeats 8000000 in
set_option maxRecDepth 100000 in
theorem laws_has.calls (k : Nat) (A0 : Option Addr) (c0 : Nat) (l0 : List Int) (a1 : Int) (r : Bool) (w : World) (hr0 : Kd.C (Kd.int .i64) w A0 l0.length l0) (hc0 : l0.length ≤ c0) (h : laws_has.f k l0 a1 = some r) :
  Calls Try.prog 20 #[.slice A0 l0.length c0, .int .i64 a1] w fun e w' => e = .returned (.bool r) ∧ Drawn0 w w' := by
 have HR0 := zK hr0; have HC0 := zK hc0; clear hr0 hc0
 have H : (laws_has.l0 k l0 a1 0) = some r := h
 clear h; have H' := zK H; clear H
 go_enter Try.func20, Try.ntmps20
 go_wp2
 go_loopg [5] k (fun kq v5 w' => ∃ (aa : Int), v5 = .int .i64 aa ∧ Aside0 (laws_has.l0 kq l0 a1 aa = some r) ∧ Aside0 (kq ≤ k) ∧ Drawn0 w w')
 case atStart => exact ⟨(0), zf, H', ⟨Nat.le_refl _⟩, by repeat (first | exact Drawn0.refl _ | apply Drawn0.step)⟩
 case round =>
  clear H'
  obtain ⟨aa, rfl, HA, HK1, ⟨m1, rfl⟩⟩ := hrel
  cases gk with
  | zero => exact absurd HA.out (by simp [laws_has.l0])
  | succ k1 =>
   have H := HA.out; clear HA
   simp only [laws_has.l0] at H
   by_cases c3 : aa < (l0.length : Int)
   ·rw [if_pos c3] at H
    have c3b0 : decide (aa < (l0.length : Int)) = true := decide_eq_true c3
    clear c3
    by_cases c4 : 0 ≤ aa
    ·rw [if_pos c4] at H
     have c4b0 : decide (0 ≤ aa) = true := decide_eq_true c4
     clear c4
     by_cases c5 : (rd l0 aa) = a1
     ·rw [if_pos c5] at H
      have c5b0 : ((rd l0 aa) == a1) = true := beq_iff_eq.mpr c5
      have c5b1 : ((rd l0 aa) != a1) = false := bne_eq_false_iff_eq.mpr c5
      clear c5; obtain rfl := Option.some.inj H
      have ab : 0 ≤ (aa : Int) := zd
      have ac : aa < (l0.length : Int) := zd
      obtain ⟨af, ae, ad⟩ := Kd.at_int HR0.out aa ab ac
      cases ae
      replace ab := eq_true ab; replace ac := eq_true ac
      go_wp2
      go_ret
      exact ⟨by first | rfl | (simp; done) | (simp [*]; done), by repeat (first | exact Drawn0.refl _ | apply Drawn0.step)⟩
     ·rw [if_neg c5] at H
      have c5b0 : ((rd l0 aa) == a1) = false := beq_eq_false_iff_ne.mpr c5
      have c5b1 : ((rd l0 aa) != a1) = true := bne_iff_ne.mpr c5
      have H' := zK H; clear H
      have ab : 0 ≤ (aa : Int) := zd
      have ac : aa < (l0.length : Int) := zd
      obtain ⟨af, ae, ad⟩ := Kd.at_int HR0.out aa ab ac
      cases ae
      replace ab := eq_true ab; replace ac := eq_true ac
      go_wp2
      go_roundg k1
      case measure => have := HK1.out; omega
      case rel => exact ⟨(wrap64 (aa + 1)), zf, H', ⟨by have := HK1.out; omega⟩, by repeat (first | exact Drawn0.refl _ | apply Drawn0.step)⟩
    ·rw [if_neg c4] at H
     exact absurd H (by simp)
   ·rw [if_neg c3] at H
    have c3b0 : decide (aa < (l0.length : Int)) = false := decide_eq_false c3
    clear c3; obtain rfl := Option.some.inj H
    go_wp2
    go_ret
    exact ⟨by first | rfl | (simp; done) | (simp [*]; done), by repeat (first | exact Drawn0.refl _ | apply Drawn0.step)⟩
mutual
def laws_FnLoopSorts.l0 : Nat → Int → Int → List Int → Int → List (S69) → List (S74) → Option (Bool)
 | 0, _, _, _, _, _, _ => none
 | k + 1, x4, x5, x427000, x427001, x427002, x427003 => if x5 < (x427000.length : Int) then (if 0 ≤ x5 then ((impl_StepsOf.f k x427000 x427001 x427002 x427003 (rd x427000 x5)).bind fun bt428 => ((spec_StepsOf.f k x427000 x427001 x427002 x427003 (rd x427000 x5)).bind fun bt430 => (if (bt428.2 != bt430.2) = true then (laws_FnLoopSorts.j1 k x4 x5 (rd x427000 x5) bt428.1 bt428.2 true x427000 x427001 x427002 x427003) else (if bt428.1 = bt430.1 then (if bt428.2 = true then (laws_FnLoopSorts.j1 k x4 x5 (rd x427000 x5) bt428.1 bt428.2 ((rd x427000 x5) == 0) x427000 x427001 x427002 x427003) else (laws_FnLoopSorts.j1 k x4 x5 (rd x427000 x5) bt428.1 bt428.2 false x427000 x427001 x427002 x427003)) else (laws_FnLoopSorts.j1 k x4 x5 (rd x427000 x5) bt428.1 bt428.2 true x427000 x427001 x427002 x427003))))) else (none)) else ((impl_MostSorted.f k x427000 x427001 x427002 x427003).bind fun t456 => ((spec_MostSorted.f k x427000 x427001 x427002 x427003).bind fun t457 => (if t456 = t457 then (if t456 < 0 then (some true) else (some (decide (x4 ≤ t456)))) else (some false))))
def laws_FnLoopSorts.j1 : Nat → Int → Int → Int → Int → Bool → Bool → List Int → Int → List (S69) → List (S74) → Option (Bool)
 | 0, _, _, _, _, _, _, _, _, _, _ => none
 | k + 1, x4, x5, x6, x7, x8, x56, x427000, x427001, x427002, x427003 => if x56 = true then (some false) else (if x6 = 0 then (laws_FnLoopSorts.j2 k x4 x5 x6 x7 true x427000 x427001 x427002 x427003) else (laws_FnLoopSorts.j2 k x4 x5 x6 x7 (!x8) x427000 x427001 x427002 x427003))
def laws_FnLoopSorts.j2 : Nat → Int → Int → Int → Int → Bool → List Int → Int → List (S69) → List (S74) → Option (Bool)
 | 0, _, _, _, _, _, _, _, _, _ => none
 | k + 1, x4, x5, x6, x7, x62, x427000, x427001, x427002, x427003 => if x62 = true then (laws_FnLoopSorts.l0 k x4 (wrap64 (x5 + 1)) x427000 x427001 x427002 x427003) else ((impl_TurnLoop.f k x427000 x427001 x427002 x427003 x7).bind fun bt432 => ((impl_TurnLoop.f k x427000 x427001 x427002 x427003 (wrap64 (x7 - 1))).bind fun bt443 => ((laws_has.f k bt432.1 x6).bind fun t454 => (if t454 = true then (laws_FnLoopSorts.j3 k (wrap64 (x4 + 1)) x5 true x427000 x427001 x427002 x427003) else ((laws_has.f k bt443.1 x6).bind fun t455 => (if t455 = true then (if x7 < 1 then (laws_FnLoopSorts.j3 k (wrap64 (x4 + 1)) x5 true x427000 x427001 x427002 x427003) else (laws_FnLoopSorts.j3 k (wrap64 (x4 + 1)) x5 (decide (x7 > (x427000.length : Int))) x427000 x427001 x427002 x427003)) else (laws_FnLoopSorts.j3 k (wrap64 (x4 + 1)) x5 true x427000 x427001 x427002 x427003)))))))
def laws_FnLoopSorts.j3 : Nat → Int → Int → Bool → List Int → Int → List (S69) → List (S74) → Option (Bool)
 | 0, _, _, _, _, _, _, _ => none
 | k + 1, x4, x5, x93, x427000, x427001, x427002, x427003 => if x93 = true then (some false) else (laws_FnLoopSorts.l0 k x4 (wrap64 (x5 + 1)) x427000 x427001 x427002 x427003)
end
def laws_FnLoopSorts.f (k : Nat) (l0 : List Int) : Option (Bool) := (laws_big.f l0).bind fun t415 => (if t415 = true then (some true) else ((spec_DrawLoop.f k l0).bind fun bt416 => (laws_FnLoopSorts.l0 k 0 0 bt416.1 bt416.2.1 bt416.2.2.1 bt416.2.2.2)))
set_option maxHeartbeats 8000000 in
set_option maxRecDepth 100000 in
theorem laws_FnLoopSorts.calls (k : Nat) (A0 : Option Addr) (c0 : Nat) (l0 : List Int) (r : Bool) (w : World) (hr0 : Kd.C (Kd.int .u8) w A0 l0.length l0) (hc0 : l0.length ≤ c0) (hrt : Aside0 (r = true)) (h : laws_FnLoopSorts.f k l0 = some r) :
  Calls Try.prog 3 #[.slice A0 l0.length c0] w fun e w' => e = .returned (.bool r) ∧ Below w.heap.size w w' := by
 have hu28 := Try.underlying28; have HR0 := zK hr0; have HC0 := zK hc0; clear hr0 hc0
 have HB := zK (Below.refl w.heap.size w)
 have H : ((laws_big.f l0).bind fun bE => (if bE = true then (some true) else ((spec_DrawLoop.f k l0).bind fun bt416 => (laws_FnLoopSorts.l0 k 0 0 bt416.1 bt416.2.1 bt416.2.2.1 bt416.2.2.2)))) = some r := h
 clear h; replace H := Option.bind_eq_some_iff.mp H
 obtain ⟨bE, A20, H⟩ := H
 replace H : (if bE = true then (some true) else ((spec_DrawLoop.f k l0).bind fun bt416 => (laws_FnLoopSorts.l0 k 0 0 bt416.1 bt416.2.1 bt416.2.2.1 bt416.2.2.2))) = some r := H
 have A2 := zK A20; clear A20
 by_cases c3 : bE = true
 ·subst c3
  have H1 : (some true) = some r := by rw [if_pos rfl] at H; exact H
  clear H; have H := H1; clear H1; obtain rfl := Option.some.inj H
  go_enter Try.func3, Try.ntmps3
  go_wp2_with (first | ((with_reducible refine gate_callee (f := 15) rfl ?_); refine goesL_ (some 15) rfl rfl Try.func15 (by kernel_rfl) rfl #[.slice A0 l0.length c0] rfl zg ?_; (with_reducible refine (laws_big.calls _ _ l0 true _ ?side1 ?side2 A2.out).mono ?_); (case side1 => repeat (first | exact HR0.out | (with_reducible refine Kd.C_alloc ?_ _) | (with_reducible refine Kd.C_drewN ?_ _) | (with_reducible refine Kd.C_drew ?_))); (case side2 => exact HC0.out); rintro e w' ⟨rfl, ⟨nd, rfl⟩⟩; refine ⟨_, rfl, ?_⟩))
  go_ret
  exact ⟨ze, zb HB⟩
 ·replace c3 := Bool.eq_false_iff.mpr c3
  subst c3
  have H1 : ((spec_DrawLoop.f k l0).bind fun bt416 => (laws_FnLoopSorts.l0 k 0 0 bt416.1 bt416.2.1 bt416.2.2.1 bt416.2.2.2)) = some r := by rw [if_neg (show ¬ (false = true) by decide)] at H; exact H
  clear H; have H := H1; clear H1; replace H := Option.bind_eq_some_iff.mp H
  obtain ⟨⟨ae, aj, ah, ai⟩, A40, H⟩ := H
  replace H : (laws_FnLoopSorts.l0 k 0 0 ae aj ah ai) = some r := H
  have A4 := zK A40; clear A40; have H' := zK H; clear H
  go_enter Try.func3, Try.ntmps3
  go_wp2_with (first | ((with_reducible refine gate_callee (f := 15) rfl ?_); refine goesL_ (some 15) rfl rfl Try.func15 (by kernel_rfl) rfl #[.slice A0 l0.length c0] rfl zg ?_; (with_reducible refine (laws_big.calls _ _ l0 false _ ?side1 ?side2 A2.out).mono ?_); (case side1 => repeat (first | exact HR0.out | (with_reducible refine Kd.C_alloc ?_ _) | (with_reducible refine Kd.C_drewN ?_ _) | (with_reducible refine Kd.C_drew ?_))); (case side2 => exact HC0.out); rintro e w' ⟨rfl, ⟨nd, rfl⟩⟩; refine ⟨_, rfl, ?_⟩) | ((with_reducible refine gate_callee (f := 16) rfl ?_); refine goesL_ (some 17) rfl rfl Try.func16 (by kernel_rfl) rfl #[.slice A0 l0.length c0] rfl zg ?_; (with_reducible refine (spec_DrawLoop.calls k _ _ l0 ae aj ah ai _ ?side1 ?side2 A4.out).mono ?_); (case side1 => repeat (first | exact HR0.out | (with_reducible refine Kd.C_alloc ?_ _) | (with_reducible refine Kd.C_drewN ?_ _) | (with_reducible refine Kd.C_drew ?_))); (case side2 => exact HC0.out); rintro e w5 ⟨v417, v421, v424, rfl, ho0, ho1, ho2, hb⟩; refine ⟨_, rfl, ?_⟩; have aU := zK (Kd.R_lower ho0 (below_size (zb HB))); have aV := zK (Kd.S_lower ho1 (below_size (zb HB))); have aW := zK (Kd.S_lower ho2 (below_size (zb HB))); have aX := zK (below_step (zb HB) hb); clear HB; have bi := aU; have bj := aV; have bk := aW; have HB := aX; clear aU aV aW aX; (try clear hb); (try clear ho0); (try clear ho1); (try clear ho2)) | ((with_reducible refine gate_dst (N := 3) rfl ?_); (try (refine gate_guard (by rfl) ?_; dsimp only)); refine zX 3 #[.slice none 0 0, .int .i64 0, .slice none 0 0, .slice none 0 0] 28 ?_; intro ag hg w6 hbox hb; have aU := zK (Kd.R_below (zR bi) hb); have aV := zK (Kd.S_below (zT bj) hb); have aW := zK (Kd.S_below (zT bk) hb); have aX := zK (below_step (zb HB) hb); have a2 := zK (hbox); have bx := zK ((by rw [hg]; exact (below_size (zb HB)) : w.heap.size ≤ ag)); have bz := zK ((by rw [hg]; exact (below_size (zb HB)) : w.heap.size ≤ ag)); clear bi; clear bj; clear bk; clear HB; have bi := aU; have bj := aV; have bk := aW; have HB := aX; have ad := a2; have GW426 := bx; have au := bz; clear aU aV aW aX a2 bx bz; clear hb hbox hg; obtain ⟨a8, az, eo7⟩ := Kd.R_slice bi.out; subst eo7; have cB : w6.cell? ⟨ag, 0, none⟩ = some (.slice none 0 0) := (blk_cell ad.out 0).trans rfl; have cC : w6.cell? ⟨ag, 1, none⟩ = some (.int .i64 0) := (blk_cell ad.out 1).trans rfl; have cD : w6.cell? ⟨ag, 2, none⟩ = some (.slice none 0 0) := (blk_cell ad.out 2).trans rfl; have cE : w6.cell? ⟨ag, 3, none⟩ = some (.slice none 0 0) := (blk_cell ad.out 3).trans rfl; have cF := blk_frozen ad.out 0; have cG := blk_frozen ad.out 1; have cH := blk_frozen ad.out 2; have cI := blk_frozen ad.out 3; obtain ⟨aQ, aP, eo9⟩ := Kd.S_slice bj.out; subst eo9; obtain ⟨av, ar, eo10⟩ := Kd.S_slice bk.out; subst eo10))
  go_loopg [4, 5] k (fun kq v4 v5 w' => ∃ (ao : Int) (ak : Int), v4 = .int .i64 ao ∧ v5 = .int .i64 ak ∧ Aside0 (laws_FnLoopSorts.l0 kq ao ak ae aj ah ai = some r) ∧ Aside0 (kq ≤ k) ∧ Aside0 (Kd.R (Kd.int .i64) 3 w' w.heap.size (fun _ => True) (.slice a8 ae.length az) ae) ∧ Aside0 (Kd.S k69 69 w' w.heap.size (fun k_ => some k_ ≠ ((.slice a8 ae.length az) : Value).ownBlock) (.slice aQ ah.length aP) ah) ∧ Aside0 (Kd.S k74 74 w' w.heap.size (fun k_ => some k_ ≠ ((.slice a8 ae.length az) : Value).ownBlock) (.slice av ai.length ar) ai) ∧ Aside0 (w'.heap[ag]? = some (.cells #[(.slice a8 ae.length az), .int .i64 aj, (.slice aQ ah.length aP), (.slice av ai.length ar)] 28 (0, 0))) ∧ Aside0 (Below w.heap.size w w'))
  case atStart => exact ⟨(0), (0), zf, zf, H', ⟨Nat.le_refl _⟩, ⟨by (with_reducible repeat (first | apply Kd.R_alloc | apply Kd.R_drewN | apply Kd.R_drew)); exact Kd.R_mono (Kd.R_far (p := ⟨ag, 3, none⟩) (Kd.R_far (p := ⟨ag, 2, none⟩) (Kd.R_far (p := ⟨ag, 1, none⟩) (Kd.R_far (p := ⟨ag, 0, none⟩) (Kd.R_types bi.out ad.out (by decide)) (fun _ hk => hk.2) (.slice a8 ae.length az)) (fun _ hk => hk.2) (.int .i64 aj)) (fun _ hk => hk.2) (.slice aQ ah.length aP)) (fun _ hk => hk.2) (.slice av ai.length ar)) (fun _ hk => trivial)⟩, ⟨by (with_reducible repeat (first | apply Kd.S_alloc | apply Kd.S_drewN | apply Kd.S_drew)); exact Kd.S_mono (Kd.S_far (p := ⟨ag, 3, none⟩) (Kd.S_far (p := ⟨ag, 2, none⟩) (Kd.S_far (p := ⟨ag, 1, none⟩) (Kd.S_far (p := ⟨ag, 0, none⟩) (Kd.S_types bj.out ad.out (by decide)) (fun _ hk => hk.2) (.slice a8 ae.length az)) (fun _ hk => hk.2) (.int .i64 aj)) (fun _ hk => hk.2) (.slice aQ ah.length aP)) (fun _ hk => hk.2) (.slice av ai.length ar)) (fun _ hk => hk.1)⟩, ⟨by (with_reducible repeat (first | apply Kd.S_alloc | apply Kd.S_drewN | apply Kd.S_drew)); exact Kd.S_mono (Kd.S_far (p := ⟨ag, 3, none⟩) (Kd.S_far (p := ⟨ag, 2, none⟩) (Kd.S_far (p := ⟨ag, 1, none⟩) (Kd.S_far (p := ⟨ag, 0, none⟩) (Kd.S_types bk.out ad.out (by decide)) (fun _ hk => hk.2) (.slice a8 ae.length az)) (fun _ hk => hk.2) (.int .i64 aj)) (fun _ hk => hk.2) (.slice aQ ah.length aP)) (fun _ hk => hk.2) (.slice av ai.length ar)) (fun _ hk => hk.1)⟩, ⟨by (with_reducible repeat (first | refine zN ?_ _ | refine zD ?_ | refine zA ?_ _)); refine blk_put (cs := #[.slice a8 ae.length az, .int .i64 aj, .slice aQ ah.length aP, .slice none 0 0]) ?_ 3 _ rfl; (with_reducible repeat (first | refine zN ?_ _ | refine zD ?_ | refine zA ?_ _)); refine blk_put (cs := #[.slice a8 ae.length az, .int .i64 aj, .slice none 0 0, .slice none 0 0]) ?_ 2 _ rfl; (with_reducible repeat (first | refine zN ?_ _ | refine zD ?_ | refine zA ?_ _)); refine blk_put (cs := #[.slice a8 ae.length az, .int .i64 0, .slice none 0 0, .slice none 0 0]) ?_ 1 _ rfl; (with_reducible repeat (first | refine zN ?_ _ | refine zD ?_ | refine zA ?_ _)); refine blk_put (cs := #[.slice none 0 0, .int .i64 0, .slice none 0 0, .slice none 0 0]) ?_ 0 _ rfl; (with_reducible repeat (first | refine zN ?_ _ | refine zD ?_ | refine zA ?_ _)); exact ad.out⟩, ⟨zb HB⟩⟩
  case round =>
   clear H' cB cC cD cE cF cG cH cI
   obtain ⟨ao, ak, rfl, rfl, HA, bF, aa, ab, ac, ad, HB⟩ := hrel
   cases gk with
   | zero => exact absurd HA.out (by simp [laws_FnLoopSorts.l0])
   | succ k1 =>
    have H := HA.out; clear HA
    simp only [laws_FnLoopSorts.l0] at H
    by_cases cP : ak < (ae.length : Int)
    ·rw [if_pos cP] at H
     have cw : decide (ak < (ae.length : Int)) = true := decide_eq_true cP
     clear cP
     by_cases c12 : 0 ≤ ak
     ·rw [if_pos c12] at H
      have cY : decide (0 ≤ ak) = true := decide_eq_true c12
      clear c12; replace H := Option.bind_eq_some_iff.mp H
      obtain ⟨⟨aq, aJ⟩, cZ, H⟩ := H
      replace H : ((spec_StepsOf.f k1 ae aj ah ai (rd ae ak)).bind fun bt430 => (if (aJ != bt430.2) = true then (laws_FnLoopSorts.j1 k1 ao ak (rd ae ak) aq aJ true ae aj ah ai) else (if aq = bt430.1 then (if aJ = true then (laws_FnLoopSorts.j1 k1 ao ak (rd ae ak) aq aJ ((rd ae ak) == 0) ae aj ah ai) else (laws_FnLoopSorts.j1 k1 ao ak (rd ae ak) aq aJ false ae aj ah ai)) else (laws_FnLoopSorts.j1 k1 ao ak (rd ae ak) aq aJ true ae aj ah ai)))) = some r := H
      have A13 := zK cZ; clear cZ; replace H := Option.bind_eq_some_iff.mp H
      obtain ⟨⟨bv, ba⟩, c1, H⟩ := H
      replace H : (if (aJ != ba) = true then (laws_FnLoopSorts.j1 k1 ao ak (rd ae ak) aq aJ true ae aj ah ai) else (if aq = bv then (if aJ = true then (laws_FnLoopSorts.j1 k1 ao ak (rd ae ak) aq aJ ((rd ae ak) == 0) ae aj ah ai) else (laws_FnLoopSorts.j1 k1 ao ak (rd ae ak) aq aJ false ae aj ah ai)) else (laws_FnLoopSorts.j1 k1 ao ak (rd ae ak) aq aJ true ae aj ah ai))) = some r := H
      have A14 := zK c1; clear c1; have cJ := zK H; clear H
      have bG : wr.cell? ⟨ag, 0, none⟩ = some (.slice a8 ae.length az) := (blk_cell ad.out 0).trans rfl
      have bH : wr.cell? ⟨ag, 1, none⟩ = some (.int .i64 aj) := (blk_cell ad.out 1).trans rfl
      have bI : wr.cell? ⟨ag, 2, none⟩ = some (.slice aQ ah.length aP) := (blk_cell ad.out 2).trans rfl
      have bJ : wr.cell? ⟨ag, 3, none⟩ = some (.slice av ai.length ar) := (blk_cell ad.out 3).trans rfl
      have bK := blk_frozen ad.out 0; have bL := blk_frozen ad.out 1; have bM := blk_frozen ad.out 2; have bN := blk_frozen ad.out 3
      have bO : 0 ≤ (ak : Int) := zd
      have bP : ak < (ae.length : Int) := zd
      obtain ⟨an, e427, bQ⟩ := Kd.at_int (Kd.R_reads' aa.out).2.2 ak bO bP
      cases e427
      replace bO := eq_true bO; replace bP := eq_true bP
      go_upto_region 11 with (first | ((with_reducible refine gate_callee (f := 17) rfl ?_); refine goesL_ (some 33) rfl rfl Try.func17 (by kernel_rfl) rfl #[.agg #[.slice (some an) ae.length az, .int .i64 aj, .slice aQ ah.length aP, .slice av ai.length ar], .int .i64 (rd ae ak)] rfl zg ?_; (with_reducible refine (impl_StepsOf.calls k1 _ _ ae aj _ _ ah _ _ ai (rd ae ak) aq aJ _ ?side1 ?side2 ?side3 ?side4 ?side5 ?side6 A13.out).mono ?_); (case side1 => exact zs (Kd.R_reads' aa.out).2.2); (case side2 => exact (Kd.R_reads' aa.out).2.1); (case side3 => exact zs (Kd.S_reads' ab.out).2.2); (case side4 => exact (Kd.S_reads' ab.out).2.1); (case side5 => exact zs (Kd.S_reads' ac.out).2.2); (case side6 => exact (Kd.S_reads' ac.out).2.1); rintro e w17 ⟨rfl, hb⟩; refine ⟨_, rfl, ?_⟩; have aU := zK (Kd.R_below (zR aa) hb); have aV := zK (Kd.S_below (zT ab) hb); have aW := zK (Kd.S_below (zT ac) hb); have aX := zK (blk_below (g := ag) (o := .cells #[.slice (some an) ae.length az, .int .i64 aj, .slice aQ ah.length aP, .slice av ai.length ar] 28 (0, 0)) (zk ad) hb); have a2 := zK (below_step (zb HB) hb); clear aa; clear ab; clear ac; clear ad; clear HB; have aa := aU; have ab := aV; have ac := aW; have ad := aX; have HB := a2; clear aU aV aW aX a2; (try clear hb); have bR : w17.cell? ⟨ag, 0, none⟩ = some (.slice (some an) ae.length az) := (blk_cell ad.out 0).trans rfl; have bS : w17.cell? ⟨ag, 1, none⟩ = some (.int .i64 aj) := (blk_cell ad.out 1).trans rfl; have bT : w17.cell? ⟨ag, 2, none⟩ = some (.slice aQ ah.length aP) := (blk_cell ad.out 2).trans rfl; have bU : w17.cell? ⟨ag, 3, none⟩ = some (.slice av ai.length ar) := (blk_cell ad.out 3).trans rfl; have bV := blk_frozen ad.out 0; have bW := blk_frozen ad.out 1; have bX := blk_frozen ad.out 2; have bY := blk_frozen ad.out 3) | ((with_reducible refine gate_callee (f := 18) rfl ?_); refine goesL_ (some 39) rfl rfl Try.func18 (by kernel_rfl) rfl #[.agg #[.slice (some an) ae.length az, .int .i64 aj, .slice aQ ah.length aP, .slice av ai.length ar], .int .i64 (rd ae ak)] rfl zg ?_; (with_reducible refine (spec_StepsOf.calls k1 (fun k_ => some k_ = (.slice (some an) ae.length az : Value).ownBlock) _ _ ae aj (fun k_ => ((some k_ ≠ (.slice (some an) ae.length az : Value).ownBlock ∧ some k_ ≠ (.slice av ai.length ar : Value).ownBlock) ∧ k_ ≠ ag)) _ _ ah (fun k_ => ((some k_ ≠ (.slice (some an) ae.length az : Value).ownBlock ∧ some k_ ≠ (.slice aQ ah.length aP : Value).ownBlock) ∧ k_ ≠ ag)) _ _ ai (rd ae ak) bv ba _ ?side1 ?side2 ?side3 A14.out).mono ?_); (case side1 => exact Kd.R_V (Kd.R_tight rfl (Kd.R_types (Kd.R_apart' (Kd.R_apart' (aa.out) (Kd.S_typed ab.out) (by decide)) (Kd.S_typed ac.out) (by decide)) ad.out (by decide)))); (case side2 => exact Kd.S_V (Kd.S_types (Kd.S_apart' (ab.out) (Kd.S_typed ac.out) (by decide)) ad.out (by decide))); (case side3 => exact Kd.S_V (Kd.S_types (Kd.S_apart' (ac.out) (Kd.S_typed ab.out) (by decide)) ad.out (by decide))); rintro e w19 ⟨rfl, hb⟩; refine ⟨_, rfl, ?_⟩; have aU := zK (Kd.R_below (zR aa) hb); have aV := zK (Kd.S_below (zT ab) hb); have aW := zK (Kd.S_below (zT ac) hb); have aX := zK (blk_below (g := ag) (o := .cells #[.slice (some an) ae.length az, .int .i64 aj, .slice aQ ah.length aP, .slice av ai.length ar] 28 (0, 0)) (zk ad) hb); have a2 := zK (below_step (zb HB) hb); clear aa; clear ab; clear ac; clear ad; clear HB; have aa := aU; have ab := aV; have ac := aW; have ad := aX; have HB := a2; clear aU aV aW aX a2; (try clear hb)))
      (try simp only [Act.put, zp, zq, zr])
      go_cut [56] (fun v56 wc => ∃ (kq : Nat) (bf : Bool), v56 = .bool bf ∧ Aside0 (laws_FnLoopSorts.j1 kq ao ak (rd ae ak) aq aJ bf ae aj ah ai = some r) ∧ Aside0 (kq ≤ k1) ∧ Aside0 (Kd.R (Kd.int .i64) 3 wc w.heap.size (fun _ => True) (.slice (some an) ae.length az) ae) ∧ Aside0 (Kd.S k69 69 wc w.heap.size (fun k_ => some k_ ≠ ((.slice (some an) ae.length az) : Value).ownBlock) (.slice aQ ah.length aP) ah) ∧ Aside0 (Kd.S k74 74 wc w.heap.size (fun k_ => some k_ ≠ ((.slice (some an) ae.length az) : Value).ownBlock) (.slice av ai.length ar) ai) ∧ Aside0 (wc.heap[ag]? = some (.cells #[(.slice (some an) ae.length az), .int .i64 aj, (.slice aQ ah.length aP), (.slice av ai.length ar)] 28 (0, 0))) ∧ Aside0 (Below w.heap.size w wc))
      case first =>
       have H := cJ.out; clear cJ
       by_cases bA : (aJ != ba) = true
       ·rw [if_pos bA] at H
        have bl : (aJ != ba) = true := bA
        (try (have da : decide (aJ = ba) = false := by simpa using bA)); (try (have db : (aJ == ba) = false := by simpa using bA)); (try (have c20b3 : ¬ (aJ = ba) := by simpa using bA)); clear bA
        (first | rw [bl] | (simp only [i64_w, i32_w]; rw [bl]) | skip)
        exact absurd (H.trans (congrArg some hrt.out)) (by cases k1 <;> simp [laws_FnLoopSorts.j1])
       ·rw [if_neg bA] at H
        have bl : (aJ != ba) = false := by simpa using bA
        (try (have da : decide (aJ = ba) = true := by simpa using bA)); (try (have db : (aJ == ba) = true := by simpa using bA)); clear bA
        (first | rw [bl] | (simp only [i64_w, i32_w]; rw [bl]) | skip)
        by_cases cK : aq = bv
        ·rw [if_pos cK] at H
         have dc : (aq == bv) = true := beq_iff_eq.mpr cK
         have dd : (aq != bv) = false := bne_eq_false_iff_eq.mpr cK
         clear cK
         by_cases c22 : aJ = true
         ·subst c22
          have H1 : (laws_FnLoopSorts.j1 k1 ao ak (rd ae ak) aq true ((rd ae ak) == 0) ae aj ah ai) = some r := by rw [if_pos rfl] at H; exact H
          clear H; have H := H1; clear H1; have H' := zK H; clear H
          go_wp2
          go_meet
          case rel => exact ⟨_, (((rd ae ak) == 0)), zf, H', ⟨by have := bF.out; first | omega | exact Nat.le_refl _⟩, ⟨zR aa⟩, ⟨zT ab⟩, ⟨zT ac⟩, ⟨zk ad⟩, ⟨zb HB⟩⟩
         ·replace c22 := Bool.eq_false_iff.mpr c22
          subst c22
          have H1 : (laws_FnLoopSorts.j1 k1 ao ak (rd ae ak) aq false false ae aj ah ai) = some r := by rw [if_neg (show ¬ (false = true) by decide)] at H; exact H
          clear H; have H := H1; clear H1; have H' := zK H; clear H
          go_wp2
          go_meet
          case rel => exact ⟨_, (false), zf, H', ⟨by have := bF.out; first | omega | exact Nat.le_refl _⟩, ⟨zR aa⟩, ⟨zT ab⟩, ⟨zT ac⟩, ⟨zk ad⟩, ⟨zb HB⟩⟩
        ·rw [if_neg cK] at H
         have dc : (aq == bv) = false := beq_eq_false_iff_ne.mpr cK
         have dd : (aq != bv) = true := bne_iff_ne.mpr cK
         exact absurd (H.trans (congrArg some hrt.out)) (by cases k1 <;> simp [laws_FnLoopSorts.j1])
      case rest =>
       clear cJ cw cY bG bH bI bJ bR bS bT bU bK bL bM bN bV bW bX bY bQ bO bP
       obtain ⟨kq, bf, rfl, HA, bw, aa, ab, ac, ad, HB⟩ := hcut
       cases kq with
       | zero => exact absurd HA.out (by simp [laws_FnLoopSorts.j1])
       | succ kj14 =>
        have H := HA.out; clear HA
        simp only [laws_FnLoopSorts.j1] at H
        by_cases c23 : bf = true
        ·subst c23
         have H1 : (some false) = some r := by rw [if_pos rfl] at H; exact H
         clear H; have H := H1; clear H1
         exact absurd (H.trans (congrArg some hrt.out)) (by simp)
        ·replace c23 := Bool.eq_false_iff.mpr c23
         subst c23
         have H1 : (if (rd ae ak) = 0 then (laws_FnLoopSorts.j2 kj14 ao ak (rd ae ak) aq true ae aj ah ai) else (laws_FnLoopSorts.j2 kj14 ao ak (rd ae ak) aq (!aJ) ae aj ah ai)) = some r := by rw [if_neg (show ¬ (false = true) by decide)] at H; exact H
         clear H; have H := H1; clear H1; have cL := zK H; clear H
         go_upto_region 13 with (fail)
         go_cut [62] (fun v62 wc => ∃ (kq : Nat) (bg : Bool), v62 = .bool bg ∧ Aside0 (laws_FnLoopSorts.j2 kq ao ak (rd ae ak) aq bg ae aj ah ai = some r) ∧ Aside0 (kq ≤ kj14) ∧ Aside0 (Kd.R (Kd.int .i64) 3 wc w.heap.size (fun _ => True) (.slice (some an) ae.length az) ae) ∧ Aside0 (Kd.S k69 69 wc w.heap.size (fun k_ => some k_ ≠ ((.slice (some an) ae.length az) : Value).ownBlock) (.slice aQ ah.length aP) ah) ∧ Aside0 (Kd.S k74 74 wc w.heap.size (fun k_ => some k_ ≠ ((.slice (some an) ae.length az) : Value).ownBlock) (.slice av ai.length ar) ai) ∧ Aside0 (wc.heap[ag]? = some (.cells #[(.slice (some an) ae.length az), .int .i64 aj, (.slice aQ ah.length aP), (.slice av ai.length ar)] 28 (0, 0))) ∧ Aside0 (Below w.heap.size w wc))
         case first =>
          have H := cL.out; clear cL
          by_cases cM : (rd ae ak) = 0
          ·rw [if_pos cM] at H
           have bm : ((rd ae ak) == 0) = true := beq_iff_eq.mpr cM
           have de : ((rd ae ak) != 0) = false := bne_eq_false_iff_eq.mpr cM
           clear cM
           (first | rw [bm] | (simp only [i64_w, i32_w]; rw [bm]) | skip)
           have H' := zK H; clear H
           go_wp2
           go_meet
           case rel => exact ⟨_, (true), zf, H', ⟨by have := bF.out; have := bw.out; first | omega | exact Nat.le_refl _⟩, ⟨zR aa⟩, ⟨zT ab⟩, ⟨zT ac⟩, ⟨zk ad⟩, ⟨zb HB⟩⟩
          ·rw [if_neg cM] at H
           have bm : ((rd ae ak) == 0) = false := beq_eq_false_iff_ne.mpr cM
           have de : ((rd ae ak) != 0) = true := bne_iff_ne.mpr cM
           (first | rw [bm] | (simp only [i64_w, i32_w]; rw [bm]) | skip)
           have H' := zK H; clear H
           go_wp2
           go_meet
           case rel => exact ⟨_, (!aJ), zf, H', ⟨by have := bF.out; have := bw.out; first | omega | exact Nat.le_refl _⟩, ⟨zR aa⟩, ⟨zT ab⟩, ⟨zT ac⟩, ⟨zk ad⟩, ⟨zb HB⟩⟩
         case rest =>
          clear cL
          obtain ⟨kq, bg, rfl, HA, bB, aa, ab, ac, ad, HB⟩ := hcut
          cases kq with
          | zero => exact absurd HA.out (by simp [laws_FnLoopSorts.j2])
          | succ kj23 =>
           have H := HA.out; clear HA
           simp only [laws_FnLoopSorts.j2] at H
           by_cases c26 : bg = true
           ·subst c26
            have H1 : (laws_FnLoopSorts.l0 kj23 ao (wrap64 (ak + 1)) ae aj ah ai) = some r := by rw [if_pos rfl] at H; exact H
            clear H; have H := H1; clear H1; have H' := zK H; clear H
            go_wp2
            go_roundg kj23
            case measure => have := bF.out; have := bw.out; have := bB.out; omega
            case rel => exact ⟨(ao), (wrap64 (ak + 1)), zf, zf, H', ⟨by have := bF.out; have := bw.out; have := bB.out; omega⟩, ⟨zR aa⟩, ⟨zT ab⟩, ⟨zT ac⟩, ⟨zk ad⟩, ⟨zb HB⟩⟩
           ·replace c26 := Bool.eq_false_iff.mpr c26
            subst c26
            have H1 : ((impl_TurnLoop.f kj23 ae aj ah ai aq).bind fun bt432 => ((impl_TurnLoop.f kj23 ae aj ah ai (wrap64 (aq - 1))).bind fun bt443 => ((laws_has.f kj23 bt432.1 (rd ae ak)).bind fun bn => (if bn = true then (laws_FnLoopSorts.j3 kj23 (wrap64 (ao + 1)) ak true ae aj ah ai) else ((laws_has.f kj23 bt443.1 (rd ae ak)).bind fun a7 => (if a7 = true then (if aq < 1 then (laws_FnLoopSorts.j3 kj23 (wrap64 (ao + 1)) ak true ae aj ah ai) else (laws_FnLoopSorts.j3 kj23 (wrap64 (ao + 1)) ak (decide (aq > (ae.length : Int))) ae aj ah ai)) else (laws_FnLoopSorts.j3 kj23 (wrap64 (ao + 1)) ak true ae aj ah ai))))))) = some r := by rw [if_neg (show ¬ (false = true) by decide)] at H; exact H
            clear H; have H := H1; clear H1; replace H := Option.bind_eq_some_iff.mp H
            obtain ⟨⟨ap, aH, aA, aC⟩, df, H⟩ := H
            replace H : ((impl_TurnLoop.f kj23 ae aj ah ai (wrap64 (aq - 1))).bind fun bt443 => ((laws_has.f kj23 ap (rd ae ak)).bind fun bn => (if bn = true then (laws_FnLoopSorts.j3 kj23 (wrap64 (ao + 1)) ak true ae aj ah ai) else ((laws_has.f kj23 bt443.1 (rd ae ak)).bind fun a7 => (if a7 = true then (if aq < 1 then (laws_FnLoopSorts.j3 kj23 (wrap64 (ao + 1)) ak true ae aj ah ai) else (laws_FnLoopSorts.j3 kj23 (wrap64 (ao + 1)) ak (decide (aq > (ae.length : Int))) ae aj ah ai)) else (laws_FnLoopSorts.j3 kj23 (wrap64 (ao + 1)) ak true ae aj ah ai)))))) = some r := H
            have A27 := zK df; clear df; replace H := Option.bind_eq_some_iff.mp H
            obtain ⟨⟨aB, a3, aT, aY⟩, dg, H⟩ := H
            replace H : ((laws_has.f kj23 ap (rd ae ak)).bind fun bn => (if bn = true then (laws_FnLoopSorts.j3 kj23 (wrap64 (ao + 1)) ak true ae aj ah ai) else ((laws_has.f kj23 aB (rd ae ak)).bind fun a7 => (if a7 = true then (if aq < 1 then (laws_FnLoopSorts.j3 kj23 (wrap64 (ao + 1)) ak true ae aj ah ai) else (laws_FnLoopSorts.j3 kj23 (wrap64 (ao + 1)) ak (decide (aq > (ae.length : Int))) ae aj ah ai)) else (laws_FnLoopSorts.j3 kj23 (wrap64 (ao + 1)) ak true ae aj ah ai))))) = some r := H
            have A28 := zK dg; clear dg; have cN := zK H; clear H
            have bZ : wc.cell? ⟨ag, 0, none⟩ = some (.slice (some an) ae.length az) := (blk_cell ad.out 0).trans rfl
            have b0 : wc.cell? ⟨ag, 1, none⟩ = some (.int .i64 aj) := (blk_cell ad.out 1).trans rfl
            have b1 : wc.cell? ⟨ag, 2, none⟩ = some (.slice aQ ah.length aP) := (blk_cell ad.out 2).trans rfl
            have b2 : wc.cell? ⟨ag, 3, none⟩ = some (.slice av ai.length ar) := (blk_cell ad.out 3).trans rfl
            have b3 := blk_frozen ad.out 0; have b4 := blk_frozen ad.out 1; have b5 := blk_frozen ad.out 2; have b6 := blk_frozen ad.out 3
            go_upto_region 17 with (first | ((with_reducible refine gate_callee (f := 19) rfl ?_); refine goesL_ (some 67) rfl rfl Try.func19 (by kernel_rfl) rfl #[.agg #[.slice (some an) ae.length az, .int .i64 aj, .slice aQ ah.length aP, .slice av ai.length ar], .int .i64 aq] rfl zg ?_; (with_reducible refine (impl_TurnLoop.calls kj23 _ _ ae aj _ _ ah _ _ ai aq ap aH aA aC _ ?side1 ?side2 ?side3 ?side4 ?side5 ?side6 A27.out).mono ?_); (case side1 => exact zs (Kd.R_reads' aa.out).2.2); (case side2 => exact (Kd.R_reads' aa.out).2.1); (case side3 => exact zs (Kd.S_reads' ab.out).2.2); (case side4 => exact (Kd.S_reads' ab.out).2.1); (case side5 => exact zs (Kd.S_reads' ac.out).2.2); (case side6 => exact (Kd.S_reads' ac.out).2.1); rintro e w31 ⟨v433, v437, v440, rfl, ho0, ho1, ho2, hb⟩; refine ⟨_, rfl, ?_⟩; have aU := zK (Kd.R_elder' (zR aa) (Kd.R_base ho0) hb); have aV := zK (Kd.S_mono (Kd.S_told (Kd.S_told (Kd.S_old (zT ab) hb) (Kd.R_base ho0)) (Kd.S_base ho1)) (fun _ h_ => h_.1)); have aW := zK (Kd.S_mono (Kd.S_told (Kd.S_told (Kd.S_old (zT ac) hb) (Kd.R_base ho0)) (Kd.S_base ho2)) (fun _ h_ => h_.1)); have aX := zK (Kd.R_lower (Kd.R_new' ho0 (Kd.R_lt (zR aa))) (below_size (zb HB))); have a2 := zK (Kd.S_lower (Kd.S_new' (Kd.S_new' ho1 (Kd.R_lt (zR aa))) (Kd.S_lt (zT ab))) (below_size (zb HB))); have bx := zK (Kd.S_lower (Kd.S_new' (Kd.S_new' ho2 (Kd.R_lt (zR aa))) (Kd.S_lt (zT ac))) (below_size (zb HB))); have bz := zK (blk_below (g := ag) (o := .cells #[.slice (some an) ae.length az, .int .i64 aj, .slice aQ ah.length aP, .slice av ai.length ar] 28 (0, 0)) (zk ad) hb); have bC := zK (below_step (zb HB) hb); clear aa; clear ab; clear ac; clear ad; clear HB; have aa := aU; have ab := aV; have ac := aW; have aL := aX; have aR := a2; have aS := bx; have ad := bz; have HB := bC; clear aU aV aW aX a2 bx bz bC; (try clear hb); (try clear hk); (try clear ho0); (try clear ho1); (try clear ho2)) | ((with_reducible refine gate_dst (N := 11) rfl ?_); (try (refine gate_guard (by rfl) ?_; dsimp only)); refine zX 11 #[.slice none 0 0, .int .i64 0, .slice none 0 0, .slice none 0 0] 28 ?_; intro af hg cx hbox hb; have aU := zK (Kd.R_below (zR aa) hb); have aV := zK (Kd.S_below (zT ab) hb); have aW := zK (Kd.S_below (zT ac) hb); have aX := zK (Kd.R_below (zR aL) hb); have a2 := zK (Kd.S_below (zT aR) hb); have bx := zK (Kd.S_below (zT aS) hb); have bz := zK (blk_below (g := ag) (o := .cells #[.slice (some an) ae.length az, .int .i64 aj, .slice aQ ah.length aP, .slice av ai.length ar] 28 (0, 0)) (zk ad) hb); have bC := zK (below_step (zb HB) hb); have cy := zK (hbox); have cz := zK ((by rw [hg]; exact (below_size (zb HB)) : w.heap.size ≤ af)); have bo := zK ((by rw [hg]; exact (below_size (zb HB)) : w.heap.size ≤ af)); have bp := zK ((by rw [hg]; exact Nat.ne_of_lt (blk_lt (g := ag) (o := .cells #[.slice (some an) ae.length az, .int .i64 aj, .slice aQ ah.length aP, .slice av ai.length ar] 28 (0, 0)) (zk ad)) : ag ≠ af)); have bD := zK ((by rw [hg]; exact Nat.ne_of_gt (blk_lt (g := ag) (o := .cells #[.slice (some an) ae.length az, .int .i64 aj, .slice aQ ah.length aP, .slice av ai.length ar] 28 (0, 0)) (zk ad)) : af ≠ ag)); clear aa; clear ab; clear ac; clear aL; clear aR; clear aS; clear ad; clear HB; have aa := aU; have ab := aV; have ac := aW; have aL := aX; have aR := a2; have aS := bx; have ad := bz; have HB := bC; have am := cy; have GW442 := cz; have a6 := bo; have aM := bp; have bc := bD; clear aU aV aW aX a2 bx bz bC cy cz bo bp bD; clear hb hbox hg; obtain ⟨ay, ax, eo33⟩ := Kd.R_slice aL.out; subst eo33; have hnb34 := bc.out; have hnc34 := aM.out; have b7 : cx.cell? ⟨af, 0, none⟩ = some (.slice none 0 0) := (blk_cell am.out 0).trans rfl; have b8 : cx.cell? ⟨af, 1, none⟩ = some (.int .i64 0) := (blk_cell am.out 1).trans rfl; have b9 : cx.cell? ⟨af, 2, none⟩ = some (.slice none 0 0) := (blk_cell am.out 2).trans rfl; have ca : cx.cell? ⟨af, 3, none⟩ = some (.slice none 0 0) := (blk_cell am.out 3).trans rfl; have cb := blk_frozen am.out 0; have cc := blk_frozen am.out 1; have cd := blk_frozen am.out 2; have ce := blk_frozen am.out 3; obtain ⟨aD, aE, eo36⟩ := Kd.S_slice aR.out; subst eo36; obtain ⟨aF, aG, eo37⟩ := Kd.S_slice aS.out; subst eo37; have cf : cx.cell? ⟨ag, 0, none⟩ = some (.slice (some an) ae.length az) := (blk_cell ad.out 0).trans rfl; have cg : cx.cell? ⟨ag, 1, none⟩ = some (.int .i64 aj) := (blk_cell ad.out 1).trans rfl; have ch : cx.cell? ⟨ag, 2, none⟩ = some (.slice aQ ah.length aP) := (blk_cell ad.out 2).trans rfl; have ci : cx.cell? ⟨ag, 3, none⟩ = some (.slice av ai.length ar) := (blk_cell ad.out 3).trans rfl; have cj := blk_frozen ad.out 0; have ck := blk_frozen ad.out 1; have cl := blk_frozen ad.out 2; have cm := blk_frozen ad.out 3) | ((with_reducible refine gate_callee (f := 19) rfl ?_); refine goesL_ (some 71) rfl rfl Try.func19 (by kernel_rfl) rfl #[.agg #[.slice (some an) ae.length az, .int .i64 aj, .slice aQ ah.length aP, .slice av ai.length ar], .int .i64 (wrap64 (aq - 1))] rfl zg ?_; (with_reducible refine (impl_TurnLoop.calls kj23 _ _ ae aj _ _ ah _ _ ai (wrap64 (aq - 1)) aB a3 aT aY _ ?side1 ?side2 ?side3 ?side4 ?side5 ?side6 A28.out).mono ?_); (case side1 => refine (Kd.R_reads' (e := 3) (base := w.heap.size) (ok := fun k_ => (True ∧ some k_ ≠ (.slice ay ap.length ax : Value).ownBlock)) (n := ae.length) (c := az) ?_).2.2; exact (by (with_reducible repeat (first | apply Kd.R_alloc | apply Kd.R_drewN | apply Kd.R_drew)); exact (Kd.R_mono (Kd.R_far (p := ⟨af, 3, none⟩) (Kd.R_far (p := ⟨af, 2, none⟩) (Kd.R_far (p := ⟨af, 1, none⟩) (Kd.R_far (p := ⟨af, 0, none⟩) (Kd.R_types aa.out am.out (by decide)) (fun _ hk => hk.2) (.slice ay ap.length ax)) (fun _ hk => hk.2) (.int .i64 aH)) (fun _ hk => hk.2) (.slice aD aA.length aE)) (fun _ hk => hk.2) (.slice aF aC.length aG)) (fun _ h_ => h_.1)))); (case side2 => exact (Kd.R_reads' aa.out).2.1); (case side3 => refine (Kd.S_reads' (e := 69) (base := w.heap.size) (ok := fun k_ => ((some k_ ≠ (.slice (some an) ae.length az : Value).ownBlock ∧ some k_ ≠ (.slice ay ap.length ax : Value).ownBlock) ∧ some k_ ≠ (.slice aD aA.length aE : Value).ownBlock)) (n := ah.length) (c := aP) ?_).2.2; exact (by (with_reducible repeat (first | apply Kd.S_alloc | apply Kd.S_drewN | apply Kd.S_drew)); exact (Kd.S_mono (Kd.S_far (p := ⟨af, 3, none⟩) (Kd.S_far (p := ⟨af, 2, none⟩) (Kd.S_far (p := ⟨af, 1, none⟩) (Kd.S_far (p := ⟨af, 0, none⟩) (Kd.S_types ab.out am.out (by decide)) (fun _ hk => hk.2) (.slice ay ap.length ax)) (fun _ hk => hk.2) (.int .i64 aH)) (fun _ hk => hk.2) (.slice aD aA.length aE)) (fun _ hk => hk.2) (.slice aF aC.length aG)) (fun _ h_ => h_.1)))); (case side4 => exact (Kd.S_reads' ab.out).2.1); (case side5 => refine (Kd.S_reads' (e := 74) (base := w.heap.size) (ok := fun k_ => ((some k_ ≠ (.slice (some an) ae.length az : Value).ownBlock ∧ some k_ ≠ (.slice ay ap.length ax : Value).ownBlock) ∧ some k_ ≠ (.slice aF aC.length aG : Value).ownBlock)) (n := ai.length) (c := ar) ?_).2.2; exact (by (with_reducible repeat (first | apply Kd.S_alloc | apply Kd.S_drewN | apply Kd.S_drew)); exact (Kd.S_mono (Kd.S_far (p := ⟨af, 3, none⟩) (Kd.S_far (p := ⟨af, 2, none⟩) (Kd.S_far (p := ⟨af, 1, none⟩) (Kd.S_far (p := ⟨af, 0, none⟩) (Kd.S_types ac.out am.out (by decide)) (fun _ hk => hk.2) (.slice ay ap.length ax)) (fun _ hk => hk.2) (.int .i64 aH)) (fun _ hk => hk.2) (.slice aD aA.length aE)) (fun _ hk => hk.2) (.slice aF aC.length aG)) (fun _ h_ => h_.1)))); (case side6 => exact (Kd.S_reads' ac.out).2.1); rintro e w39 ⟨v444, v448, v451, rfl, ho0, ho1, ho2, hb⟩; refine ⟨_, rfl, ?_⟩; have aU := zK (Kd.R_elder' (by (with_reducible repeat (first | apply Kd.R_alloc | apply Kd.R_drewN | apply Kd.R_drew)); exact (Kd.R_mono (Kd.R_far (p := ⟨af, 3, none⟩) (Kd.R_far (p := ⟨af, 2, none⟩) (Kd.R_far (p := ⟨af, 1, none⟩) (Kd.R_far (p := ⟨af, 0, none⟩) (Kd.R_types aa.out am.out (by decide)) (fun _ hk => hk.2) (.slice ay ap.length ax)) (fun _ hk => hk.2) (.int .i64 aH)) (fun _ hk => hk.2) (.slice aD aA.length aE)) (fun _ hk => hk.2) (.slice aF aC.length aG)) (fun _ h_ => h_.1))) (Kd.R_base ho0) hb); have aV := zK (Kd.S_mono (Kd.S_told (Kd.S_told (Kd.S_old (by (with_reducible repeat (first | apply Kd.S_alloc | apply Kd.S_drewN | apply Kd.S_drew)); exact (Kd.S_mono (Kd.S_far (p := ⟨af, 3, none⟩) (Kd.S_far (p := ⟨af, 2, none⟩) (Kd.S_far (p := ⟨af, 1, none⟩) (Kd.S_far (p := ⟨af, 0, none⟩) (Kd.S_types ab.out am.out (by decide)) (fun _ hk => hk.2) (.slice ay ap.length ax)) (fun _ hk => hk.2) (.int .i64 aH)) (fun _ hk => hk.2) (.slice aD aA.length aE)) (fun _ hk => hk.2) (.slice aF aC.length aG)) (fun _ h_ => h_.1))) hb) (Kd.R_base ho0)) (Kd.S_base ho1)) (fun _ h_ => h_.1)); have aW := zK (Kd.S_mono (Kd.S_told (Kd.S_told (Kd.S_old (by (with_reducible repeat (first | apply Kd.S_alloc | apply Kd.S_drewN | apply Kd.S_drew)); exact (Kd.S_mono (Kd.S_far (p := ⟨af, 3, none⟩) (Kd.S_far (p := ⟨af, 2, none⟩) (Kd.S_far (p := ⟨af, 1, none⟩) (Kd.S_far (p := ⟨af, 0, none⟩) (Kd.S_types ac.out am.out (by decide)) (fun _ hk => hk.2) (.slice ay ap.length ax)) (fun _ hk => hk.2) (.int .i64 aH)) (fun _ hk => hk.2) (.slice aD aA.length aE)) (fun _ hk => hk.2) (.slice aF aC.length aG)) (fun _ h_ => h_.1))) hb) (Kd.R_base ho0)) (Kd.S_base ho2)) (fun _ h_ => h_.1)); have aX := zK (Kd.R_elder' (by (with_reducible repeat (first | apply Kd.R_alloc | apply Kd.R_drewN | apply Kd.R_drew)); exact (Kd.R_mono (Kd.R_far (p := ⟨af, 3, none⟩) (Kd.R_far (p := ⟨af, 2, none⟩) (Kd.R_far (p := ⟨af, 1, none⟩) (Kd.R_far (p := ⟨af, 0, none⟩) (Kd.R_types aL.out am.out (by decide)) (fun _ hk => hk.2) (.slice ay ap.length ax)) (fun _ hk => hk.2) (.int .i64 aH)) (fun _ hk => hk.2) (.slice aD aA.length aE)) (fun _ hk => hk.2) (.slice aF aC.length aG)) (fun _ h_ => h_.1))) (Kd.R_base ho0) hb); have a2 := zK (Kd.S_mono (Kd.S_told (Kd.S_told (Kd.S_old (by (with_reducible repeat (first | apply Kd.S_alloc | apply Kd.S_drewN | apply Kd.S_drew)); exact (Kd.S_mono (Kd.S_far (p := ⟨af, 3, none⟩) (Kd.S_far (p := ⟨af, 2, none⟩) (Kd.S_far (p := ⟨af, 1, none⟩) (Kd.S_far (p := ⟨af, 0, none⟩) (Kd.S_types aR.out am.out (by decide)) (fun _ hk => hk.2) (.slice ay ap.length ax)) (fun _ hk => hk.2) (.int .i64 aH)) (fun _ hk => hk.2) (.slice aD aA.length aE)) (fun _ hk => hk.2) (.slice aF aC.length aG)) (fun _ h_ => h_.1))) hb) (Kd.R_base ho0)) (Kd.S_base ho1)) (fun _ h_ => h_.1)); have bx := zK (Kd.S_mono (Kd.S_told (Kd.S_told (Kd.S_old (by (with_reducible repeat (first | apply Kd.S_alloc | apply Kd.S_drewN | apply Kd.S_drew)); exact (Kd.S_mono (Kd.S_far (p := ⟨af, 3, none⟩) (Kd.S_far (p := ⟨af, 2, none⟩) (Kd.S_far (p := ⟨af, 1, none⟩) (Kd.S_far (p := ⟨af, 0, none⟩) (Kd.S_types aS.out am.out (by decide)) (fun _ hk => hk.2) (.slice ay ap.length ax)) (fun _ hk => hk.2) (.int .i64 aH)) (fun _ hk => hk.2) (.slice aD aA.length aE)) (fun _ hk => hk.2) (.slice aF aC.length aG)) (fun _ h_ => h_.1))) hb) (Kd.R_base ho0)) (Kd.S_base ho2)) (fun _ h_ => h_.1)); have bz := zK (Kd.R_lower (Kd.R_new' (Kd.R_new' ho0 (Kd.R_lt (by (with_reducible repeat (first | apply Kd.R_alloc | apply Kd.R_drewN | apply Kd.R_drew)); exact (Kd.R_mono (Kd.R_far (p := ⟨af, 3, none⟩) (Kd.R_far (p := ⟨af, 2, none⟩) (Kd.R_far (p := ⟨af, 1, none⟩) (Kd.R_far (p := ⟨af, 0, none⟩) (Kd.R_types aa.out am.out (by decide)) (fun _ hk => hk.2) (.slice ay ap.length ax)) (fun _ hk => hk.2) (.int .i64 aH)) (fun _ hk => hk.2) (.slice aD aA.length aE)) (fun _ hk => hk.2) (.slice aF aC.length aG)) (fun _ h_ => h_.1))))) (Kd.R_lt (by (with_reducible repeat (first | apply Kd.R_alloc | apply Kd.R_drewN | apply Kd.R_drew)); exact (Kd.R_mono (Kd.R_far (p := ⟨af, 3, none⟩) (Kd.R_far (p := ⟨af, 2, none⟩) (Kd.R_far (p := ⟨af, 1, none⟩) (Kd.R_far (p := ⟨af, 0, none⟩) (Kd.R_types aL.out am.out (by decide)) (fun _ hk => hk.2) (.slice ay ap.length ax)) (fun _ hk => hk.2) (.int .i64 aH)) (fun _ hk => hk.2) (.slice aD aA.length aE)) (fun _ hk => hk.2) (.slice aF aC.length aG)) (fun _ h_ => h_.1))))) (below_size (zb HB))); have bC := zK (Kd.S_lower (Kd.S_new' (Kd.S_new' (Kd.S_new' (Kd.S_new' ho1 (Kd.R_lt (by (with_reducible repeat (first | apply Kd.R_alloc | apply Kd.R_drewN | apply Kd.R_drew)); exact (Kd.R_mono (Kd.R_far (p := ⟨af, 3, none⟩) (Kd.R_far (p := ⟨af, 2, none⟩) (Kd.R_far (p := ⟨af, 1, none⟩) (Kd.R_far (p := ⟨af, 0, none⟩) (Kd.R_types aa.out am.out (by decide)) (fun _ hk => hk.2) (.slice ay ap.length ax)) (fun _ hk => hk.2) (.int .i64 aH)) (fun _ hk => hk.2) (.slice aD aA.length aE)) (fun _ hk => hk.2) (.slice aF aC.length aG)) (fun _ h_ => h_.1))))) (Kd.S_lt (by (with_reducible repeat (first | apply Kd.S_alloc | apply Kd.S_drewN | apply Kd.S_drew)); exact (Kd.S_mono (Kd.S_far (p := ⟨af, 3, none⟩) (Kd.S_far (p := ⟨af, 2, none⟩) (Kd.S_far (p := ⟨af, 1, none⟩) (Kd.S_far (p := ⟨af, 0, none⟩) (Kd.S_types ab.out am.out (by decide)) (fun _ hk => hk.2) (.slice ay ap.length ax)) (fun _ hk => hk.2) (.int .i64 aH)) (fun _ hk => hk.2) (.slice aD aA.length aE)) (fun _ hk => hk.2) (.slice aF aC.length aG)) (fun _ h_ => h_.1))))) (Kd.R_lt (by (with_reducible repeat (first | apply Kd.R_alloc | apply Kd.R_drewN | apply Kd.R_drew)); exact (Kd.R_mono (Kd.R_far (p := ⟨af, 3, none⟩) (Kd.R_far (p := ⟨af, 2, none⟩) (Kd.R_far (p := ⟨af, 1, none⟩) (Kd.R_far (p := ⟨af, 0, none⟩) (Kd.R_types aL.out am.out (by decide)) (fun _ hk => hk.2) (.slice ay ap.length ax)) (fun _ hk => hk.2) (.int .i64 aH)) (fun _ hk => hk.2) (.slice aD aA.length aE)) (fun _ hk => hk.2) (.slice aF aC.length aG)) (fun _ h_ => h_.1))))) (Kd.S_lt (by (with_reducible repeat (first | apply Kd.S_alloc | apply Kd.S_drewN | apply Kd.S_drew)); exact (Kd.S_mono (Kd.S_far (p := ⟨af, 3, none⟩) (Kd.S_far (p := ⟨af, 2, none⟩) (Kd.S_far (p := ⟨af, 1, none⟩) (Kd.S_far (p := ⟨af, 0, none⟩) (Kd.S_types aR.out am.out (by decide)) (fun _ hk => hk.2) (.slice ay ap.length ax)) (fun _ hk => hk.2) (.int .i64 aH)) (fun _ hk => hk.2) (.slice aD aA.length aE)) (fun _ hk => hk.2) (.slice aF aC.length aG)) (fun _ h_ => h_.1))))) (below_size (zb HB))); have cy := zK (Kd.S_lower (Kd.S_new' (Kd.S_new' (Kd.S_new' (Kd.S_new' ho2 (Kd.R_lt (by (with_reducible repeat (first | apply Kd.R_alloc | apply Kd.R_drewN | apply Kd.R_drew)); exact (Kd.R_mono (Kd.R_far (p := ⟨af, 3, none⟩) (Kd.R_far (p := ⟨af, 2, none⟩) (Kd.R_far (p := ⟨af, 1, none⟩) (Kd.R_far (p := ⟨af, 0, none⟩) (Kd.R_types aa.out am.out (by decide)) (fun _ hk => hk.2) (.slice ay ap.length ax)) (fun _ hk => hk.2) (.int .i64 aH)) (fun _ hk => hk.2) (.slice aD aA.length aE)) (fun _ hk => hk.2) (.slice aF aC.length aG)) (fun _ h_ => h_.1))))) (Kd.S_lt (by (with_reducible repeat (first | apply Kd.S_alloc | apply Kd.S_drewN | apply Kd.S_drew)); exact (Kd.S_mono (Kd.S_far (p := ⟨af, 3, none⟩) (Kd.S_far (p := ⟨af, 2, none⟩) (Kd.S_far (p := ⟨af, 1, none⟩) (Kd.S_far (p := ⟨af, 0, none⟩) (Kd.S_types ac.out am.out (by decide)) (fun _ hk => hk.2) (.slice ay ap.length ax)) (fun _ hk => hk.2) (.int .i64 aH)) (fun _ hk => hk.2) (.slice aD aA.length aE)) (fun _ hk => hk.2) (.slice aF aC.length aG)) (fun _ h_ => h_.1))))) (Kd.R_lt (by (with_reducible repeat (first | apply Kd.R_alloc | apply Kd.R_drewN | apply Kd.R_drew)); exact (Kd.R_mono (Kd.R_far (p := ⟨af, 3, none⟩) (Kd.R_far (p := ⟨af, 2, none⟩) (Kd.R_far (p := ⟨af, 1, none⟩) (Kd.R_far (p := ⟨af, 0, none⟩) (Kd.R_types aL.out am.out (by decide)) (fun _ hk => hk.2) (.slice ay ap.length ax)) (fun _ hk => hk.2) (.int .i64 aH)) (fun _ hk => hk.2) (.slice aD aA.length aE)) (fun _ hk => hk.2) (.slice aF aC.length aG)) (fun _ h_ => h_.1))))) (Kd.S_lt (by (with_reducible repeat (first | apply Kd.S_alloc | apply Kd.S_drewN | apply Kd.S_drew)); exact (Kd.S_mono (Kd.S_far (p := ⟨af, 3, none⟩) (Kd.S_far (p := ⟨af, 2, none⟩) (Kd.S_far (p := ⟨af, 1, none⟩) (Kd.S_far (p := ⟨af, 0, none⟩) (Kd.S_types aS.out am.out (by decide)) (fun _ hk => hk.2) (.slice ay ap.length ax)) (fun _ hk => hk.2) (.int .i64 aH)) (fun _ hk => hk.2) (.slice aD aA.length aE)) (fun _ hk => hk.2) (.slice aF aC.length aG)) (fun _ h_ => h_.1))))) (below_size (zb HB))); have cz := zK (blk_below (g := ag) (o := .cells #[.slice (some an) ae.length az, .int .i64 aj, .slice aQ ah.length aP, .slice av ai.length ar] 28 (0, 0)) (zh ad aM) hb); have bo := zK (blk_below (g := af) (o := .cells #[.slice ay ap.length ax, .int .i64 aH, .slice aD aA.length aE, .slice aF aC.length aG] 28 (0, 0)) (by (with_reducible repeat (first | refine zN ?_ _ | refine zD ?_ | refine zA ?_ _)); refine blk_put (cs := #[.slice ay ap.length ax, .int .i64 aH, .slice aD aA.length aE, .slice none 0 0]) ?_ 3 _ rfl; (with_reducible repeat (first | refine zN ?_ _ | refine zD ?_ | refine zA ?_ _)); refine blk_put (cs := #[.slice ay ap.length ax, .int .i64 aH, .slice none 0 0, .slice none 0 0]) ?_ 2 _ rfl; (with_reducible repeat (first | refine zN ?_ _ | refine zD ?_ | refine zA ?_ _)); refine blk_put (cs := #[.slice ay ap.length ax, .int .i64 0, .slice none 0 0, .slice none 0 0]) ?_ 1 _ rfl; (with_reducible repeat (first | refine zN ?_ _ | refine zD ?_ | refine zA ?_ _)); refine blk_put (cs := #[.slice none 0 0, .int .i64 0, .slice none 0 0, .slice none 0 0]) ?_ 0 _ rfl; (with_reducible repeat (first | refine zN ?_ _ | refine zD ?_ | refine zA ?_ _)); exact am.out) hb); have bp := zK (below_step (zb HB) hb); clear aa; clear ab; clear ac; clear aL; clear aR; clear aS; clear ad; clear am; clear HB; have aa := aU; have ab := aV; have ac := aW; have aL := aX; have aR := a2; have aS := bx; have a9 := bz; have bq := bC; have br := cy; have ad := cz; have am := bo; have HB := bp; clear aU aV aW aX a2 bx bz bC cy cz bo bp; (try clear hb); (try clear hk); (try clear ho0); (try clear ho1); (try clear ho2)) | ((with_reducible refine gate_dst (N := 12) rfl ?_); (try (refine gate_guard (by rfl) ?_; dsimp only)); refine zX 12 #[.slice none 0 0, .int .i64 0, .slice none 0 0, .slice none 0 0] 28 ?_; intro al hg bu hbox hb; have aU := zK (Kd.R_below (zR aa) hb); have aV := zK (Kd.S_below (zT ab) hb); have aW := zK (Kd.S_below (zT ac) hb); have aX := zK (Kd.R_below (zR aL) hb); have a2 := zK (Kd.S_below (zT aR) hb); have bx := zK (Kd.S_below (zT aS) hb); have bz := zK (Kd.R_below (zR a9) hb); have bC := zK (Kd.S_below (zT bq) hb); have cy := zK (Kd.S_below (zT br) hb); have cz := zK (blk_below (g := ag) (o := .cells #[.slice (some an) ae.length az, .int .i64 aj, .slice aQ ah.length aP, .slice av ai.length ar] 28 (0, 0)) (zk ad) hb); have bo := zK (blk_below (g := af) (o := .cells #[.slice ay ap.length ax, .int .i64 aH, .slice aD aA.length aE, .slice aF aC.length aG] 28 (0, 0)) (zk am) hb); have bp := zK (below_step (zb HB) hb); have bD := zK (hbox); have dh := zK ((by rw [hg]; exact (below_size (zb HB)) : w.heap.size ≤ al)); have di := zK ((by rw [hg]; exact (below_size (zb HB)) : w.heap.size ≤ al)); have dj := zK ((by rw [hg]; exact Nat.ne_of_lt (blk_lt (g := ag) (o := .cells #[.slice (some an) ae.length az, .int .i64 aj, .slice aQ ah.length aP, .slice av ai.length ar] 28 (0, 0)) (zk ad)) : ag ≠ al)); have dk := zK ((by rw [hg]; exact Nat.ne_of_gt (blk_lt (g := ag) (o := .cells #[.slice (some an) ae.length az, .int .i64 aj, .slice aQ ah.length aP, .slice av ai.length ar] 28 (0, 0)) (zk ad)) : al ≠ ag)); have dl := zK ((by rw [hg]; exact Nat.ne_of_lt (blk_lt (g := af) (o := .cells #[.slice ay ap.length ax, .int .i64 aH, .slice aD aA.length aE, .slice aF aC.length aG] 28 (0, 0)) (zk am)) : af ≠ al)); have dm := zK ((by rw [hg]; exact Nat.ne_of_gt (blk_lt (g := af) (o := .cells #[.slice ay ap.length ax, .int .i64 aH, .slice aD aA.length aE, .slice aF aC.length aG] 28 (0, 0)) (zk am)) : al ≠ af)); clear aa; clear ab; clear ac; clear aL; clear aR; clear aS; clear a9; clear bq; clear br; clear ad; clear am; clear HB; have aa := aU; have ab := aV; have ac := aW; have aL := aX; have aR := a2; have aS := bx; have a9 := bz; have bq := bC; have br := cy; have ad := cz; have am := bo; have HB := bp; have aw := bD; have GW453 := dh; have cA := di; have aN := dj; have bd := dk; have aO := dl; have be := dm; clear aU aV aW aX a2 bx bz bC cy cz bo bp bD dh di dj dk dl dm; clear hb hbox hg; obtain ⟨aK, aI, eo41⟩ := Kd.R_slice a9.out; subst eo41; have hnb42 := bd.out; have hnc42 := aN.out; have hnb43 := be.out; have hnc43 := aO.out; have cn : bu.cell? ⟨al, 0, none⟩ = some (.slice none 0 0) := (blk_cell aw.out 0).trans rfl; have co : bu.cell? ⟨al, 1, none⟩ = some (.int .i64 0) := (blk_cell aw.out 1).trans rfl; have cp : bu.cell? ⟨al, 2, none⟩ = some (.slice none 0 0) := (blk_cell aw.out 2).trans rfl; have cq : bu.cell? ⟨al, 3, none⟩ = some (.slice none 0 0) := (blk_cell aw.out 3).trans rfl; have cr := blk_frozen aw.out 0; have ct := blk_frozen aw.out 1; have cu := blk_frozen aw.out 2; have cv := blk_frozen aw.out 3; obtain ⟨aZ, a0, eo45⟩ := Kd.S_slice bq.out; subst eo45; obtain ⟨a4, a5, eo46⟩ := Kd.S_slice br.out; subst eo46))
            (try simp only [Act.put, zp, zq, zr])
            go_cut [93] (fun v93 wc => ∃ (kq : Nat) (bh : Bool), v93 = .bool bh ∧ Aside0 (laws_FnLoopSorts.j3 kq (wrap64 (ao + 1)) ak bh ae aj ah ai = some r) ∧ Aside0 (kq ≤ kj23) ∧ Aside0 (Kd.R (Kd.int .i64) 3 wc w.heap.size (fun k_ => some k_ ≠ ((.slice ay ap.length ax) : Value).ownBlock ∧ some k_ ≠ ((.slice aK aB.length aI) : Value).ownBlock) (.slice (some an) ae.length az) ae) ∧ Aside0 (Kd.S k69 69 wc w.heap.size (fun k_ => some k_ ≠ ((.slice (some an) ae.length az) : Value).ownBlock ∧ some k_ ≠ ((.slice ay ap.length ax) : Value).ownBlock ∧ some k_ ≠ ((.slice aD aA.length aE) : Value).ownBlock ∧ some k_ ≠ ((.slice aK aB.length aI) : Value).ownBlock ∧ some k_ ≠ ((.slice aZ aT.length a0) : Value).ownBlock) (.slice aQ ah.length aP) ah) ∧ Aside0 (Kd.S k74 74 wc w.heap.size (fun k_ => some k_ ≠ ((.slice (some an) ae.length az) : Value).ownBlock ∧ some k_ ≠ ((.slice ay ap.length ax) : Value).ownBlock ∧ some k_ ≠ ((.slice aF aC.length aG) : Value).ownBlock ∧ some k_ ≠ ((.slice aK aB.length aI) : Value).ownBlock ∧ some k_ ≠ ((.slice a4 aY.length a5) : Value).ownBlock) (.slice av ai.length ar) ai) ∧ Aside0 (Kd.R (Kd.int .i64) 3 wc w.heap.size (fun k_ => some k_ ≠ ((.slice (some an) ae.length az) : Value).ownBlock ∧ some k_ ≠ ((.slice aK aB.length aI) : Value).ownBlock) (.slice ay ap.length ax) ap) ∧ Aside0 (Kd.S k69 69 wc w.heap.size (fun k_ => some k_ ≠ ((.slice (some an) ae.length az) : Value).ownBlock ∧ some k_ ≠ ((.slice aQ ah.length aP) : Value).ownBlock ∧ some k_ ≠ ((.slice ay ap.length ax) : Value).ownBlock ∧ some k_ ≠ ((.slice aK aB.length aI) : Value).ownBlock ∧ some k_ ≠ ((.slice aZ aT.length a0) : Value).ownBlock) (.slice aD aA.length aE) aA) ∧ Aside0 (Kd.S k74 74 wc w.heap.size (fun k_ => some k_ ≠ ((.slice (some an) ae.length az) : Value).ownBlock ∧ some k_ ≠ ((.slice av ai.length ar) : Value).ownBlock ∧ some k_ ≠ ((.slice ay ap.length ax) : Value).ownBlock ∧ some k_ ≠ ((.slice aK aB.length aI) : Value).ownBlock ∧ some k_ ≠ ((.slice a4 aY.length a5) : Value).ownBlock) (.slice aF aC.length aG) aC) ∧ Aside0 (Kd.R (Kd.int .i64) 3 wc w.heap.size (fun k_ => some k_ ≠ ((.slice (some an) ae.length az) : Value).ownBlock ∧ some k_ ≠ ((.slice ay ap.length ax) : Value).ownBlock) (.slice aK aB.length aI) aB) ∧ Aside0 (Kd.S k69 69 wc w.heap.size (fun k_ => some k_ ≠ ((.slice (some an) ae.length az) : Value).ownBlock ∧ some k_ ≠ ((.slice aQ ah.length aP) : Value).ownBlock ∧ some k_ ≠ ((.slice ay ap.length ax) : Value).ownBlock ∧ some k_ ≠ ((.slice aD aA.length aE) : Value).ownBlock ∧ some k_ ≠ ((.slice aK aB.length aI) : Value).ownBlock) (.slice aZ aT.length a0) aT) ∧ Aside0 (Kd.S k74 74 wc w.heap.size (fun k_ => some k_ ≠ ((.slice (some an) ae.length az) : Value).ownBlock ∧ some k_ ≠ ((.slice av ai.length ar) : Value).ownBlock ∧ some k_ ≠ ((.slice ay ap.length ax) : Value).ownBlock ∧ some k_ ≠ ((.slice aF aC.length aG) : Value).ownBlock ∧ some k_ ≠ ((.slice aK aB.length aI) : Value).ownBlock) (.slice a4 aY.length a5) aY) ∧ Aside0 (wc.heap[ag]? = some (.cells #[(.slice (some an) ae.length az), .int .i64 aj, (.slice aQ ah.length aP), (.slice av ai.length ar)] 28 (0, 0))) ∧ Aside0 (wc.heap[af]? = some (.cells #[(.slice ay ap.length ax), .int .i64 aH, (.slice aD aA.length aE), (.slice aF aC.length aG)] 28 (0, 0))) ∧ Aside0 (wc.heap[al]? = some (.cells #[(.slice aK aB.length aI), .int .i64 a3, (.slice aZ aT.length a0), (.slice a4 aY.length a5)] 28 (0, 0))) ∧ Aside0 (Below w.heap.size w wc))
            case first =>
             have H := cN.out; clear cN; replace H := Option.bind_eq_some_iff.mp H
             obtain ⟨bn, dn, H⟩ := H
             replace H : (if bn = true then (laws_FnLoopSorts.j3 kj23 (wrap64 (ao + 1)) ak true ae aj ah ai) else ((laws_has.f kj23 aB (rd ae ak)).bind fun a7 => (if a7 = true then (if aq < 1 then (laws_FnLoopSorts.j3 kj23 (wrap64 (ao + 1)) ak true ae aj ah ai) else (laws_FnLoopSorts.j3 kj23 (wrap64 (ao + 1)) ak (decide (aq > (ae.length : Int))) ae aj ah ai)) else (laws_FnLoopSorts.j3 kj23 (wrap64 (ao + 1)) ak true ae aj ah ai)))) = some r := H
             have A47 := zK dn; clear dn
             by_cases c48 : bn = true
             ·subst c48
              have H1 : (laws_FnLoopSorts.j3 kj23 (wrap64 (ao + 1)) ak true ae aj ah ai) = some r := by rw [if_pos rfl] at H; exact H
              clear H; have H := H1; clear H1
              exact absurd (H.trans (congrArg some hrt.out)) (by cases kj23 <;> simp [laws_FnLoopSorts.j3])
             ·replace c48 := Bool.eq_false_iff.mpr c48
              subst c48
              have H1 : ((laws_has.f kj23 aB (rd ae ak)).bind fun a7 => (if a7 = true then (if aq < 1 then (laws_FnLoopSorts.j3 kj23 (wrap64 (ao + 1)) ak true ae aj ah ai) else (laws_FnLoopSorts.j3 kj23 (wrap64 (ao + 1)) ak (decide (aq > (ae.length : Int))) ae aj ah ai)) else (laws_FnLoopSorts.j3 kj23 (wrap64 (ao + 1)) ak true ae aj ah ai))) = some r := by rw [if_neg (show ¬ (false = true) by decide)] at H; exact H
              clear H; have H := H1; clear H1; replace H := Option.bind_eq_some_iff.mp H
              obtain ⟨a7, dp, H⟩ := H
              replace H : (if a7 = true then (if aq < 1 then (laws_FnLoopSorts.j3 kj23 (wrap64 (ao + 1)) ak true ae aj ah ai) else (laws_FnLoopSorts.j3 kj23 (wrap64 (ao + 1)) ak (decide (aq > (ae.length : Int))) ae aj ah ai)) else (laws_FnLoopSorts.j3 kj23 (wrap64 (ao + 1)) ak true ae aj ah ai)) = some r := H
              have A49 := zK dp; clear dp
              by_cases c50 : a7 = true
              ·subst c50
               have H1 : (if aq < 1 then (laws_FnLoopSorts.j3 kj23 (wrap64 (ao + 1)) ak true ae aj ah ai) else (laws_FnLoopSorts.j3 kj23 (wrap64 (ao + 1)) ak (decide (aq > (ae.length : Int))) ae aj ah ai)) = some r := by rw [if_pos rfl] at H; exact H
               clear H; have H := H1; clear H1
               by_cases cQ : aq < 1
               ·rw [if_pos cQ] at H
                have bs : decide (aq < 1) = true := decide_eq_true cQ
                clear cQ
                (first | rw [bs] | (simp only [i64_w, i32_w]; rw [bs]) | skip)
                exact absurd (H.trans (congrArg some hrt.out)) (by cases kj23 <;> simp [laws_FnLoopSorts.j3])
               ·rw [if_neg cQ] at H
                have bs : decide (aq < 1) = false := decide_eq_false cQ
                clear cQ
                (first | rw [bs] | (simp only [i64_w, i32_w]; rw [bs]) | skip)
                have H' := zK H; clear H; have hnb52 := bc.out; have hnc52 := aM.out; have hnb53 := aO.out; have hnc53 := be.out
                have hcz54_0 : bu.cell? ⟨af, 0, none⟩ = some (.slice ay ap.length ax) := (blk_cell am.out 0).trans rfl
                have hcz54_1 : bu.cell? ⟨af, 1, none⟩ = some (.int .i64 aH) := (blk_cell am.out 1).trans rfl
                have hcz54_2 : bu.cell? ⟨af, 2, none⟩ = some (.slice aD aA.length aE) := (blk_cell am.out 2).trans rfl
                have hcz54_3 : bu.cell? ⟨af, 3, none⟩ = some (.slice aF aC.length aG) := (blk_cell am.out 3).trans rfl
                have hfz54_0 := blk_frozen am.out 0; have hfz54_1 := blk_frozen am.out 1; have hfz54_2 := blk_frozen am.out 2; have hfz54_3 := blk_frozen am.out 3
                go_wp2_with (first | ((with_reducible refine gate_callee (f := 20) rfl ?_); refine goesL_ (some 75) rfl rfl Try.func20 (by kernel_rfl) rfl #[.slice ay ap.length ax, .int .i64 (rd ae ak)] rfl zg ?_; (with_reducible refine (laws_has.calls kj23 _ _ ap (rd ae ak) false _ ?side1 ?side2 A47.out).mono ?_); (case side1 => refine (Kd.R_reads' (e := 3) (base := w.heap.size) (ok := fun k_ => ((True ∧ some k_ ≠ (.slice (some an) ae.length az : Value).ownBlock) ∧ some k_ ≠ (.slice aK aB.length aI : Value).ownBlock)) (n := ap.length) (c := ax) ?_).2.2; exact (by (with_reducible repeat (first | apply Kd.R_alloc | apply Kd.R_drewN | apply Kd.R_drew)); exact (Kd.R_mono (Kd.R_far (p := ⟨al, 3, none⟩) (Kd.R_far (p := ⟨al, 2, none⟩) (Kd.R_far (p := ⟨al, 1, none⟩) (Kd.R_far (p := ⟨al, 0, none⟩) (Kd.R_types aL.out aw.out (by decide)) (fun _ hk => hk.2) (.slice aK aB.length aI)) (fun _ hk => hk.2) (.int .i64 a3)) (fun _ hk => hk.2) (.slice aZ aT.length a0)) (fun _ hk => hk.2) (.slice a4 aY.length a5)) (fun _ h_ => h_.1)))); (case side2 => exact (Kd.R_reads' aL.out).2.1); rintro e w' ⟨rfl, ⟨nd, rfl⟩⟩; refine ⟨_, rfl, ?_⟩; have hnb55 := bd.out; have hnc55 := aN.out; have hcz56_0 : bu.cell? ⟨al, 0, none⟩ = some (.slice none 0 0) := (blk_cell aw.out 0).trans rfl; have hcz56_1 : bu.cell? ⟨al, 1, none⟩ = some (.int .i64 0) := (blk_cell aw.out 1).trans rfl; have hcz56_2 : bu.cell? ⟨al, 2, none⟩ = some (.slice none 0 0) := (blk_cell aw.out 2).trans rfl; have hcz56_3 : bu.cell? ⟨al, 3, none⟩ = some (.slice none 0 0) := (blk_cell aw.out 3).trans rfl; have hfz56_0 := blk_frozen aw.out 0; have hfz56_1 := blk_frozen aw.out 1; have hfz56_2 := blk_frozen aw.out 2; have hfz56_3 := blk_frozen aw.out 3) | (go_at_call 20; (with_reducible refine (laws_has.calls kj23 _ _ aB (rd ae ak) true _ ?side1 ?side2 A49.out).mono ?_); (case side1 => refine (Kd.R_reads' (e := 3) (base := w.heap.size) (ok := fun k_ => ((True ∧ some k_ ≠ (.slice (some an) ae.length az : Value).ownBlock) ∧ some k_ ≠ (.slice ay ap.length ax : Value).ownBlock)) (n := aB.length) (c := aI) ?_).2.2; exact (by (with_reducible repeat (first | apply Kd.R_alloc | apply Kd.R_drewN | apply Kd.R_drew)); exact (Kd.R_mono (Kd.R_far (p := ⟨al, 3, none⟩) (Kd.R_far (p := ⟨al, 2, none⟩) (Kd.R_far (p := ⟨al, 1, none⟩) (Kd.R_far (p := ⟨al, 0, none⟩) (Kd.R_types a9.out aw.out (by decide)) (fun _ hk => hk.2) (.slice aK aB.length aI)) (fun _ hk => hk.2) (.int .i64 a3)) (fun _ hk => hk.2) (.slice aZ aT.length a0)) (fun _ hk => hk.2) (.slice a4 aY.length a5)) (fun _ h_ => h_.1)))); (case side2 => exact (Kd.R_reads' a9.out).2.1); rintro e w' ⟨rfl, ⟨nd, rfl⟩⟩; have hcz57_0 : bu.cell? ⟨ag, 0, none⟩ = some (.slice (some an) ae.length az) := (blk_cell ad.out 0).trans rfl; have hcz57_1 : bu.cell? ⟨ag, 1, none⟩ = some (.int .i64 aj) := (blk_cell ad.out 1).trans rfl; have hcz57_2 : bu.cell? ⟨ag, 2, none⟩ = some (.slice aQ ah.length aP) := (blk_cell ad.out 2).trans rfl; have hcz57_3 : bu.cell? ⟨ag, 3, none⟩ = some (.slice av ai.length ar) := (blk_cell ad.out 3).trans rfl; have hfz57_0 := blk_frozen ad.out 0; have hfz57_1 := blk_frozen ad.out 1; have hfz57_2 := blk_frozen ad.out 2; have hfz57_3 := blk_frozen ad.out 3))
                go_meet
                case rel => exact ⟨_, (decide (aq > (ae.length : Int))), zf, H', ⟨by have := bF.out; have := bw.out; have := bB.out; first | omega | exact Nat.le_refl _⟩, ⟨by (with_reducible repeat (first | apply Kd.R_alloc | apply Kd.R_drewN | apply Kd.R_drew)); exact Kd.R_mono (Kd.R_far (p := ⟨al, 3, none⟩) (Kd.R_far (p := ⟨al, 2, none⟩) (Kd.R_far (p := ⟨al, 1, none⟩) (Kd.R_far (p := ⟨al, 0, none⟩) (Kd.R_types aa.out aw.out (by decide)) (fun _ hk => hk.2) (.slice aK aB.length aI)) (fun _ hk => hk.2) (.int .i64 a3)) (fun _ hk => hk.2) (.slice aZ aT.length a0)) (fun _ hk => hk.2) (.slice a4 aY.length a5)) (fun _ hk => ⟨hk.1.1.2, hk.1.2⟩)⟩, ⟨by (with_reducible repeat (first | apply Kd.S_alloc | apply Kd.S_drewN | apply Kd.S_drew)); exact Kd.S_mono (Kd.S_far (p := ⟨al, 3, none⟩) (Kd.S_far (p := ⟨al, 2, none⟩) (Kd.S_far (p := ⟨al, 1, none⟩) (Kd.S_far (p := ⟨al, 0, none⟩) (Kd.S_types ab.out aw.out (by decide)) (fun _ hk => hk.2) (.slice aK aB.length aI)) (fun _ hk => hk.2) (.int .i64 a3)) (fun _ hk => hk.2) (.slice aZ aT.length a0)) (fun _ hk => hk.2) (.slice a4 aY.length a5)) (fun _ hk => ⟨hk.1.1.1.1.1, ⟨hk.1.1.1.1.2, ⟨hk.1.1.1.2, ⟨hk.1.1.2, hk.1.2⟩⟩⟩⟩)⟩, ⟨by (with_reducible repeat (first | apply Kd.S_alloc | apply Kd.S_drewN | apply Kd.S_drew)); exact Kd.S_mono (Kd.S_far (p := ⟨al, 3, none⟩) (Kd.S_far (p := ⟨al, 2, none⟩) (Kd.S_far (p := ⟨al, 1, none⟩) (Kd.S_far (p := ⟨al, 0, none⟩) (Kd.S_types ac.out aw.out (by decide)) (fun _ hk => hk.2) (.slice aK aB.length aI)) (fun _ hk => hk.2) (.int .i64 a3)) (fun _ hk => hk.2) (.slice aZ aT.length a0)) (fun _ hk => hk.2) (.slice a4 aY.length a5)) (fun _ hk => ⟨hk.1.1.1.1.1, ⟨hk.1.1.1.1.2, ⟨hk.1.1.1.2, ⟨hk.1.1.2, hk.1.2⟩⟩⟩⟩)⟩, ⟨by (with_reducible repeat (first | apply Kd.R_alloc | apply Kd.R_drewN | apply Kd.R_drew)); exact Kd.R_mono (Kd.R_far (p := ⟨al, 3, none⟩) (Kd.R_far (p := ⟨al, 2, none⟩) (Kd.R_far (p := ⟨al, 1, none⟩) (Kd.R_far (p := ⟨al, 0, none⟩) (Kd.R_types aL.out aw.out (by decide)) (fun _ hk => hk.2) (.slice aK aB.length aI)) (fun _ hk => hk.2) (.int .i64 a3)) (fun _ hk => hk.2) (.slice aZ aT.length a0)) (fun _ hk => hk.2) (.slice a4 aY.length a5)) (fun _ hk => ⟨hk.1.1.2, hk.1.2⟩)⟩, ⟨by (with_reducible repeat (first | apply Kd.S_alloc | apply Kd.S_drewN | apply Kd.S_drew)); exact Kd.S_mono (Kd.S_far (p := ⟨al, 3, none⟩) (Kd.S_far (p := ⟨al, 2, none⟩) (Kd.S_far (p := ⟨al, 1, none⟩) (Kd.S_far (p := ⟨al, 0, none⟩) (Kd.S_types aR.out aw.out (by decide)) (fun _ hk => hk.2) (.slice aK aB.length aI)) (fun _ hk => hk.2) (.int .i64 a3)) (fun _ hk => hk.2) (.slice aZ aT.length a0)) (fun _ hk => hk.2) (.slice a4 aY.length a5)) (fun _ hk => ⟨hk.1.1.1.1.2, ⟨hk.1.1.1.2, ⟨hk.1.1.1.1.1, ⟨hk.1.1.2, hk.1.2⟩⟩⟩⟩)⟩, ⟨by (with_reducible repeat (first | apply Kd.S_alloc | apply Kd.S_drewN | apply Kd.S_drew)); exact Kd.S_mono (Kd.S_far (p := ⟨al, 3, none⟩) (Kd.S_far (p := ⟨al, 2, none⟩) (Kd.S_far (p := ⟨al, 1, none⟩) (Kd.S_far (p := ⟨al, 0, none⟩) (Kd.S_types aS.out aw.out (by decide)) (fun _ hk => hk.2) (.slice aK aB.length aI)) (fun _ hk => hk.2) (.int .i64 a3)) (fun _ hk => hk.2) (.slice aZ aT.length a0)) (fun _ hk => hk.2) (.slice a4 aY.length a5)) (fun _ hk => ⟨hk.1.1.1.1.2, ⟨hk.1.1.1.2, ⟨hk.1.1.1.1.1, ⟨hk.1.1.2, hk.1.2⟩⟩⟩⟩)⟩, ⟨by (with_reducible repeat (first | apply Kd.R_alloc | apply Kd.R_drewN | apply Kd.R_drew)); exact Kd.R_mono (Kd.R_far (p := ⟨al, 3, none⟩) (Kd.R_far (p := ⟨al, 2, none⟩) (Kd.R_far (p := ⟨al, 1, none⟩) (Kd.R_far (p := ⟨al, 0, none⟩) (Kd.R_types a9.out aw.out (by decide)) (fun _ hk => hk.2) (.slice aK aB.length aI)) (fun _ hk => hk.2) (.int .i64 a3)) (fun _ hk => hk.2) (.slice aZ aT.length a0)) (fun _ hk => hk.2) (.slice a4 aY.length a5)) (fun _ hk => ⟨hk.1.1.2, hk.1.2⟩)⟩, ⟨by (with_reducible repeat (first | apply Kd.S_alloc | apply Kd.S_drewN | apply Kd.S_drew)); exact Kd.S_mono (Kd.S_far (p := ⟨al, 3, none⟩) (Kd.S_far (p := ⟨al, 2, none⟩) (Kd.S_far (p := ⟨al, 1, none⟩) (Kd.S_far (p := ⟨al, 0, none⟩) (Kd.S_types bq.out aw.out (by decide)) (fun _ hk => hk.2) (.slice aK aB.length aI)) (fun _ hk => hk.2) (.int .i64 a3)) (fun _ hk => hk.2) (.slice aZ aT.length a0)) (fun _ hk => hk.2) (.slice a4 aY.length a5)) (fun _ hk => ⟨hk.1.1.1.1.2, ⟨hk.1.1.1.2, ⟨hk.1.1.2, ⟨hk.1.2, hk.1.1.1.1.1⟩⟩⟩⟩)⟩, ⟨by (with_reducible repeat (first | apply Kd.S_alloc | apply Kd.S_drewN | apply Kd.S_drew)); exact Kd.S_mono (Kd.S_far (p := ⟨al, 3, none⟩) (Kd.S_far (p := ⟨al, 2, none⟩) (Kd.S_far (p := ⟨al, 1, none⟩) (Kd.S_far (p := ⟨al, 0, none⟩) (Kd.S_types br.out aw.out (by decide)) (fun _ hk => hk.2) (.slice aK aB.length aI)) (fun _ hk => hk.2) (.int .i64 a3)) (fun _ hk => hk.2) (.slice aZ aT.length a0)) (fun _ hk => hk.2) (.slice a4 aY.length a5)) (fun _ hk => ⟨hk.1.1.1.1.2, ⟨hk.1.1.1.2, ⟨hk.1.1.2, ⟨hk.1.2, hk.1.1.1.1.1⟩⟩⟩⟩)⟩, ⟨zh ad aN⟩, ⟨zh am aO⟩, ⟨by (with_reducible repeat (first | refine zN ?_ _ | refine zD ?_ | refine zA ?_ _)); refine blk_put (cs := #[.slice aK aB.length aI, .int .i64 a3, .slice aZ aT.length a0, .slice none 0 0]) ?_ 3 _ rfl; (with_reducible repeat (first | refine zN ?_ _ | refine zD ?_ | refine zA ?_ _)); refine blk_put (cs := #[.slice aK aB.length aI, .int .i64 a3, .slice none 0 0, .slice none 0 0]) ?_ 2 _ rfl; (with_reducible repeat (first | refine zN ?_ _ | refine zD ?_ | refine zA ?_ _)); refine blk_put (cs := #[.slice aK aB.length aI, .int .i64 0, .slice none 0 0, .slice none 0 0]) ?_ 1 _ rfl; (with_reducible repeat (first | refine zN ?_ _ | refine zD ?_ | refine zA ?_ _)); refine blk_put (cs := #[.slice none 0 0, .int .i64 0, .slice none 0 0, .slice none 0 0]) ?_ 0 _ rfl; (with_reducible repeat (first | refine zN ?_ _ | refine zD ?_ | refine zA ?_ _)); exact aw.out⟩, ⟨zb HB⟩⟩
              ·replace c50 := Bool.eq_false_iff.mpr c50
               subst c50
               have H1 : (laws_FnLoopSorts.j3 kj23 (wrap64 (ao + 1)) ak true ae aj ah ai) = some r := by rw [if_neg (show ¬ (false = true) by decide)] at H; exact H
               clear H; have H := H1; clear H1
               exact absurd (H.trans (congrArg some hrt.out)) (by cases kj23 <;> simp [laws_FnLoopSorts.j3])
            case rest =>
             clear cN bZ b0 b1 b2 b7 b8 b9 ca cf cg ch ci cn co cp cq b3 b4 b5 b6 cb cc cd ce cj ck cl cm cr ct cu cv
             obtain ⟨kq, bh, rfl, HA, dq, aa, ab, ac, cR, cS, cT, cU, cV, cW, ad, am, aw, HB⟩ := hcut
             cases kq with
             | zero => exact absurd HA.out (by simp [laws_FnLoopSorts.j3])
             | succ kj28 =>
              have H := HA.out; clear HA
              simp only [laws_FnLoopSorts.j3] at H
              by_cases c58 : bh = true
              ·subst c58
               have H1 : (some false) = some r := by rw [if_pos rfl] at H; exact H
               clear H; have H := H1; clear H1
               exact absurd (H.trans (congrArg some hrt.out)) (by simp)
              ·replace c58 := Bool.eq_false_iff.mpr c58
               subst c58
               have H1 : (laws_FnLoopSorts.l0 kj28 (wrap64 (ao + 1)) (wrap64 (ak + 1)) ae aj ah ai) = some r := by rw [if_neg (show ¬ (false = true) by decide)] at H; exact H
               clear H; have H := H1; clear H1; have H' := zK H; clear H
               go_wp2
               go_roundg kj28
               case measure => have := bF.out; have := bw.out; have := bB.out; have := dq.out; omega
               case rel => exact ⟨((wrap64 (ao + 1))), (wrap64 (ak + 1)), zf, zf, H', ⟨by have := bF.out; have := bw.out; have := bB.out; have := dq.out; omega⟩, ⟨by (with_reducible repeat (first | apply Kd.R_alloc | apply Kd.R_drewN | apply Kd.R_drew)); exact Kd.R_mono aa.out (fun _ hk => trivial)⟩, ⟨by (with_reducible repeat (first | apply Kd.S_alloc | apply Kd.S_drewN | apply Kd.S_drew)); exact Kd.S_mono ab.out (fun _ hk => hk.1)⟩, ⟨by (with_reducible repeat (first | apply Kd.S_alloc | apply Kd.S_drewN | apply Kd.S_drew)); exact Kd.S_mono ac.out (fun _ hk => hk.1)⟩, ⟨zk ad⟩, ⟨zb HB⟩⟩
     ·rw [if_neg c12] at H
      exact absurd H (by simp)
    ·rw [if_neg cP] at H
     have cw : decide (ak < (ae.length : Int)) = false := decide_eq_false cP
     clear cP; replace H := Option.bind_eq_some_iff.mp H
     obtain ⟨a1, dr, H⟩ := H
     replace H : ((spec_MostSorted.f k1 ae aj ah ai).bind fun bb => (if a1 = bb then (if a1 < 0 then (some true) else (some (decide (ao ≤ a1)))) else (some false))) = some r := H
     have A59 := zK dr; clear dr; replace H := Option.bind_eq_some_iff.mp H
     obtain ⟨bb, ds, H⟩ := H
     replace H : (if a1 = bb then (if a1 < 0 then (some true) else (some (decide (ao ≤ a1)))) else (some false)) = some r := H
     have A60 := zK ds; clear ds
     by_cases cO : a1 = bb
     ·rw [if_pos cO] at H
      have dt : (a1 == bb) = true := beq_iff_eq.mpr cO
      have du : (a1 != bb) = false := bne_eq_false_iff_eq.mpr cO
      clear cO
      by_cases cX : a1 < 0
      ·rw [if_pos cX] at H
       have dv : decide (a1 < 0) = true := decide_eq_true cX
       clear cX; obtain rfl := Option.some.inj H
       have hcz63_0 : wr.cell? ⟨ag, 0, none⟩ = some (.slice a8 ae.length az) := (blk_cell ad.out 0).trans rfl
       have hcz63_1 : wr.cell? ⟨ag, 1, none⟩ = some (.int .i64 aj) := (blk_cell ad.out 1).trans rfl
       have hcz63_2 : wr.cell? ⟨ag, 2, none⟩ = some (.slice aQ ah.length aP) := (blk_cell ad.out 2).trans rfl
       have hcz63_3 : wr.cell? ⟨ag, 3, none⟩ = some (.slice av ai.length ar) := (blk_cell ad.out 3).trans rfl
       have hfz63_0 := blk_frozen ad.out 0; have hfz63_1 := blk_frozen ad.out 1; have hfz63_2 := blk_frozen ad.out 2; have hfz63_3 := blk_frozen ad.out 3
       go_wp2_with (first | ((with_reducible refine gate_callee (f := 21) rfl ?_); refine goesL_ (some 95) rfl rfl Try.func21 (by kernel_rfl) rfl #[.agg #[.slice a8 ae.length az, .int .i64 aj, .slice aQ ah.length aP, .slice av ai.length ar]] rfl zg ?_; (with_reducible refine (impl_MostSorted.calls k1 _ _ ae aj _ _ ah _ _ ai a1 _ ?side1 ?side2 ?side3 ?side4 ?side5 ?side6 A59.out).mono ?_); (case side1 => exact zs (Kd.R_reads' aa.out).2.2); (case side2 => exact (Kd.R_reads' aa.out).2.1); (case side3 => exact zs (Kd.S_reads' ab.out).2.2); (case side4 => exact (Kd.S_reads' ab.out).2.1); (case side5 => exact zs (Kd.S_reads' ac.out).2.2); (case side6 => exact (Kd.S_reads' ac.out).2.1); rintro e w64 ⟨rfl, hb⟩; refine ⟨_, rfl, ?_⟩; have aU := zK (Kd.R_below (zR aa) hb); have aV := zK (Kd.S_below (zT ab) hb); have aW := zK (Kd.S_below (zT ac) hb); have aX := zK (blk_below (g := ag) (o := .cells #[.slice a8 ae.length az, .int .i64 aj, .slice aQ ah.length aP, .slice av ai.length ar] 28 (0, 0)) (zk ad) hb); have a2 := zK (below_step (zb HB) hb); clear aa; clear ab; clear ac; clear ad; clear HB; have aa := aU; have ab := aV; have ac := aW; have ad := aX; have HB := a2; clear aU aV aW aX a2; (try clear hb); have hcz65_0 : w64.cell? ⟨ag, 0, none⟩ = some (.slice a8 ae.length az) := (blk_cell ad.out 0).trans rfl; have hcz65_1 : w64.cell? ⟨ag, 1, none⟩ = some (.int .i64 aj) := (blk_cell ad.out 1).trans rfl; have hcz65_2 : w64.cell? ⟨ag, 2, none⟩ = some (.slice aQ ah.length aP) := (blk_cell ad.out 2).trans rfl; have hcz65_3 : w64.cell? ⟨ag, 3, none⟩ = some (.slice av ai.length ar) := (blk_cell ad.out 3).trans rfl; have hfz65_0 := blk_frozen ad.out 0; have hfz65_1 := blk_frozen ad.out 1; have hfz65_2 := blk_frozen ad.out 2; have hfz65_3 := blk_frozen ad.out 3) | ((with_reducible refine gate_callee (f := 22) rfl ?_); refine goesL_ (some 98) rfl rfl Try.func22 (by kernel_rfl) rfl #[.agg #[.slice a8 ae.length az, .int .i64 aj, .slice aQ ah.length aP, .slice av ai.length ar]] rfl zg ?_; (with_reducible refine (spec_MostSorted.calls k1 _ _ ae aj _ _ ah _ _ ai bb _ ?side1 ?side2 ?side3 ?side4 ?side5 ?side6 A60.out).mono ?_); (case side1 => exact zs (Kd.R_reads' aa.out).2.2); (case side2 => exact (Kd.R_reads' aa.out).2.1); (case side3 => exact zs (Kd.S_reads' ab.out).2.2); (case side4 => exact (Kd.S_reads' ab.out).2.1); (case side5 => exact zs (Kd.S_reads' ac.out).2.2); (case side6 => exact (Kd.S_reads' ac.out).2.1); rintro e w66 ⟨rfl, hb⟩; refine ⟨_, rfl, ?_⟩; have aU := zK (Kd.R_below (zR aa) hb); have aV := zK (Kd.S_below (zT ab) hb); have aW := zK (Kd.S_below (zT ac) hb); have aX := zK (blk_below (g := ag) (o := .cells #[.slice a8 ae.length az, .int .i64 aj, .slice aQ ah.length aP, .slice av ai.length ar] 28 (0, 0)) (zk ad) hb); have a2 := zK (below_step (zb HB) hb); clear aa; clear ab; clear ac; clear ad; clear HB; have aa := aU; have ab := aV; have ac := aW; have ad := aX; have HB := a2; clear aU aV aW aX a2; (try clear hb)))
       go_ret
       exact ⟨ze, zb HB⟩
      ·rw [if_neg cX] at H
       have dv : decide (a1 < 0) = false := decide_eq_false cX
       clear cX; obtain rfl := Option.some.inj H
       have hcz67_0 : wr.cell? ⟨ag, 0, none⟩ = some (.slice a8 ae.length az) := (blk_cell ad.out 0).trans rfl
       have hcz67_1 : wr.cell? ⟨ag, 1, none⟩ = some (.int .i64 aj) := (blk_cell ad.out 1).trans rfl
       have hcz67_2 : wr.cell? ⟨ag, 2, none⟩ = some (.slice aQ ah.length aP) := (blk_cell ad.out 2).trans rfl
       have hcz67_3 : wr.cell? ⟨ag, 3, none⟩ = some (.slice av ai.length ar) := (blk_cell ad.out 3).trans rfl
       have hfz67_0 := blk_frozen ad.out 0; have hfz67_1 := blk_frozen ad.out 1; have hfz67_2 := blk_frozen ad.out 2; have hfz67_3 := blk_frozen ad.out 3
       go_wp2_with (first | ((with_reducible refine gate_callee (f := 21) rfl ?_); refine goesL_ (some 95) rfl rfl Try.func21 (by kernel_rfl) rfl #[.agg #[.slice a8 ae.length az, .int .i64 aj, .slice aQ ah.length aP, .slice av ai.length ar]] rfl zg ?_; (with_reducible refine (impl_MostSorted.calls k1 _ _ ae aj _ _ ah _ _ ai a1 _ ?side1 ?side2 ?side3 ?side4 ?side5 ?side6 A59.out).mono ?_); (case side1 => exact zs (Kd.R_reads' aa.out).2.2); (case side2 => exact (Kd.R_reads' aa.out).2.1); (case side3 => exact zs (Kd.S_reads' ab.out).2.2); (case side4 => exact (Kd.S_reads' ab.out).2.1); (case side5 => exact zs (Kd.S_reads' ac.out).2.2); (case side6 => exact (Kd.S_reads' ac.out).2.1); rintro e w68 ⟨rfl, hb⟩; refine ⟨_, rfl, ?_⟩; have aU := zK (Kd.R_below (zR aa) hb); have aV := zK (Kd.S_below (zT ab) hb); have aW := zK (Kd.S_below (zT ac) hb); have aX := zK (blk_below (g := ag) (o := .cells #[.slice a8 ae.length az, .int .i64 aj, .slice aQ ah.length aP, .slice av ai.length ar] 28 (0, 0)) (zk ad) hb); have a2 := zK (below_step (zb HB) hb); clear aa; clear ab; clear ac; clear ad; clear HB; have aa := aU; have ab := aV; have ac := aW; have ad := aX; have HB := a2; clear aU aV aW aX a2; (try clear hb); have hcz69_0 : w68.cell? ⟨ag, 0, none⟩ = some (.slice a8 ae.length az) := (blk_cell ad.out 0).trans rfl; have hcz69_1 : w68.cell? ⟨ag, 1, none⟩ = some (.int .i64 aj) := (blk_cell ad.out 1).trans rfl; have hcz69_2 : w68.cell? ⟨ag, 2, none⟩ = some (.slice aQ ah.length aP) := (blk_cell ad.out 2).trans rfl; have hcz69_3 : w68.cell? ⟨ag, 3, none⟩ = some (.slice av ai.length ar) := (blk_cell ad.out 3).trans rfl; have hfz69_0 := blk_frozen ad.out 0; have hfz69_1 := blk_frozen ad.out 1; have hfz69_2 := blk_frozen ad.out 2; have hfz69_3 := blk_frozen ad.out 3) | ((with_reducible refine gate_callee (f := 22) rfl ?_); refine goesL_ (some 98) rfl rfl Try.func22 (by kernel_rfl) rfl #[.agg #[.slice a8 ae.length az, .int .i64 aj, .slice aQ ah.length aP, .slice av ai.length ar]] rfl zg ?_; (with_reducible refine (spec_MostSorted.calls k1 _ _ ae aj _ _ ah _ _ ai bb _ ?side1 ?side2 ?side3 ?side4 ?side5 ?side6 A60.out).mono ?_); (case side1 => exact zs (Kd.R_reads' aa.out).2.2); (case side2 => exact (Kd.R_reads' aa.out).2.1); (case side3 => exact zs (Kd.S_reads' ab.out).2.2); (case side4 => exact (Kd.S_reads' ab.out).2.1); (case side5 => exact zs (Kd.S_reads' ac.out).2.2); (case side6 => exact (Kd.S_reads' ac.out).2.1); rintro e w70 ⟨rfl, hb⟩; refine ⟨_, rfl, ?_⟩; have aU := zK (Kd.R_below (zR aa) hb); have aV := zK (Kd.S_below (zT ab) hb); have aW := zK (Kd.S_below (zT ac) hb); have aX := zK (blk_below (g := ag) (o := .cells #[.slice a8 ae.length az, .int .i64 aj, .slice aQ ah.length aP, .slice av ai.length ar] 28 (0, 0)) (zk ad) hb); have a2 := zK (below_step (zb HB) hb); clear aa; clear ab; clear ac; clear ad; clear HB; have aa := aU; have ab := aV; have ac := aW; have ad := aX; have HB := a2; clear aU aV aW aX a2; (try clear hb)))
       go_ret
       exact ⟨ze, zb HB⟩
     ·rw [if_neg cO] at H
      have dt : (a1 == bb) = false := beq_eq_false_iff_ne.mpr cO
      have du : (a1 != bb) = true := bne_iff_ne.mpr cO
      exact absurd (H.trans (congrArg some hrt.out)) (by simp)
end Go.Proofs.Ytmjhbdmicejppaa.Px
