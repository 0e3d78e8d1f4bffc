import Derived.Test.YtheckjlldkkceaaZbPx0
namespace Go.Proofs.Ytheckjlldkkceaa.Px
open Go.RowKit Go.Proofs.YtheckjlldkkceaaW.PrintWords Go.Proofs.YtheckjlldkkceaaW.PrintLast Go.Proofs.YtheckjlldkkceaaW.PrintMore
attribute [local go_sem] max2_int min2_int max_two min_two max_three min_three max_four min_four   
set_option linter.unusedVariables false
set_option linter.unusedSimpArgs false
def laws_szKeptS.f (l0 : List (S98)) (a1 : Int) : Option (Int) := if (wrap64 (a1 - (l0.length : Int))) < 0 then (some (-1)) else (some (wrap64 (a1 - (l0.length : Int))))
set_option maxHeartbeats 8000000 in
set_option maxRecDepth 100000 in
theorem laws_szKeptS.calls (A0 : Option Addr) (c0 : Nat) (l0 : List (S98)) (a1 : Int) (r : Int) (w : World) (hr0 : Kd.C k98 w A0 l0.length l0) (hc0 : l0.length ≤ c0) (h : laws_szKeptS.f l0 a1 = some r) :
  Calls Try.prog 81 #[.slice A0 l0.length c0, .int .i64 a1] w fun e w' => e = .returned (.int .i64 r) ∧ Drawn0 w w' := by
 have HR0 := zK hr0; have HC0 := zK hc0; clear hr0 hc0
 have H : (if (wrap64 (a1 - (l0.length : Int))) < 0 then (some (-1)) else (some (wrap64 (a1 - (l0.length : Int))))) = some r := h
 clear h
 by_cases c3 : (wrap64 (a1 - (l0.length : Int))) < 0
 ·rw [if_pos c3] at H
  have c3b0 : decide ((wrap64 (a1 - (l0.length : Int))) < 0) = true := decide_eq_true c3
  clear c3; obtain rfl := Option.some.inj H
  go_enter Try.func81, Try.ntmps81
  go_wp2
  go_ret
  exact ⟨by first | rfl | (simp; done) | (simp [*]; done), by repeat (first | exact Drawn0.refl _ | apply Drawn0.step)⟩
 ·rw [if_neg c3] at H
  have c3b0 : decide ((wrap64 (a1 - (l0.length : Int))) < 0) = false := decide_eq_false c3
  clear c3; obtain rfl := Option.some.inj H
  go_enter Try.func81, Try.ntmps81
  go_wp2
  go_ret
  exact ⟨by first | rfl | (simp; done) | (simp [*]; done), by repeat (first | exact Drawn0.refl _ | apply Drawn0.step)⟩
def laws_szKeptSS.l0 : Nat → List (List (S98)) → Int → Int → Option (Int)
 | 0, _, _, _ => none
 | k + 1, x0, x1, x5 => if x5 < (x0.length : Int) then (if 0 ≤ x5 then ((laws_szKeptS.f (rd_L7 x0 x5) x1).bind fun t260 => (if t260 < 0 then (some (-1)) else (laws_szKeptSS.l0 k x0 t260 (wrap64 (x5 + 1))))) else (none)) else (some x1)
def laws_szKeptSS.f (k : Nat) (l0 : List (List (S98))) (a1 : Int) : Option (Int) := if (wrap64 (a1 - (l0.length : Int))) < 0 then (some (-1)) else (laws_szKeptSS.l0 k l0 (wrap64 (a1 - (l0.length : Int))) 0)
set_option maxHeartbeats 8000000 in
set_option maxRecDepth 100000 in
theorem laws_szKeptSS.calls (k : Nat) (A0 : Option Addr) (c0 : Nat) (l0 : List (List (S98))) (a1 : Int) (r : Int) (w : World) (hr0 : Kd.C (Kd.slice 98 k98) w A0 l0.length l0) (hc0 : l0.length ≤ c0) (h : laws_szKeptSS.f k l0 a1 = some r) :
  Calls Try.prog 54 #[.slice A0 l0.length c0, .int .i64 a1] w fun e w' => e = .returned (.int .i64 r) ∧ Drawn0 w w' := by
 have HR0 := zK hr0; have HC0 := zK hc0; clear hr0 hc0
 have H : (if (wrap64 (a1 - (l0.length : Int))) < 0 then (some (-1)) else (laws_szKeptSS.l0 k l0 (wrap64 (a1 - (l0.length : Int))) 0)) = some r := h
 clear h
 by_cases c3 : (wrap64 (a1 - (l0.length : Int))) < 0
 ·rw [if_pos c3] at H
  have an : decide ((wrap64 (a1 - (l0.length : Int))) < 0) = true := decide_eq_true c3
  clear c3; obtain rfl := Option.some.inj H
  go_enter Try.func54, Try.ntmps54
  go_wp2
  go_ret
  exact ⟨by first | rfl | (simp; done) | (simp [*]; done), by repeat (first | exact Drawn0.refl _ | apply Drawn0.step)⟩
 ·rw [if_neg c3] at H
  have an : decide ((wrap64 (a1 - (l0.length : Int))) < 0) = false := decide_eq_false c3
  clear c3; have H' := zK H; clear H
  go_enter Try.func54, Try.ntmps54
  go_wp2
  go_loopg [1, 5] k (fun kq v1 v5 w' => ∃ (ag : Int) (aa : Int), v1 = .int .i64 ag ∧ v5 = .int .i64 aa ∧ Aside0 (laws_szKeptSS.l0 kq l0 ag aa = some r) ∧ Aside0 (kq ≤ k) ∧ Drawn0 w w')
  case atStart => exact ⟨(wrap64 (a1 - (l0.length : Int))), (0), (by first | rfl | (simp; done) | (simp [*]; done)), (by first | rfl | (simp; done) | (simp [*]; done)), H', ⟨Nat.le_refl _⟩, by repeat (first | exact Drawn0.refl _ | apply Drawn0.step)⟩
  case round =>
   clear H'
   try clear p2
   try clear c3
   try clear an
   obtain ⟨ag, aa, rfl, rfl, HA, HK1, ⟨m1, rfl⟩⟩ := hrel
   cases gk with
   | zero => exact absurd HA.out (by simp [laws_szKeptSS.l0])
   | succ k1 =>
    have H := HA.out; clear HA
    simp only [laws_szKeptSS.l0] at H
    by_cases c4 : aa < (l0.length : Int)
    ·rw [if_pos c4] at H
     have c4b0 : decide (aa < (l0.length : Int)) = true := decide_eq_true c4
     clear c4
     by_cases c5 : 0 ≤ aa
     ·rw [if_pos c5] at H
      have c5b0 : decide (0 ≤ aa) = true := decide_eq_true c5
      clear c5; replace H := Option.bind_eq_some_iff.mp H
      obtain ⟨af, A60, H⟩ := H
      replace H : (if af < 0 then (some (-1)) else (laws_szKeptSS.l0 k1 l0 af (wrap64 (aa + 1)))) = some r := H
      have A6 := zK A60; clear A60
      by_cases c7 : af < 0
      ·rw [if_pos c7] at H
       have c7b0 : decide (af < 0) = true := decide_eq_true c7
       clear c7; obtain rfl := Option.some.inj H
       have ah : 0 ≤ (aa : Int) := of_decide_eq_true (by first | (with_reducible assumption) | assumption)
       have ai : aa < (l0.length : Int) := of_decide_eq_true (by first | (with_reducible assumption) | assumption)
       obtain ⟨ao, aj, ak, am, al, ab, ac⟩ := at_L7 HR0.out aa ah ai
       cases am
       have ad := zK ac; have ae := zK ab; clear ac ab; replace ah := eq_true ah; replace ai := eq_true ai
       go_wp2_with (first | ((with_reducible refine gate_callee (f := 81) rfl ?_); refine goesL_ (some 23) rfl rfl Try.func81 (by kernel_rfl) rfl #[.slice aj (rd_L7 l0 aa).length ak, .int .i64 ag] rfl (by (try simp only [List.map_toArray, List.map_cons, List.map_nil]); first | done | rfl | (simp only [List.length_drop, List.length_take]; rfl)) ?_; (with_reducible refine (laws_szKeptS.calls _ _ (rd_L7 l0 aa) ag af _ ?side1 ?side2 A6.out).mono ?_); (case side1 => repeat (first | exact ad.out | (with_reducible refine Kd.C_alloc ?_ _) | (with_reducible refine Kd.C_drewN ?_ _) | (with_reducible refine Kd.C_drew ?_))); (case side2 => exact ae.out); rintro e w' ⟨rfl, ⟨nd, rfl⟩⟩; refine ⟨_, rfl, ?_⟩))
       go_ret
       exact ⟨by first | rfl | (simp; done) | (simp [*]; done), by repeat (first | exact Drawn0.refl _ | apply Drawn0.step)⟩
      ·rw [if_neg c7] at H
       have c7b0 : decide (af < 0) = false := decide_eq_false c7
       clear c7; have H' := zK H; clear H
       have ah : 0 ≤ (aa : Int) := of_decide_eq_true (by first | (with_reducible assumption) | assumption)
       have ai : aa < (l0.length : Int) := of_decide_eq_true (by first | (with_reducible assumption) | assumption)
       obtain ⟨ao, aj, ak, am, al, ab, ac⟩ := at_L7 HR0.out aa ah ai
       cases am
       have ad := zK ac; have ae := zK ab; clear ac ab; replace ah := eq_true ah; replace ai := eq_true ai
       go_wp2_with (first | ((with_reducible refine gate_callee (f := 81) rfl ?_); refine goesL_ (some 23) rfl rfl Try.func81 (by kernel_rfl) rfl #[.slice aj (rd_L7 l0 aa).length ak, .int .i64 ag] rfl (by (try simp only [List.map_toArray, List.map_cons, List.map_nil]); first | done | rfl | (simp only [List.length_drop, List.length_take]; rfl)) ?_; (with_reducible refine (laws_szKeptS.calls _ _ (rd_L7 l0 aa) ag af _ ?side1 ?side2 A6.out).mono ?_); (case side1 => repeat (first | exact ad.out | (with_reducible refine Kd.C_alloc ?_ _) | (with_reducible refine Kd.C_drewN ?_ _) | (with_reducible refine Kd.C_drew ?_))); (case side2 => exact ae.out); rintro e w' ⟨rfl, ⟨nd, rfl⟩⟩; refine ⟨_, rfl, ?_⟩))
       go_roundg k1
       case measure => have := HK1.out; omega
       case rel => exact ⟨(af), (wrap64 (aa + 1)), (by first | rfl | (simp; done) | (simp [*]; done)), (by first | rfl | (simp; done) | (simp [*]; done)), H', ⟨by have := HK1.out; omega⟩, by repeat (first | exact Drawn0.refl _ | apply Drawn0.step)⟩
     ·rw [if_neg c5] at H
      exact absurd H (by simp)
    ·rw [if_neg c4] at H
     have c4b0 : decide (aa < (l0.length : Int)) = false := decide_eq_false c4
     clear c4; obtain rfl := Option.some.inj H
     go_wp2
     go_ret
     exact ⟨by first | rfl | (simp; done) | (simp [*]; done), by repeat (first | exact Drawn0.refl _ | apply Drawn0.step)⟩
def laws_szStore.f (k : Nat) (a0_0 : Int) (l0_1 : List (List (S98))) (a1 : Int) : Option (Int) := (laws_szKeptSS.f k l0_1 a1).bind fun t262 => (if t262 < 0 then (some (-1)) else (some t262))
set_option maxHeartbeats 8000000 in
set_option maxRecDepth 100000 in
theorem laws_szStore.calls (k : Nat) (a0_0 : Int) (ae : Option Addr) (af : Nat) (aa : List (List (S98))) (a1 : Int) (r : Int) (w : World) (ah : Kd.C (Kd.slice 98 k98) w ae aa.length aa) (hc0_1 : aa.length ≤ af) (h : laws_szStore.f k a0_0 aa a1 = some r) :
  Calls Try.prog 20 #[.agg #[.int .i64 a0_0, .slice ae aa.length af], .int .i64 a1] w fun e w' => e = .returned (.int .i64 r) ∧ Below w.heap.size w w' := by
 have hu36 := Try.underlying36; have ai := zK ah; have aj := zK hc0_1; clear ah hc0_1
 have HB := zK (Below.refl w.heap.size w)
 have H : ((laws_szKeptSS.f k aa a1).bind fun ad => (if ad < 0 then (some (-1)) else (some ad))) = some r := h
 clear h; replace H := Option.bind_eq_some_iff.mp H
 obtain ⟨ad, A30, H⟩ := H
 replace H : (if ad < 0 then (some (-1)) else (some ad)) = some r := H
 have A3 := zK A30; clear A30
 by_cases c4 : ad < 0
 ·rw [if_pos c4] at H
  have c4b0 : decide (ad < 0) = true := decide_eq_true c4
  clear c4; obtain rfl := Option.some.inj H
  go_enter Try.func20, Try.ntmps20
  go_wp2_with (first | ((with_reducible refine gate_dst (N := 2) rfl ?_); refine box_event ?hg (N := 2) ?hd (cs := #[.int .i64 a0_0, .slice ae aa.length af]) (t := 36) ?hr ?_; (case hd => rfl); (case hg => rfl); (case hr => first | (go_simp; done) | (go_simp; rfl)); intro ab hg w5 hbox hb; have ak := zK (below_step (zb HB) hb); have al := zK (hbox); have am := zK ((by rw [hg]; exact (below_size (zb HB)) : w.heap.size ≤ ab)); have an := zK ((by rw [hg]; exact (below_size (zb HB)) : w.heap.size ≤ ab)); clear HB; have HB := ak; have ac := al; have ao := am; have ag := an; clear ak al am an; clear hb hbox hg; have hcz6_0 : w5.cell? ⟨ab, 0, none⟩ = some (.int .i64 a0_0) := (blk_cell ac.out 0).trans rfl; have hcz6_1 : w5.cell? ⟨ab, 1, none⟩ = some (.slice ae aa.length af) := (blk_cell ac.out 1).trans rfl; have hfz6_0 := blk_frozen ac.out 0; have hfz6_1 := blk_frozen ac.out 1) | ((with_reducible refine gate_callee (f := 54) rfl ?_); refine goesL_ (some 8) rfl rfl Try.func54 (by kernel_rfl) rfl #[.slice ae aa.length af, .int .i64 a1] rfl (by (try simp only [List.map_toArray, List.map_cons, List.map_nil]); first | done | rfl | (simp only [List.length_drop, List.length_take]; rfl)) ?_; (with_reducible refine (laws_szKeptSS.calls k _ _ aa a1 ad _ ?side1 ?side2 A3.out).mono ?_); (case side1 => repeat (first | exact (Kd.C_below ai.out HB.out) | (with_reducible refine Kd.C_alloc ?_ _) | (with_reducible refine Kd.C_drewN ?_ _) | (with_reducible refine Kd.C_drew ?_))); (case side2 => exact aj.out); rintro e w' ⟨rfl, ⟨nd, rfl⟩⟩; refine ⟨_, rfl, ?_⟩))
  go_ret
  exact ⟨by first | rfl | (simp [errW_none, errW_some] <;> rfl) | (simp [*, errW_none, errW_some] <;> rfl), by repeat (first | (with_reducible first | exact HB.out | apply zB | apply zC | apply zE | refine zS ?_ ag.out) | exact HB.out)⟩
 ·rw [if_neg c4] at H
  have c4b0 : decide (ad < 0) = false := decide_eq_false c4
  clear c4; obtain rfl := Option.some.inj H
  go_enter Try.func20, Try.ntmps20
  go_wp2_with (first | ((with_reducible refine gate_dst (N := 2) rfl ?_); refine box_event ?hg (N := 2) ?hd (cs := #[.int .i64 a0_0, .slice ae aa.length af]) (t := 36) ?hr ?_; (case hd => rfl); (case hg => rfl); (case hr => first | (go_simp; done) | (go_simp; rfl)); intro ab hg w7 hbox hb; have ak := zK (below_step (zb HB) hb); have al := zK (hbox); have am := zK ((by rw [hg]; exact (below_size (zb HB)) : w.heap.size ≤ ab)); have an := zK ((by rw [hg]; exact (below_size (zb HB)) : w.heap.size ≤ ab)); clear HB; have HB := ak; have ac := al; have ao := am; have ag := an; clear ak al am an; clear hb hbox hg; have hcz8_0 : w7.cell? ⟨ab, 0, none⟩ = some (.int .i64 a0_0) := (blk_cell ac.out 0).trans rfl; have hcz8_1 : w7.cell? ⟨ab, 1, none⟩ = some (.slice ae aa.length af) := (blk_cell ac.out 1).trans rfl; have hfz8_0 := blk_frozen ac.out 0; have hfz8_1 := blk_frozen ac.out 1) | ((with_reducible refine gate_callee (f := 54) rfl ?_); refine goesL_ (some 8) rfl rfl Try.func54 (by kernel_rfl) rfl #[.slice ae aa.length af, .int .i64 a1] rfl (by (try simp only [List.map_toArray, List.map_cons, List.map_nil]); first | done | rfl | (simp only [List.length_drop, List.length_take]; rfl)) ?_; (with_reducible refine (laws_szKeptSS.calls k _ _ aa a1 ad _ ?side1 ?side2 A3.out).mono ?_); (case side1 => repeat (first | exact (Kd.C_below ai.out HB.out) | (with_reducible refine Kd.C_alloc ?_ _) | (with_reducible refine Kd.C_drewN ?_ _) | (with_reducible refine Kd.C_drew ?_))); (case side2 => exact aj.out); rintro e w' ⟨rfl, ⟨nd, rfl⟩⟩; refine ⟨_, rfl, ?_⟩))
  go_ret
  exact ⟨by first | rfl | (simp [errW_none, errW_some] <;> rfl) | (simp [*, errW_none, errW_some] <;> rfl), by repeat (first | (with_reducible first | exact HB.out | apply zB | apply zC | apply zE | refine zS ?_ ag.out) | exact HB.out)⟩
def laws_toKept.f (a0_0 : Int) (a0_1 : Int) : Option (Int × Int) := some (a0_0, a0_1)
set_option maxHeartbeats 8000000 in
set_option maxRecDepth 100000 in
theorem laws_toKept.calls (a0_0 : Int) (a0_1 : Int) (r1 : Int) (r2 : Int) (w : World) (h : laws_toKept.f a0_0 a0_1 = some (r1, r2)) :
  Calls Try.prog 97 #[.agg #[.int .i64 a0_0, .int .i64 a0_1]] w fun e w' => e = .returned (.agg #[.int .i64 r1, .int .i64 r2]) ∧ Below w.heap.size w w' := by
 have hu98 := Try.underlying98; have hu30 := Try.underlying30
 have HB := zK (Below.refl w.heap.size w)
 have H : (some (a0_0, a0_1)) = some (r1, r2) := h
 clear h
 simp only [Option.some.injEq, Prod.mk.injEq] at H
 obtain ⟨rfl, rfl⟩ := H
 go_enter Try.func97, Try.ntmps97
 go_wp2_with (first | ((with_reducible refine gate_dst (N := 1) rfl ?_); refine box_event ?hg (N := 1) ?hd (cs := #[.int .i64 a0_0, .int .i64 a0_1]) (t := 98) ?hr ?_; (case hd => rfl); (case hg => rfl); (case hr => first | (go_simp; done) | (go_simp; rfl)); intro aa hg w2 hbox hb; have ao := zK (below_step (zb HB) hb); have ap := zK (hbox); have aq := zK ((by rw [hg]; exact (below_size (zb HB)) : w.heap.size ≤ aa)); have ar := zK ((by rw [hg]; exact (below_size (zb HB)) : w.heap.size ≤ aa)); clear HB; have HB := ao; have ab := ap; have GW263 := aq; have ag := ar; clear ao ap aq ar; clear hb hbox hg) | ((with_reducible refine gate_dst (N := 2) rfl ?_); refine box_event ?hg (N := 2) ?hd (cs := #[.int .i64 0, .int .i64 0]) (t := 30) ?hr ?_; (case hd => rfl); (case hg => rfl); (case hr => first | (go_simp; done) | (go_simp; rfl)); intro ac hg w3 hbox hb; have ao := zK (blk_below (g := aa) (o := .cells #[.int .i64 a0_0, .int .i64 a0_1] 98 (0, 0)) (zk ab) hb); have ap := zK (below_step (zb HB) hb); have aq := zK (hbox); have ar := zK ((by rw [hg]; exact (below_size (zb HB)) : w.heap.size ≤ ac)); have au := zK ((by rw [hg]; exact (below_size (zb HB)) : w.heap.size ≤ ac)); have av := zK ((by rw [hg]; exact Nat.ne_of_lt (blk_lt (g := aa) (o := .cells #[.int .i64 a0_0, .int .i64 a0_1] 98 (0, 0)) (zk ab)) : aa ≠ ac)); have aw := zK ((by rw [hg]; exact Nat.ne_of_gt (blk_lt (g := aa) (o := .cells #[.int .i64 a0_0, .int .i64 a0_1] 98 (0, 0)) (zk ab)) : ac ≠ aa)); clear ab; clear HB; have ab := ao; have HB := ap; have ad := aq; have GW264 := ar; have ah := au; have aj := av; have ak := aw; clear ao ap aq ar au av aw; clear hb hbox hg) | ((with_reducible refine gate_dst (N := 3) rfl ?_); refine box_event ?hg (N := 3) ?hd (cs := #[.int .i64 0, .int .i64 0]) (t := 30) ?hr ?_; (case hd => rfl); (case hg => rfl); (case hr => first | (go_simp; done) | (go_simp; rfl)); intro af hg w4 hbox hb; have ao := zK (blk_below (g := aa) (o := .cells #[.int .i64 a0_0, .int .i64 a0_1] 98 (0, 0)) (zk ab) hb); have ap := zK (blk_below (g := ac) (o := .cells #[.int .i64 0, .int .i64 0] 30 (0, 0)) (zk ad) hb); have aq := zK (below_step (zb HB) hb); have ar := zK (hbox); have au := zK ((by rw [hg]; exact (below_size (zb HB)) : w.heap.size ≤ af)); have av := zK ((by rw [hg]; exact (below_size (zb HB)) : w.heap.size ≤ af)); have aw := zK ((by rw [hg]; exact Nat.ne_of_lt (blk_lt (g := aa) (o := .cells #[.int .i64 a0_0, .int .i64 a0_1] 98 (0, 0)) (zk ab)) : aa ≠ af)); have n7_ := zK ((by rw [hg]; exact Nat.ne_of_gt (blk_lt (g := aa) (o := .cells #[.int .i64 a0_0, .int .i64 a0_1] 98 (0, 0)) (zk ab)) : af ≠ aa)); have n8_ := zK ((by rw [hg]; exact Nat.ne_of_lt (blk_lt (g := ac) (o := .cells #[.int .i64 0, .int .i64 0] 30 (0, 0)) (zk ad)) : ac ≠ af)); have n9_ := zK ((by rw [hg]; exact Nat.ne_of_gt (blk_lt (g := ac) (o := .cells #[.int .i64 0, .int .i64 0] 30 (0, 0)) (zk ad)) : af ≠ ac)); clear ab; clear ad; clear HB; have ab := ao; have ad := ap; have HB := aq; have ai := ar; have GW265 := au; have ax := av; have al := aw; have am := n7_; have ae := n8_; have an := n9_; clear ao ap aq ar au av aw n7_ n8_ n9_; clear hb hbox hg; have hnb5 := aj.out; have hnc5 := ak.out; have hnb6 := al.out; have hnc6 := am.out; have hcz7_0 : w4.cell? ⟨aa, 0, none⟩ = some (.int .i64 a0_0) := (blk_cell ab.out 0).trans rfl; have hcz7_1 : w4.cell? ⟨aa, 1, none⟩ = some (.int .i64 a0_1) := (blk_cell ab.out 1).trans rfl; have hfz7_0 := blk_frozen ab.out 0; have hfz7_1 := blk_frozen ab.out 1; have hnb8 := an.out; have hnc8 := ae.out; have hcz9_0 : w4.cell? ⟨af, 0, none⟩ = some (.int .i64 0) := (blk_cell ai.out 0).trans rfl; have hcz9_1 : w4.cell? ⟨af, 1, none⟩ = some (.int .i64 0) := (blk_cell ai.out 1).trans rfl; have hfz9_0 := blk_frozen ai.out 0; have hfz9_1 := blk_frozen ai.out 1; have hcz10_0 : w4.cell? ⟨ac, 0, none⟩ = some (.int .i64 0) := (blk_cell ad.out 0).trans rfl; have hcz10_1 : w4.cell? ⟨ac, 1, none⟩ = some (.int .i64 0) := (blk_cell ad.out 1).trans rfl; have hfz10_0 := blk_frozen ad.out 0; have hfz10_1 := blk_frozen ad.out 1))
 refine bodyPost_ret (results_cell_row rfl _ _ ac 30 #[.int .i64 a0_0, .int .i64 a0_1] (0, 0) _ rfl (by (with_reducible repeat (first | refine zN ?_ _ | refine zD ?_ | refine zA ?_ _)); refine blk_put (cs := #[.int .i64 a0_0, .int .i64 0]) ?_ 1 _ rfl; (with_reducible repeat (first | refine zN ?_ _ | refine zD ?_ | refine zA ?_ _)); refine blk_put (cs := #[.int .i64 0, .int .i64 0]) ?_ 0 _ rfl; (with_reducible repeat (first | refine zN ?_ _ | refine zD ?_ | refine zA ?_ _)); refine blk_far ?_ ae.out _; (with_reducible repeat (first | refine zN ?_ _ | refine zD ?_ | refine zA ?_ _)); refine blk_far ?_ ae.out _; (with_reducible repeat (first | refine zN ?_ _ | refine zD ?_ | refine zA ?_ _)); exact ad.out) Try.underlying30 rfl (by kernel_rfl)) rfl ?_
 exact ⟨by first | rfl | (simp [errW_none, errW_some] <;> rfl) | (simp [*, errW_none, errW_some] <;> rfl), by repeat (first | (with_reducible first | exact HB.out | apply zB | apply zC | apply zE | refine zS ?_ ag.out | refine zS ?_ ah.out | refine zS ?_ ax.out) | exact HB.out)⟩
def laws_toKeptS.l0 : Nat → List (S98) → List (S30) → Int → Option ((List (S30)))
 | 0, _, _, _ => none
 | k + 1, x0, x3, x4 => if x4 < (x0.length : Int) then (if 0 ≤ x4 then ((laws_toKept.f ((rd_T98 x0 x4).f0) ((rd_T98 x0 x4).f1)).bind fun bt270 => (if x4 < (x3.length : Int) then (laws_toKeptS.l0 k x0 (x3.set (x4 : Int).toNat (⟨bt270.1, bt270.2⟩ : S30)) (wrap64 (x4 + 1))) else (none))) else (none)) else (some x3)
def laws_toKeptS.f (k : Nat) (l0 : List (S98)) : Option ((List (S30))) := if 0 ≤ (l0.length : Int) then (if ((l0.length : Int) : Int).toNat ≤ 17592186044416 then (laws_toKeptS.l0 k l0 (List.replicate ((l0.length : Int) : Int).toNat z30) 0) else (none)) else (none)
set_option maxHeartbeats 8000000 in
set_option maxRecDepth 100000 in
theorem laws_toKeptS.calls (k : Nat) (A0 : Option Addr) (c0 : Nat) (l0 : List (S98)) (r : List (S30)) (w : World) (hr0 : Kd.C k98 w A0 l0.length l0) (hc0 : l0.length ≤ c0) (h : laws_toKeptS.f k l0 = some r) :
  Calls Try.prog 82 #[.slice A0 l0.length c0] w fun e w' => ∃ v0_ : Value, e = .returned (v0_) ∧ Kd.R k30 30 w' w.heap.size (fun _ => True) v0_ r ∧ Below w.heap.size w w' := by
 have hu98 := Try.underlying98; have hu30 := Try.underlying30; have HR0 := zK hr0; have HC0 := zK hc0; clear hr0 hc0
 have HB := zK (Below.refl w.heap.size w)
 have H : (if 0 ≤ (l0.length : Int) then (if ((l0.length : Int) : Int).toNat ≤ 17592186044416 then (laws_toKeptS.l0 k l0 (List.replicate ((l0.length : Int) : Int).toNat z30) 0) else (none)) else (none)) = some r := h
 clear h
 by_cases c2 : 0 ≤ (l0.length : Int)
 ·rw [if_pos c2] at H
  have c2b0 := eq_true c2
  have c2b1 : decide (0 ≤ (l0.length : Int)) = true := decide_eq_true c2
  clear c2
  by_cases c3 : ((l0.length : Int) : Int).toNat ≤ 17592186044416
  ·rw [if_pos c3] at H
   have c3b0 := eq_true c3
   have c3b1 : decide (((l0.length : Int) : Int).toNat ≤ 17592186044416) = true := decide_eq_true c3
   clear c3
   obtain ⟨aC, ag⟩ : ∃ y_ : List (S30), y_ = (List.replicate ((l0.length : Int) : Int).toNat z30) := ⟨_, rfl⟩
   replace H : (laws_toKeptS.l0 k l0 aC 0) = some r := by first | (rw [ag]; with_reducible exact H) | (have H2_ := (Option.bind_some _ _).symm.trans H; rw [ag]; with_reducible exact H2_) | (have H2_ := (Option.bind_some _ _).symm.trans H; with_reducible exact H2_) | with_reducible exact H | (rw [ag]; exact H) | exact H
   have Ny266 := zK ag; clear ag; have H' := zK H; clear H
   go_enter Try.func82, Try.ntmps82
   go_wp2_with (first | ((with_reducible refine gate_dst (N := 7) rfl ?_); refine Kd.R_make k30 _ 30 rfl (N := 7) rfl 28 _ _ rfl (l0.length : Int) rfl rfl Try.underlying28 (.agg #[(.int .i64 0), (.int .i64 0)]) 16 info30 rfl (by decide) (by omega) z30 (ok := fun _ => True) (okp := fun _ => True) (k30_mkM _ _ _ z30 ) (fun _ hk => hk) trivial (of_decide_eq_true (by first | (with_reducible assumption) | assumption)) (Nat.le_trans (Nat.mul_le_mul_right _ (of_decide_eq_true (by first | (with_reducible assumption) | assumption) : (l0.length : Int).toNat ≤ 17592186044416)) (by omega)) (Below.refl _ _) (Nat.le_refl _) ?_; intro v267 w4 ho5 hb hg_ hnew_; clear hg_ hnew_; (first | rw [← Ny266.out] at ho5 | (simp only [Int.reduceToNat] at ho5; rw [← Ny266.out] at ho5)); have ao := zK (Kd.R_lower ho5 (below_size (zb HB))); have ap := zK (below_step (zb HB) hb); clear HB; have aD := ao; have HB := ap; clear ao ap; clear hb ho5))
   go_loopg [4] k (fun kq v4 w' => ∃ (ab : List (S30)) (aa : Int), v4 = .int .i64 aa ∧ Aside0 (laws_toKeptS.l0 kq l0 ab aa = some r) ∧ Aside0 (kq ≤ k) ∧ Aside0 (Kd.R k30 30 w' w.heap.size (fun _ => True) v267 ab) ∧ Aside0 (Below w.heap.size w w'))
   case atStart => exact ⟨(aC), (0), (by first | rfl | (simp; done) | (simp [*]; done)), H', ⟨Nat.le_refl _⟩, ⟨zR aD⟩, ⟨zb HB⟩⟩
   case round =>
    clear H'
    try clear c2
    try clear c2b0
    try clear c2b1
    try clear p2
    try clear c3
    try clear c3b0
    try clear c3b1
    obtain ⟨ab, aa, rfl, HA, HK1, ac, HB⟩ := hrel
    cases gk with
    | zero => exact absurd HA.out (by simp [laws_toKeptS.l0])
    | succ k1 =>
     have H := HA.out; clear HA
     simp only [laws_toKeptS.l0] at H
     by_cases c6 : aa < (l0.length : Int)
     ·rw [if_pos c6] at H
      have c6b0 : decide (aa < (l0.length : Int)) = true := decide_eq_true c6
      clear c6
      by_cases c7 : 0 ≤ aa
      ·rw [if_pos c7] at H
       have c7b0 : decide (0 ≤ aa) = true := decide_eq_true c7
       clear c7; replace H := Option.bind_eq_some_iff.mp H
       obtain ⟨⟨ai, aj⟩, A80, H⟩ := H
       replace H : (if aa < (ab.length : Int) then (laws_toKeptS.l0 k1 l0 (ab.set (aa : Int).toNat (⟨ai, aj⟩ : S30)) (wrap64 (aa + 1))) else (none)) = some r := H
       have A8 := zK A80; clear A80
       by_cases c9 : aa < (ab.length : Int)
       ·rw [if_pos c9] at H
        have c9b0 : decide (aa < (ab.length : Int)) = true := decide_eq_true c9
        clear c9
        obtain ⟨ar, ah⟩ : ∃ y_ : List (S30), y_ = (ab.set (aa : Int).toNat (⟨ai, aj⟩ : S30)) := ⟨_, rfl⟩
        replace H : (laws_toKeptS.l0 k1 l0 ar (wrap64 (aa + 1))) = some r := by first | (rw [ah]; with_reducible exact H) | (have H2_ := (Option.bind_some _ _).symm.trans H; rw [ah]; with_reducible exact H2_) | (have H2_ := (Option.bind_some _ _).symm.trans H; with_reducible exact H2_) | with_reducible exact H | (rw [ah]; exact H) | exact H
        have Ny272 := zK ah; clear ah; have H' := zK H; clear H
        have au : 0 ≤ (aa : Int) := of_decide_eq_true (by first | (with_reducible assumption) | assumption)
        have av : aa < (l0.length : Int) := of_decide_eq_true (by first | (with_reducible assumption) | assumption)
        obtain ⟨ad269, e269, ad, ae⟩ := at_T98 HR0.out aa au av
        cases e269
        replace ad := (HB.out.cell (World.block_lt_of_cell? w _ ad)).trans ad
        replace ae := (HB.out.cell (World.block_lt_of_cell? w _ ae)).trans ae
        replace au := eq_true au; replace av := eq_true av
        go_wp2_with (first | ((with_reducible refine gate_callee (f := 97) rfl ?_); refine goesL_ (some 20) rfl rfl Try.func97 (by kernel_rfl) rfl #[.agg #[.int .i64 ((rd_T98 l0 aa).f0), .int .i64 ((rd_T98 l0 aa).f1)]] rfl (by (try simp only [List.map_toArray, List.map_cons, List.map_nil]); first | done | rfl | (simp only [List.length_drop, List.length_take]; rfl)) ?_; (with_reducible refine (laws_toKept.calls ((rd_T98 l0 aa).f0) ((rd_T98 l0 aa).f1) ai aj _ A8.out).mono ?_); rintro e aw ⟨rfl, hb⟩; refine ⟨_, rfl, ?_⟩; have ao := zK (Kd.R_below (zR ac) hb); have ap := zK (below_step (zb HB) hb); clear ac; clear HB; have ac := ao; have HB := ap; clear ao ap; (try clear hb); (try clear hk); have p10 : 0 ≤ (aa : Int) := of_decide_eq_true (by first | (with_reducible assumption) | assumption); have q10 : (aa : Int) < ((ab.length : Int) : Int) := of_decide_eq_true (by first | (with_reducible assumption) | assumption); obtain ⟨af, aE, aF, aG, gl10, cl10, aH⟩ := Kd.R_form ac.out (by omega); (first | cases aF | (injection aF with ea_ en_ ec_; (first | subst ea_ | (injection ea_ with ea_; subst ea_)); subst ec_; clear en_)); have aI := zK aG; have GG10 := zK aH; clear aG gl10 aH; obtain ⟨ce10, aJ, aK, al, am⟩ := Kd.R_elem ac.out z30 (aa : Int) p10 q10; obtain rfl := k30_openM aK; have hx10_0 : aw.cell? ⟨af, (aa : Int).toNat * 2, none⟩ = some (.int .i64 ((rd_T30 ab aa).f0)) := al 0 _ rfl; have hx10_1 : aw.cell? ⟨af, (aa : Int).toNat * 2 + 1, none⟩ = some (.int .i64 ((rd_T30 ab aa).f1)) := al 1 _ rfl; have hf10_0 : aw.frozen? ⟨af, (aa : Int).toNat * 2, none⟩ = false := am 0; have hf10_1 : aw.frozen? ⟨af, (aa : Int).toNat * 2 + 1, none⟩ = false := am 1; clear aJ al am; (try clear aK); replace p10 := eq_true p10; replace q10 := eq_true q10; have aL := zK (show Kd.R k30 30 aw w.heap.size (fun _ => True) (.slice (some ⟨af, 0, none⟩) ab.length aE) ab from (zR ac)); obtain ⟨ce12, aq, aM, ak, an⟩ := Kd.R_elem aL.out z30 (aa : Int) (of_decide_eq_true (by first | (with_reducible assumption) | assumption)) (by have h_ : (aa : Int) < ((ab.length : Int) : Int) := of_decide_eq_true (by first | (with_reducible assumption) | assumption); first | exact h_ | (have e_ := (Kd.R_reads' ac.out).1; omega) | simpa using h_); obtain rfl := k30_openM aM; have ax := Kd.R_seg aL.out (aa : Int) (of_decide_eq_true (by first | (with_reducible assumption) | assumption)) (by have h_ : (aa : Int) < ((ab.length : Int) : Int) := of_decide_eq_true (by first | (with_reducible assumption) | assumption); first | exact h_ | (have e_ := (Kd.R_reads' ac.out).1; omega) | simpa using h_) (seg := [.int .i64 ai, .int .i64 aj]) (j := 0) aq ak (show 2 ≤ 2 from by decide) (x' := (⟨ai, aj⟩ : S30)) (k30_mkM _ _ _ (⟨ai, aj⟩ : S30) ) (fun _ hk => hk); have ay := ak 0 _ rfl; (try simp only [show (k30).sz = 2 from rfl, Nat.mul_one, Nat.add_zero] at ay); have az := an 0; (try simp only [show (k30).sz = 2 from rfl, Nat.mul_one, Nat.add_zero] at az); have aA := ak 1 _ rfl; (try simp only [show (k30).sz = 2 from rfl, Nat.mul_one, Nat.add_zero] at aA); have aB := an 1; (try simp only [show (k30).sz = 2 from rfl, Nat.mul_one, Nat.add_zero] at aB); clear aq ak an; (try clear aM)) | ((with_reducible refine gate_store (t := 30) (p := 21) rfl ?_); refine store_event (t := 30) (p := 21) (v := ?vo_w13) (w1 := ((aw.setCell ⟨af, (aa : Int).toNat * 2, none⟩ (.int .i64 ai)).setCell ⟨af, (aa : Int).toNat * 2 + 1, none⟩ (.int .i64 aj))) ?hg ?ho ?hn ?hr ?_; (case ho => rfl); (case hg => rfl); (case hn => rfl); (case hr => first | (go_simp; done) | (go_simp; rfl)); intro w13 hw; have hg : aw.grownBy w13 (some af) := (by rw [hw]; exact ax.2); have hp_ : Kd.R k30 30 w13 w.heap.size (fun _ => True) (.slice (some ⟨af, 0, none⟩) ab.length aE) ar := (by rw [hw, Ny272.out]; exact ax.1); clear ax; have ao := zK (hp_); have ap := zK ((by rw [hw]; exact zS (zS (HB.out) aI.out) aI.out : Below w.heap.size w w13)); clear ac; clear HB; have ac := ao; have HB := ap; clear ao ap; clear hg hw hp_))
        go_roundg k1
        case measure => have := HK1.out; omega
        case rel => exact ⟨(ar), (wrap64 (aa + 1)), (by first | rfl | (simp; done) | (simp [*]; done)), H', ⟨by have := HK1.out; omega⟩, ⟨zR ac⟩, ⟨zb HB⟩⟩
       ·rw [if_neg c9] at H
        exact absurd H (by simp)
      ·rw [if_neg c7] at H
       exact absurd H (by simp)
     ·rw [if_neg c6] at H
      have c6b0 : decide (aa < (l0.length : Int)) = false := decide_eq_false c6
      clear c6; obtain rfl := Option.some.inj H
      go_wp2
      go_ret
      exact ⟨_, by first | rfl | (simp [errW_none, errW_some] <;> rfl) | (simp [*, errW_none, errW_some] <;> rfl), by (with_reducible repeat (first | apply Kd.R_alloc | apply Kd.R_drewN | apply Kd.R_drew)); exact ac.out, by repeat (first | (with_reducible first | exact HB.out | apply zB | apply zC | apply zE) | exact HB.out)⟩
  ·rw [if_neg c3] at H
   exact absurd H (by simp)
 ·rw [if_neg c2] at H
  exact absurd H (by simp)
def laws_toKeptSS.l0 : Nat → List (List (S98)) → List (List (S30)) → Int → Option ((List (List (S30))))
 | 0, _, _, _ => none
 | k + 1, x0, x3, x4 => if x4 < (x0.length : Int) then (if 0 ≤ x4 then ((laws_toKeptS.f k (rd_L7 x0 x4)).bind fun t277 => (if x4 < (x3.length : Int) then (laws_toKeptSS.l0 k x0 (x3.set (x4 : Int).toNat t277) (wrap64 (x4 + 1))) else (none))) else (none)) else (some x3)
def laws_toKeptSS.f (k : Nat) (l0 : List (List (S98))) : Option ((List (List (S30)))) := if 0 ≤ (l0.length : Int) then (if ((l0.length : Int) : Int).toNat ≤ 11728124029610 then (laws_toKeptSS.l0 k l0 (List.replicate ((l0.length : Int) : Int).toNat []) 0) else (none)) else (none)
set_option maxHeartbeats 8000000 in
set_option maxRecDepth 100000 in
theorem laws_toKeptSS.calls (k : Nat) (A0 : Option Addr) (c0 : Nat) (l0 : List (List (S98))) (r : List (List (S30))) (w : World) (hr0 : Kd.C (Kd.slice 98 k98) w A0 l0.length l0) (hc0 : l0.length ≤ c0) (h : laws_toKeptSS.f k l0 = some r) :
  Calls Try.prog 55 #[.slice A0 l0.length c0] w fun e w' => ∃ v0_ : Value, e = .returned (v0_) ∧ Kd.S (Kd.slice 30 k30) 28 w' w.heap.size (fun _ => True) v0_ r ∧ Below w.heap.size w w' := by
 have HR0 := zK hr0; have HC0 := zK hc0; clear hr0 hc0
 have HB := zK (Below.refl w.heap.size w)
 have H : (if 0 ≤ (l0.length : Int) then (if ((l0.length : Int) : Int).toNat ≤ 11728124029610 then (laws_toKeptSS.l0 k l0 (List.replicate ((l0.length : Int) : Int).toNat []) 0) else (none)) else (none)) = some r := h
 clear h
 by_cases c2 : 0 ≤ (l0.length : Int)
 ·rw [if_pos c2] at H
  have c2b0 := eq_true c2
  have c2b1 : decide (0 ≤ (l0.length : Int)) = true := decide_eq_true c2
  clear c2
  by_cases c3 : ((l0.length : Int) : Int).toNat ≤ 11728124029610
  ·rw [if_pos c3] at H
   have c3b0 := eq_true c3
   have c3b1 : decide (((l0.length : Int) : Int).toNat ≤ 11728124029610) = true := decide_eq_true c3
   clear c3
   obtain ⟨aH, ae⟩ : ∃ y_ : List (List (S30)), y_ = (List.replicate ((l0.length : Int) : Int).toNat []) := ⟨_, rfl⟩
   replace H : (laws_toKeptSS.l0 k l0 aH 0) = some r := by first | (rw [ae]; with_reducible exact H) | (have H2_ := (Option.bind_some _ _).symm.trans H; rw [ae]; with_reducible exact H2_) | (have H2_ := (Option.bind_some _ _).symm.trans H; with_reducible exact H2_) | with_reducible exact H | (rw [ae]; exact H) | exact H
   have Ny273 := zK ae; clear ae; have H' := zK H; clear H
   go_enter Try.func55, Try.ntmps55
   go_wp2_with (first | ((with_reducible refine gate_dst (N := 7) rfl ?_); refine Kd.S_make (Kd.slice 30 k30) _ 28 rfl (N := 7) rfl 22 _ _ rfl (l0.length : Int) rfl rfl Try.underlying22 (.slice none 0 0) 24 info28 rfl (by decide) (by omega) [] (ok := fun _ => True) (okp := fun _ => True) ⟨_, rfl, Kd.R_nil _ _ _ _ _⟩ (fun _ hk => hk) trivial (of_decide_eq_true (by first | (with_reducible assumption) | assumption)) (Nat.le_trans (Nat.mul_le_mul_right _ (of_decide_eq_true (by first | (with_reducible assumption) | assumption) : (l0.length : Int).toNat ≤ 11728124029610)) (by omega)) (Below.refl _ _) (Nat.le_refl _) ?_; intro v274 w4 ho5 hb hg_ hnew_; clear hg_ hnew_; (first | rw [← Ny273.out] at ho5 | (simp only [Int.reduceToNat] at ho5; rw [← Ny273.out] at ho5)); have ap := zK (Kd.S_lower ho5 (below_size (zb HB))); have aq := zK (below_step (zb HB) hb); clear HB; have aI := ap; have HB := aq; clear ap aq; clear hb ho5))
   go_loopg [4] k (fun kq v4 w' => ∃ (ac : List (List (S30))) (aa : Int), v4 = .int .i64 aa ∧ Aside0 (laws_toKeptSS.l0 kq l0 ac aa = some r) ∧ Aside0 (kq ≤ k) ∧ Aside0 (Kd.S (Kd.slice 30 k30) 28 w' w.heap.size (fun _ => True) v274 ac) ∧ Aside0 (Below w.heap.size w w'))
   case atStart => exact ⟨(aH), (0), (by first | rfl | (simp; done) | (simp [*]; done)), H', ⟨Nat.le_refl _⟩, ⟨zT aI⟩, ⟨zb HB⟩⟩
   case round =>
    clear H'
    try clear c2
    try clear c2b0
    try clear c2b1
    try clear p2
    try clear c3
    try clear c3b0
    try clear c3b1
    try clear c5
    obtain ⟨ac, aa, rfl, HA, HK1, ab, HB⟩ := hrel
    cases gk with
    | zero => exact absurd HA.out (by simp [laws_toKeptSS.l0])
    | succ k1 =>
     have H := HA.out; clear HA
     simp only [laws_toKeptSS.l0] at H
     by_cases c6 : aa < (l0.length : Int)
     ·rw [if_pos c6] at H
      have c6b0 : decide (aa < (l0.length : Int)) = true := decide_eq_true c6
      clear c6
      by_cases c7 : 0 ≤ aa
      ·rw [if_pos c7] at H
       have c7b0 : decide (0 ≤ aa) = true := decide_eq_true c7
       clear c7; replace H := Option.bind_eq_some_iff.mp H
       obtain ⟨al, A80, H⟩ := H
       replace H : (if aa < (ac.length : Int) then (laws_toKeptSS.l0 k1 l0 (ac.set (aa : Int).toNat al) (wrap64 (aa + 1))) else (none)) = some r := H
       have A8 := zK A80; clear A80
       by_cases c9 : aa < (ac.length : Int)
       ·rw [if_pos c9] at H
        have c9b0 : decide (aa < (ac.length : Int)) = true := decide_eq_true c9
        clear c9
        obtain ⟨ax, af⟩ : ∃ y_ : List (List (S30)), y_ = (ac.set (aa : Int).toNat al) := ⟨_, rfl⟩
        replace H : (laws_toKeptSS.l0 k1 l0 ax (wrap64 (aa + 1))) = some r := by first | (rw [af]; with_reducible exact H) | (have H2_ := (Option.bind_some _ _).symm.trans H; rw [af]; with_reducible exact H2_) | (have H2_ := (Option.bind_some _ _).symm.trans H; with_reducible exact H2_) | with_reducible exact H | (rw [af]; exact H) | exact H
        have Ny280 := zK af; clear af; have H' := zK H; clear H
        have ay : 0 ≤ (aa : Int) := of_decide_eq_true (by first | (with_reducible assumption) | assumption)
        have az : aa < (l0.length : Int) := of_decide_eq_true (by first | (with_reducible assumption) | assumption)
        obtain ⟨ad276, aA, aB, e276, ad, ag, ah⟩ := at_L7 HR0.out aa ay az
        cases e276
        replace ad := (HB.out.cell (World.block_lt_of_cell? w _ ad)).trans ad
        have am := zK ah; have an := zK ag; clear ah ag; replace ay := eq_true ay; replace az := eq_true az
        go_wp2_with (first | ((with_reducible refine gate_callee (f := 82) rfl ?_); refine goesL_ (some 20) rfl rfl Try.func82 (by kernel_rfl) rfl #[.slice aA (rd_L7 l0 aa).length aB] rfl (by (try simp only [List.map_toArray, List.map_cons, List.map_nil]); first | done | rfl | (simp only [List.length_drop, List.length_take]; rfl)) ?_; (with_reducible refine (laws_toKeptS.calls k1 _ _ (rd_L7 l0 aa) al _ ?side1 ?side2 A8.out).mono ?_); (case side1 => repeat (first | exact (Kd.C_below am.out HB.out) | (with_reducible refine Kd.C_alloc ?_ _) | (with_reducible refine Kd.C_drewN ?_ _) | (with_reducible refine Kd.C_drew ?_))); (case side2 => exact an.out); rintro e w11 ⟨aj, rfl, ho0, hb⟩; refine ⟨_, rfl, ?_⟩; have ap := zK (Kd.S_elder' (zT ab) (Kd.R_base ho0) hb); have aq := zK (Kd.R_lower ho0 (below_size (zb HB))); have n2_ := zK (below_step (zb HB) hb); clear ab; clear HB; have ab := ap; have ak := aq; have HB := n2_; clear ap aq n2_; (try clear hb); (try clear hk); (try clear ho0); have p10 : 0 ≤ (aa : Int) := of_decide_eq_true (by first | (with_reducible assumption) | assumption); have q10 : (aa : Int) < ((ac.length : Int) : Int) := of_decide_eq_true (by first | (with_reducible assumption) | assumption); obtain ⟨ai, aJ, aK, aL, gl10, cl10, aM⟩ := Kd.S_form ab.out (by omega); (first | cases aK | (injection aK with ea_ en_ ec_; (first | subst ea_ | (injection ea_ with ea_; subst ea_)); subst ec_; clear en_)); have GB10 := zK aL; have GG10 := zK aM; clear aL gl10 aM; obtain ⟨_, ce10, aN, aO, ar, au, _, _⟩ := Kd.S_elem ab.out [] (aa : Int) p10 q10; obtain ⟨ve10_0, rfl, ge10_0⟩ := aO; have aC := ar 0 _ rfl; have aD := au 0; (try simp only [show ((Kd.slice 30 k30)).sz = 1 from rfl, Nat.mul_one, Nat.add_zero] at aC); (try simp only [show ((Kd.slice 30 k30)).sz = 1 from rfl, Nat.mul_one, Nat.add_zero] at aD); clear aN ar au; (try clear aO); replace p10 := eq_true p10; replace q10 := eq_true q10; have n_ := zK (Kd.S_mono (ok' := (fun k_ => some k_ ≠ (aj : Value).ownBlock)) ab.out (fun k_ hk => hk.2)); clear ab; have ab := n_; clear n_; have HX12 := zK (show Kd.S (Kd.slice 30 k30) 28 w11 w.heap.size (fun k_ => ((fun _ => True)) k_ ∧ ¬ ((fun k_ => some k_ = (aj : Value).ownBlock)) k_) (.slice (some ⟨ai, 0, none⟩) ac.length aJ) ac from (by (with_reducible repeat (first | apply Kd.S_alloc | apply Kd.S_drewN | apply Kd.S_drew)); exact Kd.S_mono ab.out (fun k_ hk => ⟨trivial, fun e_ => hk e_⟩))); obtain ⟨oki12, ce12, aP, aQ, av, aw, aE, aR⟩ := Kd.S_elem HX12.out [] (aa : Int) (of_decide_eq_true (by first | (with_reducible assumption) | assumption)) (by have h_ : (aa : Int) < ((ac.length : Int) : Int) := of_decide_eq_true (by first | (with_reducible assumption) | assumption); first | exact h_ | (have e_ := (Kd.S_reads' ab.out).1; omega) | simpa using h_); obtain ⟨ve12_0, rfl, ge12_0⟩ := aQ; have ao := Kd.S_seg aR (of_decide_eq_true (by first | (with_reducible assumption) | assumption)) (by have h_ : (aa : Int) < ((ac.length : Int) : Int) := of_decide_eq_true (by first | (with_reducible assumption) | assumption); first | exact h_ | (have e_ := (Kd.S_reads' ab.out).1; omega) | simpa using h_) (seg := [aj]) (j := 0) (show 1 ≤ 1 from by decide) (x' := al) (Kd.M_row (Kd.R_mono (Kd.R_tight rfl (Kd.R_mono (ok' := fun k_ => ((fun _ => True)) k_ ∧ k_ ≠ ai) (Kd.R_apart' (ak.out) (Kd.S_typed ab.out) (by decide)) (fun k_ hk => ⟨trivial, fun e_ => (hk.2) (by rw [e_]; rfl)⟩))) (fun _ h_ => Or.inr (h_)))) (fun _ hk => hk) (fun k_ hk_ => ((Kd.R_mono (ok' := fun k_ => ((fun _ => True)) k_ ∧ k_ ≠ ai) (Kd.R_apart' (ak.out) (Kd.S_typed ab.out) (by decide)) (fun k_ hk => ⟨trivial, fun e_ => (hk.2) (by rw [e_]; rfl)⟩))).1 k_ hk_.symm); have aF := av 0 _ rfl; (try simp only [show ((Kd.slice 30 k30)).sz = 1 from rfl, Nat.mul_one, Nat.add_zero] at aF); have aG := aw 0; (try simp only [show ((Kd.slice 30 k30)).sz = 1 from rfl, Nat.mul_one, Nat.add_zero] at aG); clear aP av aw aE aR; (try clear aQ); (try simp only [show ((Kd.slice 30 k30)).sz = 1 from rfl, Nat.mul_one, Nat.add_zero] at ao)) | ((with_reducible refine gate_store (t := 28) (p := 21) rfl ?_); refine store_event (t := 28) (p := 21) (v := ?vo_w13) (w1 := (w11.setCell ⟨ai, (aa : Int).toNat, none⟩ (aj))) ?hg ?ho ?hn ?hr ?_; (case ho => rfl); (case hg => rfl); (case hn => rfl); (case hr => first | (go_simp; done) | (go_simp; rfl) | (obtain ⟨A_, c_, he_⟩ := Kd.R_slice (v := aj) (Aside0.out (by assumption)); rw [he_]; first | (go_simp; done) | (go_simp; rfl))); intro w13 hw; have hg : w11.grownBy w13 (some ai) := (by rw [hw]; exact ao.2); have hp_ : Kd.S (Kd.slice 30 k30) 28 w13 w.heap.size (fun _ => True) (.slice (some ⟨ai, 0, none⟩) ac.length aJ) ax := (by rw [hw, Ny280.out]; exact ao.1); clear ao; have ap := zK (hp_); have aq := zK ((by rw [hw]; exact zS (HB.out) GB10.out : Below w.heap.size w w13)); clear ab; clear HB; clear ak; have ab := ap; have HB := aq; clear ap aq; clear hg hw hp_))
        go_roundg k1
        case measure => have := HK1.out; omega
        case rel => exact ⟨(ax), (wrap64 (aa + 1)), (by first | rfl | (simp; done) | (simp [*]; done)), H', ⟨by have := HK1.out; omega⟩, ⟨zT ab⟩, ⟨zb HB⟩⟩
       ·rw [if_neg c9] at H
        exact absurd H (by simp)
      ·rw [if_neg c7] at H
       exact absurd H (by simp)
     ·rw [if_neg c6] at H
      have c6b0 : decide (aa < (l0.length : Int)) = false := decide_eq_false c6
      clear c6; obtain rfl := Option.some.inj H
      go_wp2
      go_ret
      exact ⟨_, by first | rfl | (simp [errW_none, errW_some] <;> rfl) | (simp [*, errW_none, errW_some] <;> rfl), by (with_reducible repeat (first | apply Kd.S_alloc | apply Kd.S_drewN | apply Kd.S_drew)); exact ab.out, by repeat (first | (with_reducible first | exact HB.out | apply zB | apply zC | apply zE) | exact HB.out)⟩
  ·rw [if_neg c3] at H
   exact absurd H (by simp)
 ·rw [if_neg c2] at H
  exact absurd H (by simp)
def laws_toStore.f (k : Nat) (a0_0 : Int) (l0_1 : List (List (S98))) : Option (Int × (List (List (S30)))) := (laws_toKeptSS.f k l0_1).bind fun t284 => (some (a0_0, t284))
set_option maxHeartbeats 8000000 in
set_option maxRecDepth 100000 in
theorem laws_toStore.calls (k : Nat) (a0_0 : Int) (aj : Option Addr) (ak : Nat) (ag : List (List (S98))) (r1 : Int) (r2 : List (List (S30))) (w : World) (az : Kd.C (Kd.slice 98 k98) w aj ag.length ag) (hc0_1 : ag.length ≤ ak) (h : laws_toStore.f k a0_0 ag = some (r1, r2)) :
  Calls Try.prog 21 #[.agg #[.int .i64 a0_0, .slice aj ag.length ak]] w fun e w' => ∃ v1_ : Value, e = .returned (.agg #[.int .i64 r1, v1_]) ∧ Kd.S (Kd.slice 30 k30) 28 w' w.heap.size (fun _ => True) v1_ r2 ∧ Below w.heap.size w w' := by
 have hu36 := Try.underlying36; have hu24 := Try.underlying24; have aE := zK az; have aF := zK hc0_1; clear az hc0_1
 have HB := zK (Below.refl w.heap.size w)
 have H : ((laws_toKeptSS.f k ag).bind fun an => (some (a0_0, an))) = some (r1, r2) := h
 clear h; replace H := Option.bind_eq_some_iff.mp H
 obtain ⟨an, A20, H⟩ := H
 replace H : (some (a0_0, an)) = some (r1, r2) := H
 have A2 := zK A20; clear A20
 simp only [Option.some.injEq, Prod.mk.injEq] at H
 obtain ⟨rfl, rfl⟩ := H
 go_enter Try.func21, Try.ntmps21
 go_wp2_with (first | ((with_reducible refine gate_dst (N := 1) rfl ?_); refine box_event ?hg (N := 1) ?hd (cs := #[.int .i64 a0_0, .slice aj ag.length ak]) (t := 36) ?hr ?_; (case hd => rfl); (case hg => rfl); (case hr => first | (go_simp; done) | (go_simp; rfl)); intro ab hg w3 hbox hb; have av := zK (below_step (zb HB) hb); have aw := zK (hbox); have ax := zK ((by rw [hg]; exact (below_size (zb HB)) : w.heap.size ≤ ab)); have ay := zK ((by rw [hg]; exact (below_size (zb HB)) : w.heap.size ≤ ab)); clear HB; have HB := av; have aa := aw; have GW281 := ax; have ah := ay; clear av aw ax ay; clear hb hbox hg) | ((with_reducible refine gate_dst (N := 2) rfl ?_); refine box_event ?hg (N := 2) ?hd (cs := #[.int .i64 0, .slice none 0 0]) (t := 24) ?hr ?_; (case hd => rfl); (case hg => rfl); (case hr => first | (go_simp; done) | (go_simp; rfl)); intro ac hg w4 hbox hb; have av := zK (blk_below (g := ab) (o := .cells #[.int .i64 a0_0, .slice aj ag.length ak] 36 (0, 0)) (zk aa) hb); have aw := zK (below_step (zb HB) hb); have ax := zK (hbox); have ay := zK ((by rw [hg]; exact (below_size (zb HB)) : w.heap.size ≤ ac)); have aA := zK ((by rw [hg]; exact (below_size (zb HB)) : w.heap.size ≤ ac)); have aG := zK ((by rw [hg]; exact Nat.ne_of_lt (blk_lt (g := ab) (o := .cells #[.int .i64 a0_0, .slice aj ag.length ak] 36 (0, 0)) (zk aa)) : ab ≠ ac)); have aH := zK ((by rw [hg]; exact Nat.ne_of_gt (blk_lt (g := ab) (o := .cells #[.int .i64 a0_0, .slice aj ag.length ak] 36 (0, 0)) (zk aa)) : ac ≠ ab)); clear aa; clear HB; have aa := av; have HB := aw; have ad := ax; have GW282 := ay; have al := aA; have ap := aG; have aq := aH; clear av aw ax ay aA aG aH; clear hb hbox hg) | ((with_reducible refine gate_dst (N := 3) rfl ?_); refine box_event ?hg (N := 3) ?hd (cs := #[.int .i64 0, .slice none 0 0]) (t := 24) ?hr ?_; (case hd => rfl); (case hg => rfl); (case hr => first | (go_simp; done) | (go_simp; rfl)); intro ae hg w5 hbox hb; have av := zK (blk_below (g := ab) (o := .cells #[.int .i64 a0_0, .slice aj ag.length ak] 36 (0, 0)) (zk aa) hb); have aw := zK (blk_below (g := ac) (o := .cells #[.int .i64 0, .slice none 0 0] 24 (0, 0)) (zk ad) hb); have ax := zK (below_step (zb HB) hb); have ay := zK (hbox); have aA := zK ((by rw [hg]; exact (below_size (zb HB)) : w.heap.size ≤ ae)); have aG := zK ((by rw [hg]; exact (below_size (zb HB)) : w.heap.size ≤ ae)); have aH := zK ((by rw [hg]; exact Nat.ne_of_lt (blk_lt (g := ab) (o := .cells #[.int .i64 a0_0, .slice aj ag.length ak] 36 (0, 0)) (zk aa)) : ab ≠ ae)); have n7_ := zK ((by rw [hg]; exact Nat.ne_of_gt (blk_lt (g := ab) (o := .cells #[.int .i64 a0_0, .slice aj ag.length ak] 36 (0, 0)) (zk aa)) : ae ≠ ab)); have n8_ := zK ((by rw [hg]; exact Nat.ne_of_lt (blk_lt (g := ac) (o := .cells #[.int .i64 0, .slice none 0 0] 24 (0, 0)) (zk ad)) : ac ≠ ae)); have n9_ := zK ((by rw [hg]; exact Nat.ne_of_gt (blk_lt (g := ac) (o := .cells #[.int .i64 0, .slice none 0 0] 24 (0, 0)) (zk ad)) : ae ≠ ac)); clear aa; clear ad; clear HB; have aa := av; have ad := aw; have HB := ax; have af := ay; have GW283 := aA; have ao := aG; have am := aH; have ar := n7_; have ai := n8_; have au := n9_; clear av aw ax ay aA aG aH n7_ n8_ n9_; clear hb hbox hg; have hnb6 := ap.out; have hnc6 := aq.out; have hnb7 := am.out; have hnc7 := ar.out; have hcz8_0 : w5.cell? ⟨ab, 0, none⟩ = some (.int .i64 a0_0) := (blk_cell aa.out 0).trans rfl; have hcz8_1 : w5.cell? ⟨ab, 1, none⟩ = some (.slice aj ag.length ak) := (blk_cell aa.out 1).trans rfl; have hfz8_0 := blk_frozen aa.out 0; have hfz8_1 := blk_frozen aa.out 1; have hnb9 := au.out; have hnc9 := ai.out; have hcz10_0 : w5.cell? ⟨ae, 0, none⟩ = some (.int .i64 0) := (blk_cell af.out 0).trans rfl; have hcz10_1 : w5.cell? ⟨ae, 1, none⟩ = some (.slice none 0 0) := (blk_cell af.out 1).trans rfl; have hfz10_0 := blk_frozen af.out 0; have hfz10_1 := blk_frozen af.out 1) | ((with_reducible refine gate_callee (f := 55) rfl ?_); refine goesL_ (some 9) rfl rfl Try.func55 (by kernel_rfl) rfl #[.slice aj ag.length ak] rfl (by (try simp only [List.map_toArray, List.map_cons, List.map_nil]); first | done | rfl | (simp only [List.length_drop, List.length_take]; rfl)) ?_; (with_reducible refine (laws_toKeptSS.calls k _ _ ag an _ ?side1 ?side2 A2.out).mono ?_); (case side1 => exact Kd.C_below aE.out (zb HB)); (case side2 => exact aF.out); rintro e w11 ⟨v285, rfl, ho0, hb⟩; refine ⟨_, rfl, ?_⟩; have av := zK (Kd.S_lower ho0 (below_size (zb HB))); have aw := zK (blk_below (g := ab) (o := .cells #[.int .i64 a0_0, .slice aj ag.length ak] 36 (0, 0)) (by (with_reducible repeat (first | refine zN ?_ _ | refine zD ?_ | refine zA ?_ _)); refine blk_far ?_ am.out _; (with_reducible repeat (first | refine zN ?_ _ | refine zD ?_ | refine zA ?_ _)); exact aa.out) hb); have ax := zK (blk_below (g := ac) (o := .cells #[.int .i64 0, .slice none 0 0] 24 (0, 0)) (by (with_reducible repeat (first | refine zN ?_ _ | refine zD ?_ | refine zA ?_ _)); refine blk_far ?_ ai.out _; (with_reducible repeat (first | refine zN ?_ _ | refine zD ?_ | refine zA ?_ _)); exact ad.out) hb); have ay := zK (blk_below (g := ae) (o := .cells #[.int .i64 a0_0, .slice none 0 0] 24 (0, 0)) (by (with_reducible repeat (first | refine zN ?_ _ | refine zD ?_ | refine zA ?_ _)); refine blk_put (cs := #[.int .i64 0, .slice none 0 0]) ?_ 0 _ rfl; (with_reducible repeat (first | refine zN ?_ _ | refine zD ?_ | refine zA ?_ _)); exact af.out) hb); have aA := zK (below_step (zb HB) hb); clear aa; clear ad; clear af; clear HB; have aB := av; have aa := aw; have ad := ax; have af := ay; have HB := aA; clear av aw ax ay aA; (try clear hb); (try clear ho0); obtain ⟨aC, aD, eo12⟩ := Kd.S_slice aB.out; subst eo12; have hcz13_0 : w11.cell? ⟨ae, 0, none⟩ = some (.int .i64 a0_0) := (blk_cell af.out 0).trans rfl; have hcz13_1 : w11.cell? ⟨ae, 1, none⟩ = some (.slice none 0 0) := (blk_cell af.out 1).trans rfl; have hfz13_0 := blk_frozen af.out 0; have hfz13_1 := blk_frozen af.out 1; have hcz14_0 : w11.cell? ⟨ac, 0, none⟩ = some (.int .i64 0) := (blk_cell ad.out 0).trans rfl; have hcz14_1 : w11.cell? ⟨ac, 1, none⟩ = some (.slice none 0 0) := (blk_cell ad.out 1).trans rfl; have hfz14_0 := blk_frozen ad.out 0; have hfz14_1 := blk_frozen ad.out 1))
 refine bodyPost_ret (results_cell_row rfl _ _ ac 24 #[.int .i64 a0_0, .slice aC an.length aD] (0, 0) _ rfl (by (with_reducible repeat (first | refine zN ?_ _ | refine zD ?_ | refine zA ?_ _)); refine blk_put (cs := #[.int .i64 a0_0, .slice none 0 0]) ?_ 1 _ rfl; (with_reducible repeat (first | refine zN ?_ _ | refine zD ?_ | refine zA ?_ _)); refine blk_put (cs := #[.int .i64 0, .slice none 0 0]) ?_ 0 _ rfl; (with_reducible repeat (first | refine zN ?_ _ | refine zD ?_ | refine zA ?_ _)); refine blk_far ?_ ai.out _; (with_reducible repeat (first | refine zN ?_ _ | refine zD ?_ | refine zA ?_ _)); exact ad.out) Try.underlying24 rfl (by kernel_rfl)) rfl ?_
 exact ⟨_, by first | rfl | (simp [errW_none, errW_some] <;> rfl) | (simp [*, errW_none, errW_some] <;> rfl), by (with_reducible repeat (first | apply Kd.S_alloc | apply Kd.S_drewN | apply Kd.S_drew)); exact Kd.S_mono (Kd.S_far (p := ⟨ac, 1, none⟩) (Kd.S_far (p := ⟨ac, 0, none⟩) (Kd.S_far (p := ⟨ae, 1, none⟩) (Kd.S_types (Kd.S_types aB.out af.out (by decide)) ad.out (by decide)) (fun _ hk => hk.1.2) (.slice aC an.length aD)) (fun _ hk => hk.2) (.int .i64 a0_0)) (fun _ hk => hk.2) (.slice aC an.length aD)) (fun _ hk => trivial), by repeat (first | (with_reducible first | exact HB.out | apply zB | apply zC | apply zE | refine zS ?_ ah.out | refine zS ?_ al.out | refine zS ?_ ao.out) | exact HB.out)⟩
def laws_eqKept.f (a0_0 : Int) (a0_1 : Int) (a1_0 : Int) (a1_1 : Int) : Option (Bool) := if a0_0 = a1_0 then (if a0_1 = a1_1 then (some true) else (some false)) else (some false)
set_option maxHeartbeats 8000000 in
set_option maxRecDepth 100000 in
theorem laws_eqKept.calls (a0_0 : Int) (a0_1 : Int) (a1_0 : Int) (a1_1 : Int) (r : Bool) (w : World) (h : laws_eqKept.f a0_0 a0_1 a1_0 a1_1 = some r) :
  Calls Try.prog 100 #[.agg #[.int .i64 a0_0, .int .i64 a0_1], .agg #[.int .i64 a1_0, .int .i64 a1_1]] w fun e w' => e = .returned (.bool r) ∧ Below w.heap.size w w' := by
 have hu30 := Try.underlying30
 have HB := zK (Below.refl w.heap.size w)
 have H : (if a0_0 = a1_0 then (if a0_1 = a1_1 then (some true) else (some false)) else (some false)) = some r := h
 clear h
 by_cases c3 : a0_0 = a1_0
 ·rw [if_pos c3] at H
  have c3b0 : (a0_0 == a1_0) = true := beq_iff_eq.mpr c3
  have c3b1 : (a0_0 != a1_0) = false := bne_eq_false_iff_eq.mpr c3
  clear c3
  by_cases c4 : a0_1 = a1_1
  ·rw [if_pos c4] at H
   have c4b0 : (a0_1 == a1_1) = true := beq_iff_eq.mpr c4
   have c4b1 : (a0_1 != a1_1) = false := bne_eq_false_iff_eq.mpr c4
   clear c4; obtain rfl := Option.some.inj H
   go_enter Try.func100, Try.ntmps100
   go_wp2_with (first | ((with_reducible refine gate_dst (N := 2) rfl ?_); refine box_event ?hg (N := 2) ?hd (cs := #[.int .i64 a0_0, .int .i64 a0_1]) (t := 30) ?hr ?_; (case hd => rfl); (case hg => rfl); (case hr => first | (go_simp; done) | (go_simp; rfl)); intro aa hg w5 hbox hb; have ah := zK (below_step (zb HB) hb); have ai := zK (hbox); have aj := zK ((by rw [hg]; exact (below_size (zb HB)) : w.heap.size ≤ aa)); have ak := zK ((by rw [hg]; exact (below_size (zb HB)) : w.heap.size ≤ aa)); clear HB; have HB := ah; have ab := ai; have am := aj; have ad := ak; clear ah ai aj ak; clear hb hbox hg) | ((with_reducible refine gate_dst (N := 3) rfl ?_); refine box_event ?hg (N := 3) ?hd (cs := #[.int .i64 a1_0, .int .i64 a1_1]) (t := 30) ?hr ?_; (case hd => rfl); (case hg => rfl); (case hr => first | (go_simp; done) | (go_simp; rfl)); intro ac hg w6 hbox hb; have ah := zK (blk_below (g := aa) (o := .cells #[.int .i64 a0_0, .int .i64 a0_1] 30 (0, 0)) (zk ab) hb); have ai := zK (below_step (zb HB) hb); have aj := zK (hbox); have ak := zK ((by rw [hg]; exact (below_size (zb HB)) : w.heap.size ≤ ac)); have an := zK ((by rw [hg]; exact (below_size (zb HB)) : w.heap.size ≤ ac)); have ao := zK ((by rw [hg]; exact Nat.ne_of_lt (blk_lt (g := aa) (o := .cells #[.int .i64 a0_0, .int .i64 a0_1] 30 (0, 0)) (zk ab)) : aa ≠ ac)); have ap := zK ((by rw [hg]; exact Nat.ne_of_gt (blk_lt (g := aa) (o := .cells #[.int .i64 a0_0, .int .i64 a0_1] 30 (0, 0)) (zk ab)) : ac ≠ aa)); clear ab; clear HB; have ab := ah; have HB := ai; have ae := aj; have aq := ak; have al := an; have af := ao; have ag := ap; clear ah ai aj ak an ao ap; clear hb hbox hg; have hnb7 := af.out; have hnc7 := ag.out; have hcz8_0 : w6.cell? ⟨aa, 0, none⟩ = some (.int .i64 a0_0) := (blk_cell ab.out 0).trans rfl; have hcz8_1 : w6.cell? ⟨aa, 1, none⟩ = some (.int .i64 a0_1) := (blk_cell ab.out 1).trans rfl; have hfz8_0 := blk_frozen ab.out 0; have hfz8_1 := blk_frozen ab.out 1; have hcz9_0 : w6.cell? ⟨ac, 0, none⟩ = some (.int .i64 a1_0) := (blk_cell ae.out 0).trans rfl; have hcz9_1 : w6.cell? ⟨ac, 1, none⟩ = some (.int .i64 a1_1) := (blk_cell ae.out 1).trans rfl; have hfz9_0 := blk_frozen ae.out 0; have hfz9_1 := blk_frozen ae.out 1))
   go_ret
   exact ⟨by first | rfl | (simp [errW_none, errW_some] <;> rfl) | (simp [*, errW_none, errW_some] <;> rfl), by repeat (first | (with_reducible first | exact HB.out | apply zB | apply zC | apply zE | refine zS ?_ ad.out | refine zS ?_ al.out) | exact HB.out)⟩
  ·rw [if_neg c4] at H
   have c4b0 : (a0_1 == a1_1) = false := beq_eq_false_iff_ne.mpr c4
   have c4b1 : (a0_1 != a1_1) = true := bne_iff_ne.mpr c4
   obtain rfl := Option.some.inj H
   go_enter Try.func100, Try.ntmps100
   go_wp2_with (first | ((with_reducible refine gate_dst (N := 2) rfl ?_); refine box_event ?hg (N := 2) ?hd (cs := #[.int .i64 a0_0, .int .i64 a0_1]) (t := 30) ?hr ?_; (case hd => rfl); (case hg => rfl); (case hr => first | (go_simp; done) | (go_simp; rfl)); intro aa hg w10 hbox hb; have ah := zK (below_step (zb HB) hb); have ai := zK (hbox); have aj := zK ((by rw [hg]; exact (below_size (zb HB)) : w.heap.size ≤ aa)); have ak := zK ((by rw [hg]; exact (below_size (zb HB)) : w.heap.size ≤ aa)); clear HB; have HB := ah; have ab := ai; have am := aj; have ad := ak; clear ah ai aj ak; clear hb hbox hg) | ((with_reducible refine gate_dst (N := 3) rfl ?_); refine box_event ?hg (N := 3) ?hd (cs := #[.int .i64 a1_0, .int .i64 a1_1]) (t := 30) ?hr ?_; (case hd => rfl); (case hg => rfl); (case hr => first | (go_simp; done) | (go_simp; rfl)); intro ac hg w11 hbox hb; have ah := zK (blk_below (g := aa) (o := .cells #[.int .i64 a0_0, .int .i64 a0_1] 30 (0, 0)) (zk ab) hb); have ai := zK (below_step (zb HB) hb); have aj := zK (hbox); have ak := zK ((by rw [hg]; exact (below_size (zb HB)) : w.heap.size ≤ ac)); have an := zK ((by rw [hg]; exact (below_size (zb HB)) : w.heap.size ≤ ac)); have ao := zK ((by rw [hg]; exact Nat.ne_of_lt (blk_lt (g := aa) (o := .cells #[.int .i64 a0_0, .int .i64 a0_1] 30 (0, 0)) (zk ab)) : aa ≠ ac)); have ap := zK ((by rw [hg]; exact Nat.ne_of_gt (blk_lt (g := aa) (o := .cells #[.int .i64 a0_0, .int .i64 a0_1] 30 (0, 0)) (zk ab)) : ac ≠ aa)); clear ab; clear HB; have ab := ah; have HB := ai; have ae := aj; have aq := ak; have al := an; have af := ao; have ag := ap; clear ah ai aj ak an ao ap; clear hb hbox hg; have hnb12 := af.out; have hnc12 := ag.out; have hcz13_0 : w11.cell? ⟨aa, 0, none⟩ = some (.int .i64 a0_0) := (blk_cell ab.out 0).trans rfl; have hcz13_1 : w11.cell? ⟨aa, 1, none⟩ = some (.int .i64 a0_1) := (blk_cell ab.out 1).trans rfl; have hfz13_0 := blk_frozen ab.out 0; have hfz13_1 := blk_frozen ab.out 1; have hcz14_0 : w11.cell? ⟨ac, 0, none⟩ = some (.int .i64 a1_0) := (blk_cell ae.out 0).trans rfl; have hcz14_1 : w11.cell? ⟨ac, 1, none⟩ = some (.int .i64 a1_1) := (blk_cell ae.out 1).trans rfl; have hfz14_0 := blk_frozen ae.out 0; have hfz14_1 := blk_frozen ae.out 1))
   go_ret
   exact ⟨by first | rfl | (simp [errW_none, errW_some] <;> rfl) | (simp [*, errW_none, errW_some] <;> rfl), by repeat (first | (with_reducible first | exact HB.out | apply zB | apply zC | apply zE | refine zS ?_ ad.out | refine zS ?_ al.out) | exact HB.out)⟩
 ·rw [if_neg c3] at H
  have c3b0 : (a0_0 == a1_0) = false := beq_eq_false_iff_ne.mpr c3
  have c3b1 : (a0_0 != a1_0) = true := bne_iff_ne.mpr c3
  obtain rfl := Option.some.inj H
  go_enter Try.func100, Try.ntmps100
  go_wp2_with (first | ((with_reducible refine gate_dst (N := 2) rfl ?_); refine box_event ?hg (N := 2) ?hd (cs := #[.int .i64 a0_0, .int .i64 a0_1]) (t := 30) ?hr ?_; (case hd => rfl); (case hg => rfl); (case hr => first | (go_simp; done) | (go_simp; rfl)); intro aa hg w15 hbox hb; have ah := zK (below_step (zb HB) hb); have ai := zK (hbox); have aj := zK ((by rw [hg]; exact (below_size (zb HB)) : w.heap.size ≤ aa)); have ak := zK ((by rw [hg]; exact (below_size (zb HB)) : w.heap.size ≤ aa)); clear HB; have HB := ah; have ab := ai; have am := aj; have ad := ak; clear ah ai aj ak; clear hb hbox hg) | ((with_reducible refine gate_dst (N := 3) rfl ?_); refine box_event ?hg (N := 3) ?hd (cs := #[.int .i64 a1_0, .int .i64 a1_1]) (t := 30) ?hr ?_; (case hd => rfl); (case hg => rfl); (case hr => first | (go_simp; done) | (go_simp; rfl)); intro ac hg w16 hbox hb; have ah := zK (blk_below (g := aa) (o := .cells #[.int .i64 a0_0, .int .i64 a0_1] 30 (0, 0)) (zk ab) hb); have ai := zK (below_step (zb HB) hb); have aj := zK (hbox); have ak := zK ((by rw [hg]; exact (below_size (zb HB)) : w.heap.size ≤ ac)); have an := zK ((by rw [hg]; exact (below_size (zb HB)) : w.heap.size ≤ ac)); have ao := zK ((by rw [hg]; exact Nat.ne_of_lt (blk_lt (g := aa) (o := .cells #[.int .i64 a0_0, .int .i64 a0_1] 30 (0, 0)) (zk ab)) : aa ≠ ac)); have ap := zK ((by rw [hg]; exact Nat.ne_of_gt (blk_lt (g := aa) (o := .cells #[.int .i64 a0_0, .int .i64 a0_1] 30 (0, 0)) (zk ab)) : ac ≠ aa)); clear ab; clear HB; have ab := ah; have HB := ai; have ae := aj; have aq := ak; have al := an; have af := ao; have ag := ap; clear ah ai aj ak an ao ap; clear hb hbox hg; have hnb17 := af.out; have hnc17 := ag.out; have hcz18_0 : w16.cell? ⟨aa, 0, none⟩ = some (.int .i64 a0_0) := (blk_cell ab.out 0).trans rfl; have hcz18_1 : w16.cell? ⟨aa, 1, none⟩ = some (.int .i64 a0_1) := (blk_cell ab.out 1).trans rfl; have hfz18_0 := blk_frozen ab.out 0; have hfz18_1 := blk_frozen ab.out 1; have hcz19_0 : w16.cell? ⟨ac, 0, none⟩ = some (.int .i64 a1_0) := (blk_cell ae.out 0).trans rfl; have hcz19_1 : w16.cell? ⟨ac, 1, none⟩ = some (.int .i64 a1_1) := (blk_cell ae.out 1).trans rfl; have hfz19_0 := blk_frozen ae.out 0; have hfz19_1 := blk_frozen ae.out 1))
  go_ret
  exact ⟨by first | rfl | (simp [errW_none, errW_some] <;> rfl) | (simp [*, errW_none, errW_some] <;> rfl), by repeat (first | (with_reducible first | exact HB.out | apply zB | apply zC | apply zE | refine zS ?_ ad.out | refine zS ?_ al.out) | exact HB.out)⟩
def laws_eqKeptS.l0 : Nat → List (S30) → List (S30) → Int → Option (Bool)
 | 0, _, _, _ => none
 | k + 1, x0, x1, x5 => if x5 < (x0.length : Int) then (if 0 ≤ x5 then (if x5 < (x1.length : Int) then ((laws_eqKept.f ((rd_T30 x0 x5).f0) ((rd_T30 x0 x5).f1) ((rd_T30 x1 x5).f0) ((rd_T30 x1 x5).f1)).bind fun t291 => (if t291 = true then (laws_eqKeptS.l0 k x0 x1 (wrap64 (x5 + 1))) else (some false))) else (none)) else (none)) else (some true)
def laws_eqKeptS.f (k : Nat) (l0 : List (S30)) (l1 : List (S30)) : Option (Bool) := if (l0.length : Int) = (l1.length : Int) then (laws_eqKeptS.l0 k l0 l1 0) else (some false)
def laws_eqKeptS.T6 : Bool × List (List Nat × List Nat) := (true, [([], []), ([], []), ([0, 1], [0, 1]), ([2], [2]), ([], []), ([], []), ([4, 5], [4, 5]), ([6], [6]), ([3, 7], [3, 7]), ([8], [8])])
def laws_eqKeptS.B6 : List Nat := [0, 0, 3, 7, 0, 0, 48, 112, 255, 511]
theorem laws_eqKeptS.tab6 : rtab .any (opsOf Try.f86 6) = laws_eqKeptS.T6 := by kernel_rfl
theorem laws_eqKeptS.bits6 : waitsOk laws_eqKeptS.T6.2 laws_eqKeptS.B6 = true := by kernel_rfl
set_option maxHeartbeats 8000000 in
set_option maxRecDepth 100000 in
theorem laws_eqKeptS.calls (k : Nat) (A0 : Option Addr) (c0 : Nat) (l0 : List (S30)) (A1 : Option Addr) (c1 : Nat) (l1 : List (S30)) (r : Bool) (w : World) (hr0 : Kd.C k30 w A0 l0.length l0) (hc0 : l0.length ≤ c0) (hr1 : Kd.C k30 w A1 l1.length l1) (hc1 : l1.length ≤ c1) (h : laws_eqKeptS.f k l0 l1 = some r) :
  Calls Try.prog 86 #[.slice A0 l0.length c0, .slice A1 l1.length c1] w fun e w' => e = .returned (.bool r) ∧ Below w.heap.size w w' := by
 have hu30 := Try.underlying30; have HR0 := zK hr0; have HC0 := zK hc0; clear hr0 hc0; have HR1 := zK hr1; have HC1 := zK hc1; clear hr1 hc1
 have HB := zK (Below.refl w.heap.size w)
 have H : (if (l0.length : Int) = (l1.length : Int) then (laws_eqKeptS.l0 k l0 l1 0) else (some false)) = some r := h
 clear h
 by_cases c3 : (l0.length : Int) = (l1.length : Int)
 ·rw [if_pos c3] at H
  have au : ((l0.length : Int) == (l1.length : Int)) = true := beq_iff_eq.mpr c3
  have av : ((l0.length : Int) != (l1.length : Int)) = false := bne_eq_false_iff_eq.mpr c3
  have aw : (l0.length == l1.length) = true := by first | simpa using c3 | (simp at c3 ⊢; omega)
  clear c3; have H' := zK H; clear H
  go_enter Try.func86, Try.ntmps86
  go_wp2
  go_loopg [5] k (fun kq v5 w' => ∃ (aa : Int), v5 = .int .i64 aa ∧ Aside0 (laws_eqKeptS.l0 kq l0 l1 aa = some r) ∧ Aside0 (kq ≤ k) ∧ Aside0 (Below w.heap.size w w'))
  case atStart => exact ⟨(0), (by first | rfl | (simp; done) | (simp [*]; done)), H', ⟨Nat.le_refl _⟩, ⟨zb HB⟩⟩
  case round =>
   clear H'
   try clear c1
   try clear p2
   try clear c3
   try clear au
   try clear av
   try clear aw
   obtain ⟨aa, rfl, HA, HK1, HB⟩ := hrel
   cases gk with
   | zero => exact absurd HA.out (by simp [laws_eqKeptS.l0])
   | succ k1 =>
    have H := HA.out; clear HA
    simp only [laws_eqKeptS.l0] at H
    by_cases c4 : aa < (l0.length : Int)
    ·rw [if_pos c4] at H
     have c4b0 : decide (aa < (l0.length : Int)) = true := decide_eq_true c4
     clear c4
     by_cases c5 : 0 ≤ aa
     ·rw [if_pos c5] at H
      have c5b0 : decide (0 ≤ aa) = true := decide_eq_true c5
      clear c5
      by_cases c6 : aa < (l1.length : Int)
      ·rw [if_pos c6] at H
       have c6b0 : decide (aa < (l1.length : Int)) = true := decide_eq_true c6
       clear c6; replace H := Option.bind_eq_some_iff.mp H
       obtain ⟨ax, A70, H⟩ := H
       replace H : (if ax = true then (laws_eqKeptS.l0 k1 l0 l1 (wrap64 (aa + 1))) else (some false)) = some r := H
       have A7 := zK A70; clear A70
       by_cases c8 : ax = true
       ·subst c8
        have H1 : (laws_eqKeptS.l0 k1 l0 l1 (wrap64 (aa + 1))) = some r := by rw [if_pos rfl] at H; exact H
        clear H; have H := H1; clear H1; have H' := zK H; clear H
        try go_wp2
        have ap := zK (zE HB.out)
        clear HB; have HB := ap; clear ap
        have al : 0 ≤ (aa : Int) := of_decide_eq_true (by first | (with_reducible assumption) | assumption)
        have am : aa < (l0.length : Int) := of_decide_eq_true (by first | (with_reducible assumption) | assumption)
        obtain ⟨aj, aq, ab, ac⟩ := at_T30 HR0.out aa al am
        have af := ac; have ag := ab
        cases aq
        replace ab := (HB.out.cell (World.block_lt_of_cell? w _ ab)).trans ab
        replace ac := (HB.out.cell (World.block_lt_of_cell? w _ ac)).trans ac
        replace al := eq_true al; replace am := eq_true am
        have an : 0 ≤ (aa : Int) := of_decide_eq_true (by first | (with_reducible assumption) | assumption)
        have ao : aa < (l1.length : Int) := of_decide_eq_true (by first | (with_reducible assumption) | assumption)
        obtain ⟨ak, ar, ad, ae⟩ := at_T30 HR1.out aa an ao
        have ah := ae; have ai := ad
        cases ar
        replace ad := (HB.out.cell (World.block_lt_of_cell? w _ ad)).trans ad
        replace ae := (HB.out.cell (World.block_lt_of_cell? w _ ae)).trans ae
        replace an := eq_true an; replace ao := eq_true ao
        refine start_ (n := 10) (S := fun w' => w'.cell? (aj.add ((aa).toNat * 2)) = some (.int .i64 ((rd_T30 l0 aa).f0)) ∧ w'.cell? ⟨(aj.add ((aa).toNat * 2)).block, (aj.add ((aa).toNat * 2)).off + 1, none⟩ = some (.int .i64 ((rd_T30 l0 aa).f1)) ∧ w'.cell? (ak.add ((aa).toNat * 2)) = some (.int .i64 ((rd_T30 l1 aa).f0)) ∧ w'.cell? ⟨(ak.add ((aa).toNat * 2)).block, (ak.add ((aa).toNat * 2)).off + 1, none⟩ = some (.int .i64 ((rd_T30 l1 aa).f1))) (ds := []) #[ff, ff, ff, ff, ff, ff, ff, ff, ff, ff] (by kernel_rfl) rfl rfl ⟨((HB.out.cell (World.block_lt_of_cell? w _ ag)).trans ag), ((HB.out.cell (World.block_lt_of_cell? w _ af)).trans af), ((HB.out.cell (World.block_lt_of_cell? w _ ai)).trans ai), ((HB.out.cell (World.block_lt_of_cell? w _ ah)).trans ah)⟩ (fun hHeld => ?_); refine with_tabW laws_eqKeptS.tab6 laws_eqKeptS.bits6 (fun HT_ HW_ => ?_)
        generalize wr.drew = w9 at HB ab ac ad ae hHeld ⊢
        refine zu 0 (some 17) #[tt, ff, ff, ff, ff, ff, ff, ff, ff, ff] (any_of HT_.out (by kernel_rfl)) ?_
        refine zu 1 (some 18) #[tt, tt, ff, ff, ff, ff, ff, ff, ff, ff] (any_of HT_.out (by kernel_rfl)) ?_
        refine zu 2 (some 19) #[tt, tt, tt, ff, ff, ff, ff, ff, ff, ff] (any_of HT_.out (by kernel_rfl)) ?_
        refine zu 4 (some 21) #[tt, tt, tt, ff, tt, ff, ff, ff, ff, ff] (any_of HT_.out (by kernel_rfl)) ?_
        refine zu 5 (some 22) #[tt, tt, tt, ff, tt, tt, ff, ff, ff, ff] (any_of HT_.out (by kernel_rfl)) ?_
        refine zu 6 (some 23) #[tt, tt, tt, ff, tt, tt, tt, ff, ff, ff] (any_of HT_.out (by kernel_rfl)) ?_
        refine zt 3 (some 20) #[tt, tt, tt, tt, tt, tt, tt, ff, ff, ff] (take_ofW HT_.out HW_.out (by kernel_rfl)) hHeld ?_
        refine zt 7 (some 24) #[tt, tt, tt, tt, tt, tt, tt, tt, ff, ff] (take_ofW HT_.out HW_.out (by kernel_rfl)) hHeld ?_
        refine one_ (i := 8) (N := some 25) #[tt, tt, tt, tt, tt, tt, tt, tt, tt, ff] rfl rfl (one_of HT_.out (by kernel_rfl)) (by decide) (fun K hK => ?_)
        refine goes_ Try.func100 (by kernel_rfl) rfl #[.agg #[.int .i64 ((rd_T30 l0 aa).f0), .int .i64 ((rd_T30 l0 aa).f1)], .agg #[.int .i64 ((rd_T30 l1 aa).f0), .int .i64 ((rd_T30 l1 aa).f1)]] (by rfl) rfl rfl (by (try simp only [List.map_toArray, List.map_cons, List.map_nil]); first | done | rfl | (simp only [List.length_drop, List.length_take]; rfl)) ?_
        with_reducible refine (laws_eqKept.calls ((rd_T30 l0 aa).f0) ((rd_T30 l0 aa).f1) ((rd_T30 l1 aa).f0) ((rd_T30 l1 aa).f1) true _ A7.out).mono ?_
        rintro e w10 ⟨rfl, hb⟩
        refine ⟨_, rfl, ?_⟩
        have ap := zK (below_step (zb HB) hb)
        clear HB; have HB := ap; clear ap; (try clear hb); (try clear hb2); (try clear hk); (try clear hi)
        refine hK.out _ _ ⟨((HB.out.cell (World.block_lt_of_cell? w _ ag)).trans ag), ((HB.out.cell (World.block_lt_of_cell? w _ af)).trans af), ((HB.out.cell (World.block_lt_of_cell? w _ ai)).trans ai), ((HB.out.cell (World.block_lt_of_cell? w _ ah)).trans ah)⟩ (fun hHeld => ?_)
        clear hK K
        refine norm_ (a' := ?_) ?_ ?_
        rotate_left
        ·show Act.put _ (some 25) _ = _
         simp only [Act.put, zp, zq, zr, i64_w, i32_w]
         rfl
        refine zu 9 (some 26) #[tt, tt, tt, tt, tt, tt, tt, tt, tt, tt] (any_of HT_.out (by kernel_rfl)) ?_
        refine done_ (done_of HT_.out (by kernel_rfl)) ?_
        try go_wp2
        go_roundg k1
        case measure => have := HK1.out; omega
        case rel => exact ⟨(wrap64 (aa + 1)), (by first | rfl | (simp; done) | (simp [*]; done)), H', ⟨by have := HK1.out; omega⟩, ⟨zb HB⟩⟩
       ·replace c8 := Bool.eq_false_iff.mpr c8
        subst c8
        have H1 : (some false) = some r := by rw [if_neg (show ¬ (false = true) by decide)] at H; exact H
        clear H; have H := H1; clear H1; obtain rfl := Option.some.inj H
        try go_wp2
        have ap := zK (zE HB.out)
        clear HB; have HB := ap; clear ap
        have al : 0 ≤ (aa : Int) := of_decide_eq_true (by first | (with_reducible assumption) | assumption)
        have am : aa < (l0.length : Int) := of_decide_eq_true (by first | (with_reducible assumption) | assumption)
        obtain ⟨aj, aq, ab, ac⟩ := at_T30 HR0.out aa al am
        have af := ac; have ag := ab
        cases aq
        replace ab := (HB.out.cell (World.block_lt_of_cell? w _ ab)).trans ab
        replace ac := (HB.out.cell (World.block_lt_of_cell? w _ ac)).trans ac
        replace al := eq_true al; replace am := eq_true am
        have an : 0 ≤ (aa : Int) := of_decide_eq_true (by first | (with_reducible assumption) | assumption)
        have ao : aa < (l1.length : Int) := of_decide_eq_true (by first | (with_reducible assumption) | assumption)
        obtain ⟨ak, ar, ad, ae⟩ := at_T30 HR1.out aa an ao
        have ah := ae; have ai := ad
        cases ar
        replace ad := (HB.out.cell (World.block_lt_of_cell? w _ ad)).trans ad
        replace ae := (HB.out.cell (World.block_lt_of_cell? w _ ae)).trans ae
        replace an := eq_true an; replace ao := eq_true ao
        refine start_ (n := 10) (S := fun w' => w'.cell? (aj.add ((aa).toNat * 2)) = some (.int .i64 ((rd_T30 l0 aa).f0)) ∧ w'.cell? ⟨(aj.add ((aa).toNat * 2)).block, (aj.add ((aa).toNat * 2)).off + 1, none⟩ = some (.int .i64 ((rd_T30 l0 aa).f1)) ∧ w'.cell? (ak.add ((aa).toNat * 2)) = some (.int .i64 ((rd_T30 l1 aa).f0)) ∧ w'.cell? ⟨(ak.add ((aa).toNat * 2)).block, (ak.add ((aa).toNat * 2)).off + 1, none⟩ = some (.int .i64 ((rd_T30 l1 aa).f1))) (ds := []) #[ff, ff, ff, ff, ff, ff, ff, ff, ff, ff] (by kernel_rfl) rfl rfl ⟨((HB.out.cell (World.block_lt_of_cell? w _ ag)).trans ag), ((HB.out.cell (World.block_lt_of_cell? w _ af)).trans af), ((HB.out.cell (World.block_lt_of_cell? w _ ai)).trans ai), ((HB.out.cell (World.block_lt_of_cell? w _ ah)).trans ah)⟩ (fun hHeld => ?_); refine with_tabW laws_eqKeptS.tab6 laws_eqKeptS.bits6 (fun HT_ HW_ => ?_)
        generalize wr.drew = w11 at HB ab ac ad ae hHeld ⊢
        refine zu 0 (some 17) #[tt, ff, ff, ff, ff, ff, ff, ff, ff, ff] (any_of HT_.out (by kernel_rfl)) ?_
        refine zu 1 (some 18) #[tt, tt, ff, ff, ff, ff, ff, ff, ff, ff] (any_of HT_.out (by kernel_rfl)) ?_
        refine zu 2 (some 19) #[tt, tt, tt, ff, ff, ff, ff, ff, ff, ff] (any_of HT_.out (by kernel_rfl)) ?_
        refine zu 4 (some 21) #[tt, tt, tt, ff, tt, ff, ff, ff, ff, ff] (any_of HT_.out (by kernel_rfl)) ?_
        refine zu 5 (some 22) #[tt, tt, tt, ff, tt, tt, ff, ff, ff, ff] (any_of HT_.out (by kernel_rfl)) ?_
        refine zu 6 (some 23) #[tt, tt, tt, ff, tt, tt, tt, ff, ff, ff] (any_of HT_.out (by kernel_rfl)) ?_
        refine zt 3 (some 20) #[tt, tt, tt, tt, tt, tt, tt, ff, ff, ff] (take_ofW HT_.out HW_.out (by kernel_rfl)) hHeld ?_
        refine zt 7 (some 24) #[tt, tt, tt, tt, tt, tt, tt, tt, ff, ff] (take_ofW HT_.out HW_.out (by kernel_rfl)) hHeld ?_
        refine one_ (i := 8) (N := some 25) #[tt, tt, tt, tt, tt, tt, tt, tt, tt, ff] rfl rfl (one_of HT_.out (by kernel_rfl)) (by decide) (fun K hK => ?_)
        refine goes_ Try.func100 (by kernel_rfl) rfl #[.agg #[.int .i64 ((rd_T30 l0 aa).f0), .int .i64 ((rd_T30 l0 aa).f1)], .agg #[.int .i64 ((rd_T30 l1 aa).f0), .int .i64 ((rd_T30 l1 aa).f1)]] (by rfl) rfl rfl (by (try simp only [List.map_toArray, List.map_cons, List.map_nil]); first | done | rfl | (simp only [List.length_drop, List.length_take]; rfl)) ?_
        with_reducible refine (laws_eqKept.calls ((rd_T30 l0 aa).f0) ((rd_T30 l0 aa).f1) ((rd_T30 l1 aa).f0) ((rd_T30 l1 aa).f1) false _ A7.out).mono ?_
        rintro e w12 ⟨rfl, hb⟩
        refine ⟨_, rfl, ?_⟩
        have ap := zK (below_step (zb HB) hb)
        clear HB; have HB := ap; clear ap; (try clear hb); (try clear hb2); (try clear hk); (try clear hi)
        refine hK.out _ _ ⟨((HB.out.cell (World.block_lt_of_cell? w _ ag)).trans ag), ((HB.out.cell (World.block_lt_of_cell? w _ af)).trans af), ((HB.out.cell (World.block_lt_of_cell? w _ ai)).trans ai), ((HB.out.cell (World.block_lt_of_cell? w _ ah)).trans ah)⟩ (fun hHeld => ?_)
        clear hK K
        refine norm_ (a' := ?_) ?_ ?_
        rotate_left
        ·show Act.put _ (some 25) _ = _
         simp only [Act.put, zp, zq, zr, i64_w, i32_w]
         rfl
        refine zu 9 (some 26) #[tt, tt, tt, tt, tt, tt, tt, tt, tt, tt] (any_of HT_.out (by kernel_rfl)) ?_
        refine done_ (done_of HT_.out (by kernel_rfl)) ?_
        try go_wp2
        go_ret
        exact ⟨by first | rfl | (simp [errW_none, errW_some] <;> rfl) | (simp [*, errW_none, errW_some] <;> rfl), by repeat (first | (with_reducible first | exact HB.out | apply zB | apply zC | apply zE) | exact HB.out)⟩
      ·rw [if_neg c6] at H
       exact absurd H (by simp)
     ·rw [if_neg c5] at H
      exact absurd H (by simp)
    ·rw [if_neg c4] at H
     have c4b0 : decide (aa < (l0.length : Int)) = false := decide_eq_false c4
     clear c4; obtain rfl := Option.some.inj H
     go_wp2
     go_ret
     exact ⟨by first | rfl | (simp [errW_none, errW_some] <;> rfl) | (simp [*, errW_none, errW_some] <;> rfl), by repeat (first | (with_reducible first | exact HB.out | apply zB | apply zC | apply zE) | exact HB.out)⟩
 ·rw [if_neg c3] at H
  have au : ((l0.length : Int) == (l1.length : Int)) = false := beq_eq_false_iff_ne.mpr c3
  have av : ((l0.length : Int) != (l1.length : Int)) = true := bne_iff_ne.mpr c3
  have aw : (l0.length == l1.length) = false := by first | simpa using c3 | (simp at c3 ⊢; omega)
  obtain rfl := Option.some.inj H
  go_enter Try.func86, Try.ntmps86
  go_wp2
  go_ret
  exact ⟨by first | rfl | (simp [errW_none, errW_some] <;> rfl) | (simp [*, errW_none, errW_some] <;> rfl), by repeat (first | (with_reducible first | exact HB.out | apply zB | apply zC | apply zE) | exact HB.out)⟩
def laws_eqKeptSS.l0 : Nat → List (List (S30)) → List (List (S30)) → Int → Option (Bool)
 | 0, _, _, _ => none
 | k + 1, x0, x1, x5 => if x5 < (x0.length : Int) then (if 0 ≤ x5 then (if x5 < (x1.length : Int) then ((laws_eqKeptS.f k (rd_L2 x0 x5) (rd_L2 x1 x5)).bind fun t294 => (if t294 = true then (laws_eqKeptSS.l0 k x0 x1 (wrap64 (x5 + 1))) else (some false))) else (none)) else (none)) else (some true)
def laws_eqKeptSS.f (k : Nat) (l0 : List (List (S30))) (l1 : List (List (S30))) : Option (Bool) := if (l0.length : Int) = (l1.length : Int) then (laws_eqKeptSS.l0 k l0 l1 0) else (some false)
def laws_eqKeptSS.T6 : Bool × List (List Nat × List Nat) := (true, [([], []), ([], []), ([0, 1], [0, 1]), ([2], [2]), ([], []), ([], []), ([4, 5], [4, 5]), ([6], [6]), ([3, 7], [3, 7]), ([8], [8])])
def laws_eqKeptSS.B6 : List Nat := [0, 0, 3, 7, 0, 0, 48, 112, 255, 511]
theorem laws_eqKeptSS.tab6 : rtab .any (opsOf Try.f59 6) = laws_eqKeptSS.T6 := by kernel_rfl
theorem laws_eqKeptSS.bits6 : waitsOk laws_eqKeptSS.T6.2 laws_eqKeptSS.B6 = true := by kernel_rfl
set_option maxHeartbeats 8000000 in
set_option maxRecDepth 100000 in
theorem laws_eqKeptSS.calls (k : Nat) (A0 : Option Addr) (c0 : Nat) (l0 : List (List (S30))) (A1 : Option Addr) (c1 : Nat) (l1 : List (List (S30))) (r : Bool) (w : World) (hr0 : Kd.C (Kd.slice 30 k30) w A0 l0.length l0) (hc0 : l0.length ≤ c0) (hr1 : Kd.C (Kd.slice 30 k30) w A1 l1.length l1) (hc1 : l1.length ≤ c1) (h : laws_eqKeptSS.f k l0 l1 = some r) :
  Calls Try.prog 59 #[.slice A0 l0.length c0, .slice A1 l1.length c1] w fun e w' => e = .returned (.bool r) ∧ Below w.heap.size w w' := by
 have HR0 := zK hr0; have HC0 := zK hc0; clear hr0 hc0; have HR1 := zK hr1; have HC1 := zK hc1; clear hr1 hc1
 have HB := zK (Below.refl w.heap.size w)
 have H : (if (l0.length : Int) = (l1.length : Int) then (laws_eqKeptSS.l0 k l0 l1 0) else (some false)) = some r := h
 clear h
 by_cases c3 : (l0.length : Int) = (l1.length : Int)
 ·rw [if_pos c3] at H
  have aC : ((l0.length : Int) == (l1.length : Int)) = true := beq_iff_eq.mpr c3
  have aD : ((l0.length : Int) != (l1.length : Int)) = false := bne_eq_false_iff_eq.mpr c3
  have aE : (l0.length == l1.length) = true := by first | simpa using c3 | (simp at c3 ⊢; omega)
  clear c3; have H' := zK H; clear H
  go_enter Try.func59, Try.ntmps59
  go_wp2
  go_loopg [5] k (fun kq v5 w' => ∃ (aa : Int), v5 = .int .i64 aa ∧ Aside0 (laws_eqKeptSS.l0 kq l0 l1 aa = some r) ∧ Aside0 (kq ≤ k) ∧ Aside0 (Below w.heap.size w w'))
  case atStart => exact ⟨(0), (by first | rfl | (simp; done) | (simp [*]; done)), H', ⟨Nat.le_refl _⟩, ⟨zb HB⟩⟩
  case round =>
   clear H'
   try clear c1
   try clear p2
   try clear c3
   try clear aC
   try clear aD
   try clear aE
   obtain ⟨aa, rfl, HA, HK1, HB⟩ := hrel
   cases gk with
   | zero => exact absurd HA.out (by simp [laws_eqKeptSS.l0])
   | succ k1 =>
    have H := HA.out; clear HA
    simp only [laws_eqKeptSS.l0] at H
    by_cases c4 : aa < (l0.length : Int)
    ·rw [if_pos c4] at H
     have c4b0 : decide (aa < (l0.length : Int)) = true := decide_eq_true c4
     clear c4
     by_cases c5 : 0 ≤ aa
     ·rw [if_pos c5] at H
      have c5b0 : decide (0 ≤ aa) = true := decide_eq_true c5
      clear c5
      by_cases c6 : aa < (l1.length : Int)
      ·rw [if_pos c6] at H
       have c6b0 : decide (aa < (l1.length : Int)) = true := decide_eq_true c6
       clear c6; replace H := Option.bind_eq_some_iff.mp H
       obtain ⟨aF, A70, H⟩ := H
       replace H : (if aF = true then (laws_eqKeptSS.l0 k1 l0 l1 (wrap64 (aa + 1))) else (some false)) = some r := H
       have A7 := zK A70; clear A70
       by_cases c8 : aF = true
       ·subst c8
        have H1 : (laws_eqKeptSS.l0 k1 l0 l1 (wrap64 (aa + 1))) = some r := by rw [if_pos rfl] at H; exact H
        clear H; have H := H1; clear H1; have H' := zK H; clear H
        try go_wp2
        have ax := zK (zE HB.out)
        clear HB; have HB := ax; clear ax
        have ar : 0 ≤ (aa : Int) := of_decide_eq_true (by first | (with_reducible assumption) | assumption)
        have au : aa < (l0.length : Int) := of_decide_eq_true (by first | (with_reducible assumption) | assumption)
        obtain ⟨ay, al, am, aA, ab, af, ag⟩ := at_L2 HR0.out aa ar au
        have ad := ab
        cases aA
        replace ab := (HB.out.cell (World.block_lt_of_cell? w _ ab)).trans ab
        have ah := zK ag; have ap := zK af; clear ag af; replace ar := eq_true ar; replace au := eq_true au
        have av : 0 ≤ (aa : Int) := of_decide_eq_true (by first | (with_reducible assumption) | assumption)
        have aw : aa < (l1.length : Int) := of_decide_eq_true (by first | (with_reducible assumption) | assumption)
        obtain ⟨az, an, ao, aB, ac, ai, aj⟩ := at_L2 HR1.out aa av aw
        have ae := ac
        cases aB
        replace ac := (HB.out.cell (World.block_lt_of_cell? w _ ac)).trans ac
        have ak := zK aj; have aq := zK ai; clear aj ai; replace av := eq_true av; replace aw := eq_true aw
        refine start_ (n := 10) (S := fun w' => w'.cell? (ay.add (aa).toNat) = some (.slice al (rd_L2 l0 aa).length am) ∧ w'.cell? (az.add (aa).toNat) = some (.slice an (rd_L2 l1 aa).length ao)) (ds := []) #[ff, ff, ff, ff, ff, ff, ff, ff, ff, ff] (by kernel_rfl) rfl rfl ⟨((HB.out.cell (World.block_lt_of_cell? w _ ad)).trans ad), ((HB.out.cell (World.block_lt_of_cell? w _ ae)).trans ae)⟩ (fun hHeld => ?_); refine with_tabW laws_eqKeptSS.tab6 laws_eqKeptSS.bits6 (fun HT_ HW_ => ?_)
        generalize wr.drew = w9 at HB ah ak ab ac hHeld ⊢
        refine zu 0 (some 17) #[tt, ff, ff, ff, ff, ff, ff, ff, ff, ff] (any_of HT_.out (by kernel_rfl)) ?_
        refine zu 1 (some 18) #[tt, tt, ff, ff, ff, ff, ff, ff, ff, ff] (any_of HT_.out (by kernel_rfl)) ?_
        refine zu 2 (some 19) #[tt, tt, tt, ff, ff, ff, ff, ff, ff, ff] (any_of HT_.out (by kernel_rfl)) ?_
        refine zu 4 (some 21) #[tt, tt, tt, ff, tt, ff, ff, ff, ff, ff] (any_of HT_.out (by kernel_rfl)) ?_
        refine zu 5 (some 22) #[tt, tt, tt, ff, tt, tt, ff, ff, ff, ff] (any_of HT_.out (by kernel_rfl)) ?_
        refine zu 6 (some 23) #[tt, tt, tt, ff, tt, tt, tt, ff, ff, ff] (any_of HT_.out (by kernel_rfl)) ?_
        refine zt 3 (some 20) #[tt, tt, tt, tt, tt, tt, tt, ff, ff, ff] (take_ofW HT_.out HW_.out (by kernel_rfl)) hHeld ?_
        refine zt 7 (some 24) #[tt, tt, tt, tt, tt, tt, tt, tt, ff, ff] (take_ofW HT_.out HW_.out (by kernel_rfl)) hHeld ?_
        refine one_ (i := 8) (N := some 25) #[tt, tt, tt, tt, tt, tt, tt, tt, tt, ff] rfl rfl (one_of HT_.out (by kernel_rfl)) (by decide) (fun K hK => ?_)
        refine goes_ Try.func86 (by kernel_rfl) rfl #[.slice al (rd_L2 l0 aa).length am, .slice an (rd_L2 l1 aa).length ao] (by rfl) rfl rfl (by (try simp only [List.map_toArray, List.map_cons, List.map_nil]); first | done | rfl | (simp only [List.length_drop, List.length_take]; rfl)) ?_
        with_reducible refine (laws_eqKeptS.calls k1 _ _ (rd_L2 l0 aa) _ _ (rd_L2 l1 aa) true _ ?side1 ?side2 ?side3 ?side4 A7.out).mono ?_
        (case side1 => repeat (first | exact (Kd.C_below ah.out HB.out) | (with_reducible refine Kd.C_alloc ?_ _) | (with_reducible refine Kd.C_drewN ?_ _) | (with_reducible refine Kd.C_drew ?_)))
        (case side2 => exact ap.out)
        (case side3 => repeat (first | exact (Kd.C_below ak.out HB.out) | (with_reducible refine Kd.C_alloc ?_ _) | (with_reducible refine Kd.C_drewN ?_ _) | (with_reducible refine Kd.C_drew ?_)))
        (case side4 => exact aq.out)
        rintro e w10 ⟨rfl, hb⟩
        refine ⟨_, rfl, ?_⟩
        have ax := zK (below_step (zb HB) hb)
        clear HB; have HB := ax; clear ax; (try clear hb); (try clear hb2); (try clear hk); (try clear hi)
        refine hK.out _ _ ⟨((HB.out.cell (World.block_lt_of_cell? w _ ad)).trans ad), ((HB.out.cell (World.block_lt_of_cell? w _ ae)).trans ae)⟩ (fun hHeld => ?_)
        clear hK K
        refine norm_ (a' := ?_) ?_ ?_
        rotate_left
        ·show Act.put _ (some 25) _ = _
         simp only [Act.put, zp, zq, zr, i64_w, i32_w]
         rfl
        refine zu 9 (some 26) #[tt, tt, tt, tt, tt, tt, tt, tt, tt, tt] (any_of HT_.out (by kernel_rfl)) ?_
        refine done_ (done_of HT_.out (by kernel_rfl)) ?_
        try go_wp2
        go_roundg k1
        case measure => have := HK1.out; omega
        case rel => exact ⟨(wrap64 (aa + 1)), (by first | rfl | (simp; done) | (simp [*]; done)), H', ⟨by have := HK1.out; omega⟩, ⟨zb HB⟩⟩
       ·replace c8 := Bool.eq_false_iff.mpr c8
        subst c8
        have H1 : (some false) = some r := by rw [if_neg (show ¬ (false = true) by decide)] at H; exact H
        clear H; have H := H1; clear H1; obtain rfl := Option.some.inj H
        try go_wp2
        have ax := zK (zE HB.out)
        clear HB; have HB := ax; clear ax
        have ar : 0 ≤ (aa : Int) := of_decide_eq_true (by first | (with_reducible assumption) | assumption)
        have au : aa < (l0.length : Int) := of_decide_eq_true (by first | (with_reducible assumption) | assumption)
        obtain ⟨ay, al, am, aA, ab, af, ag⟩ := at_L2 HR0.out aa ar au
        have ad := ab
        cases aA
        replace ab := (HB.out.cell (World.block_lt_of_cell? w _ ab)).trans ab
        have ah := zK ag; have ap := zK af; clear ag af; replace ar := eq_true ar; replace au := eq_true au
        have av : 0 ≤ (aa : Int) := of_decide_eq_true (by first | (with_reducible assumption) | assumption)
        have aw : aa < (l1.length : Int) := of_decide_eq_true (by first | (with_reducible assumption) | assumption)
        obtain ⟨az, an, ao, aB, ac, ai, aj⟩ := at_L2 HR1.out aa av aw
        have ae := ac
        cases aB
        replace ac := (HB.out.cell (World.block_lt_of_cell? w _ ac)).trans ac
        have ak := zK aj; have aq := zK ai; clear aj ai; replace av := eq_true av; replace aw := eq_true aw
        refine start_ (n := 10) (S := fun w' => w'.cell? (ay.add (aa).toNat) = some (.slice al (rd_L2 l0 aa).length am) ∧ w'.cell? (az.add (aa).toNat) = some (.slice an (rd_L2 l1 aa).length ao)) (ds := []) #[ff, ff, ff, ff, ff, ff, ff, ff, ff, ff] (by kernel_rfl) rfl rfl ⟨((HB.out.cell (World.block_lt_of_cell? w _ ad)).trans ad), ((HB.out.cell (World.block_lt_of_cell? w _ ae)).trans ae)⟩ (fun hHeld => ?_); refine with_tabW laws_eqKeptSS.tab6 laws_eqKeptSS.bits6 (fun HT_ HW_ => ?_)
        generalize wr.drew = w11 at HB ah ak ab ac hHeld ⊢
        refine zu 0 (some 17) #[tt, ff, ff, ff, ff, ff, ff, ff, ff, ff] (any_of HT_.out (by kernel_rfl)) ?_
        refine zu 1 (some 18) #[tt, tt, ff, ff, ff, ff, ff, ff, ff, ff] (any_of HT_.out (by kernel_rfl)) ?_
        refine zu 2 (some 19) #[tt, tt, tt, ff, ff, ff, ff, ff, ff, ff] (any_of HT_.out (by kernel_rfl)) ?_
        refine zu 4 (some 21) #[tt, tt, tt, ff, tt, ff, ff, ff, ff, ff] (any_of HT_.out (by kernel_rfl)) ?_
        refine zu 5 (some 22) #[tt, tt, tt, ff, tt, tt, ff, ff, ff, ff] (any_of HT_.out (by kernel_rfl)) ?_
        refine zu 6 (some 23) #[tt, tt, tt, ff, tt, tt, tt, ff, ff, ff] (any_of HT_.out (by kernel_rfl)) ?_
        refine zt 3 (some 20) #[tt, tt, tt, tt, tt, tt, tt, ff, ff, ff] (take_ofW HT_.out HW_.out (by kernel_rfl)) hHeld ?_
        refine zt 7 (some 24) #[tt, tt, tt, tt, tt, tt, tt, tt, ff, ff] (take_ofW HT_.out HW_.out (by kernel_rfl)) hHeld ?_
        refine one_ (i := 8) (N := some 25) #[tt, tt, tt, tt, tt, tt, tt, tt, tt, ff] rfl rfl (one_of HT_.out (by kernel_rfl)) (by decide) (fun K hK => ?_)
        refine goes_ Try.func86 (by kernel_rfl) rfl #[.slice al (rd_L2 l0 aa).length am, .slice an (rd_L2 l1 aa).length ao] (by rfl) rfl rfl (by (try simp only [List.map_toArray, List.map_cons, List.map_nil]); first | done | rfl | (simp only [List.length_drop, List.length_take]; rfl)) ?_
        with_reducible refine (laws_eqKeptS.calls k1 _ _ (rd_L2 l0 aa) _ _ (rd_L2 l1 aa) false _ ?side1 ?side2 ?side3 ?side4 A7.out).mono ?_
        (case side1 => repeat (first | exact (Kd.C_below ah.out HB.out) | (with_reducible refine Kd.C_alloc ?_ _) | (with_reducible refine Kd.C_drewN ?_ _) | (with_reducible refine Kd.C_drew ?_)))
        (case side2 => exact ap.out)
        (case side3 => repeat (first | exact (Kd.C_below ak.out HB.out) | (with_reducible refine Kd.C_alloc ?_ _) | (with_reducible refine Kd.C_drewN ?_ _) | (with_reducible refine Kd.C_drew ?_)))
        (case side4 => exact aq.out)
        rintro e w12 ⟨rfl, hb⟩
        refine ⟨_, rfl, ?_⟩
        have ax := zK (below_step (zb HB) hb)
        clear HB; have HB := ax; clear ax; (try clear hb); (try clear hb2); (try clear hk); (try clear hi)
        refine hK.out _ _ ⟨((HB.out.cell (World.block_lt_of_cell? w _ ad)).trans ad), ((HB.out.cell (World.block_lt_of_cell? w _ ae)).trans ae)⟩ (fun hHeld => ?_)
        clear hK K
        refine norm_ (a' := ?_) ?_ ?_
        rotate_left
        ·show Act.put _ (some 25) _ = _
         simp only [Act.put, zp, zq, zr, i64_w, i32_w]
         rfl
        refine zu 9 (some 26) #[tt, tt, tt, tt, tt, tt, tt, tt, tt, tt] (any_of HT_.out (by kernel_rfl)) ?_
        refine done_ (done_of HT_.out (by kernel_rfl)) ?_
        try go_wp2
        go_ret
        exact ⟨by first | rfl | (simp [errW_none, errW_some] <;> rfl) | (simp [*, errW_none, errW_some] <;> rfl), by repeat (first | (with_reducible first | exact HB.out | apply zB | apply zC | apply zE) | exact HB.out)⟩
      ·rw [if_neg c6] at H
       exact absurd H (by simp)
     ·rw [if_neg c5] at H
      exact absurd H (by simp)
    ·rw [if_neg c4] at H
     have c4b0 : decide (aa < (l0.length : Int)) = false := decide_eq_false c4
     clear c4; obtain rfl := Option.some.inj H
     go_wp2
     go_ret
     exact ⟨by first | rfl | (simp [errW_none, errW_some] <;> rfl) | (simp [*, errW_none, errW_some] <;> rfl), by repeat (first | (with_reducible first | exact HB.out | apply zB | apply zC | apply zE) | exact HB.out)⟩
 ·rw [if_neg c3] at H
  have aC : ((l0.length : Int) == (l1.length : Int)) = false := beq_eq_false_iff_ne.mpr c3
  have aD : ((l0.length : Int) != (l1.length : Int)) = true := bne_iff_ne.mpr c3
  have aE : (l0.length == l1.length) = false := by first | simpa using c3 | (simp at c3 ⊢; omega)
  obtain rfl := Option.some.inj H
  go_enter Try.func59, Try.ntmps59
  go_wp2
  go_ret
  exact ⟨by first | rfl | (simp [errW_none, errW_some] <;> rfl) | (simp [*, errW_none, errW_some] <;> rfl), by repeat (first | (with_reducible first | exact HB.out | apply zB | apply zC | apply zE) | exact HB.out)⟩
def laws_eqStore.f (k : Nat) (a0_0 : Int) (l0_1 : List (List (S30))) (a1_0 : Int) (l1_1 : List (List (S30))) : Option (Bool) := if a0_0 = a1_0 then ((laws_eqKeptSS.f k l0_1 l1_1).bind fun t297 => (if t297 = true then (some true) else (some false))) else (some false)
set_option maxHeartbeats 8000000 in
set_option maxRecDepth 100000 in
theorem laws_eqStore.calls (k : Nat) (a0_0 : Int) (ag : Option Addr) (ah : Nat) (ae : List (List (S30))) (a1_0 : Int) (al : Option Addr) (am : Nat) (ak : List (List (S30))) (r : Bool) (w : World) (av : Kd.C (Kd.slice 30 k30) w ag ae.length ae) (hc0_1 : ae.length ≤ ah) (aw : Kd.C (Kd.slice 30 k30) w al ak.length ak) (hc1_1 : ak.length ≤ am) (h : laws_eqStore.f k a0_0 ae a1_0 ak = some r) :
  Calls Try.prog 23 #[.agg #[.int .i64 a0_0, .slice ag ae.length ah], .agg #[.int .i64 a1_0, .slice al ak.length am]] w fun e w' => e = .returned (.bool r) ∧ Below w.heap.size w w' := by
 have hu24 := Try.underlying24; have ax := zK av; have ay := zK hc0_1; clear av hc0_1; have az := zK aw; have aA := zK hc1_1; clear aw hc1_1
 have HB := zK (Below.refl w.heap.size w)
 have H : (if a0_0 = a1_0 then ((laws_eqKeptSS.f k ae ak).bind fun au => (if au = true then (some true) else (some false))) else (some false)) = some r := h
 clear h
 by_cases c3 : a0_0 = a1_0
 ·rw [if_pos c3] at H
  have c3b0 : (a0_0 == a1_0) = true := beq_iff_eq.mpr c3
  have c3b1 : (a0_0 != a1_0) = false := bne_eq_false_iff_eq.mpr c3
  clear c3; replace H := Option.bind_eq_some_iff.mp H
  obtain ⟨au, A40, H⟩ := H
  replace H : (if au = true then (some true) else (some false)) = some r := H
  have A4 := zK A40; clear A40
  by_cases c5 : au = true
  ·subst c5
   have H1 : (some true) = some r := by rw [if_pos rfl] at H; exact H
   clear H; have H := H1; clear H1; obtain rfl := Option.some.inj H
   go_enter Try.func23, Try.ntmps23
   go_wp2_with (first | ((with_reducible refine gate_dst (N := 2) rfl ?_); refine box_event ?hg (N := 2) ?hd (cs := #[.int .i64 a0_0, .slice ag ae.length ah]) (t := 24) ?hr ?_; (case hd => rfl); (case hg => rfl); (case hr => first | (go_simp; done) | (go_simp; rfl)); intro ab hg w6 hbox hb; have an := zK (below_step (zb HB) hb); have ao := zK (hbox); have ap := zK ((by rw [hg]; exact (below_size (zb HB)) : w.heap.size ≤ ab)); have ar := zK ((by rw [hg]; exact (below_size (zb HB)) : w.heap.size ≤ ab)); clear HB; have HB := an; have aa := ao; have aB := ap; have af := ar; clear an ao ap ar; clear hb hbox hg) | ((with_reducible refine gate_dst (N := 3) rfl ?_); refine box_event ?hg (N := 3) ?hd (cs := #[.int .i64 a1_0, .slice al ak.length am]) (t := 24) ?hr ?_; (case hd => rfl); (case hg => rfl); (case hr => first | (go_simp; done) | (go_simp; rfl)); intro ac hg w7 hbox hb; have an := zK (blk_below (g := ab) (o := .cells #[.int .i64 a0_0, .slice ag ae.length ah] 24 (0, 0)) (zk aa) hb); have ao := zK (below_step (zb HB) hb); have ap := zK (hbox); have ar := zK ((by rw [hg]; exact (below_size (zb HB)) : w.heap.size ≤ ac)); have aC := zK ((by rw [hg]; exact (below_size (zb HB)) : w.heap.size ≤ ac)); have aD := zK ((by rw [hg]; exact Nat.ne_of_lt (blk_lt (g := ab) (o := .cells #[.int .i64 a0_0, .slice ag ae.length ah] 24 (0, 0)) (zk aa)) : ab ≠ ac)); have aE := zK ((by rw [hg]; exact Nat.ne_of_gt (blk_lt (g := ab) (o := .cells #[.int .i64 a0_0, .slice ag ae.length ah] 24 (0, 0)) (zk aa)) : ac ≠ ab)); clear aa; clear HB; have aa := an; have HB := ao; have ad := ap; have aF := ar; have aq := aC; have ai := aD; have aj := aE; clear an ao ap ar aC aD aE; clear hb hbox hg; have hnb8 := ai.out; have hnc8 := aj.out; have hcz9_0 : w7.cell? ⟨ab, 0, none⟩ = some (.int .i64 a0_0) := (blk_cell aa.out 0).trans rfl; have hcz9_1 : w7.cell? ⟨ab, 1, none⟩ = some (.slice ag ae.length ah) := (blk_cell aa.out 1).trans rfl; have hfz9_0 := blk_frozen aa.out 0; have hfz9_1 := blk_frozen aa.out 1; have hcz10_0 : w7.cell? ⟨ac, 0, none⟩ = some (.int .i64 a1_0) := (blk_cell ad.out 0).trans rfl; have hcz10_1 : w7.cell? ⟨ac, 1, none⟩ = some (.slice al ak.length am) := (blk_cell ad.out 1).trans rfl; have hfz10_0 := blk_frozen ad.out 0; have hfz10_1 := blk_frozen ad.out 1) | ((with_reducible refine gate_callee (f := 59) rfl ?_); refine goesL_ (some 14) rfl rfl Try.func59 (by kernel_rfl) rfl #[.slice ag ae.length ah, .slice al ak.length am] rfl (by (try simp only [List.map_toArray, List.map_cons, List.map_nil]); first | done | rfl | (simp only [List.length_drop, List.length_take]; rfl)) ?_; (with_reducible refine (laws_eqKeptSS.calls k _ _ ae _ _ ak true _ ?side1 ?side2 ?side3 ?side4 A4.out).mono ?_); (case side1 => repeat (first | exact (Kd.C_below ax.out HB.out) | (with_reducible refine Kd.C_alloc ?_ _) | (with_reducible refine Kd.C_drewN ?_ _) | (with_reducible refine Kd.C_drew ?_))); (case side2 => exact ay.out); (case side3 => repeat (first | exact (Kd.C_below az.out HB.out) | (with_reducible refine Kd.C_alloc ?_ _) | (with_reducible refine Kd.C_drewN ?_ _) | (with_reducible refine Kd.C_drew ?_))); (case side4 => exact aA.out); rintro e w11 ⟨rfl, hb⟩; refine ⟨_, rfl, ?_⟩; have an := zK (blk_below (g := ab) (o := .cells #[.int .i64 a0_0, .slice ag ae.length ah] 24 (0, 0)) (zk aa) hb); have ao := zK (blk_below (g := ac) (o := .cells #[.int .i64 a1_0, .slice al ak.length am] 24 (0, 0)) (zk ad) hb); have ap := zK (below_step (zb HB) hb); clear aa; clear ad; clear HB; have aa := an; have ad := ao; have HB := ap; clear an ao ap; (try clear hb)))
   go_ret
   exact ⟨by first | rfl | (simp [errW_none, errW_some] <;> rfl) | (simp [*, errW_none, errW_some] <;> rfl), by repeat (first | (with_reducible first | exact HB.out | apply zB | apply zC | apply zE | refine zS ?_ af.out | refine zS ?_ aq.out) | exact HB.out)⟩
  ·replace c5 := Bool.eq_false_iff.mpr c5
   subst c5
   have H1 : (some false) = some r := by rw [if_neg (show ¬ (false = true) by decide)] at H; exact H
   clear H; have H := H1; clear H1; obtain rfl := Option.some.inj H
   go_enter Try.func23, Try.ntmps23
   go_wp2_with (first | ((with_reducible refine gate_dst (N := 2) rfl ?_); refine box_event ?hg (N := 2) ?hd (cs := #[.int .i64 a0_0, .slice ag ae.length ah]) (t := 24) ?hr ?_; (case hd => rfl); (case hg => rfl); (case hr => first | (go_simp; done) | (go_simp; rfl)); intro ab hg w12 hbox hb; have an := zK (below_step (zb HB) hb); have ao := zK (hbox); have ap := zK ((by rw [hg]; exact (below_size (zb HB)) : w.heap.size ≤ ab)); have ar := zK ((by rw [hg]; exact (below_size (zb HB)) : w.heap.size ≤ ab)); clear HB; have HB := an; have aa := ao; have aB := ap; have af := ar; clear an ao ap ar; clear hb hbox hg) | ((with_reducible refine gate_dst (N := 3) rfl ?_); refine box_event ?hg (N := 3) ?hd (cs := #[.int .i64 a1_0, .slice al ak.length am]) (t := 24) ?hr ?_; (case hd => rfl); (case hg => rfl); (case hr => first | (go_simp; done) | (go_simp; rfl)); intro ac hg w13 hbox hb; have an := zK (blk_below (g := ab) (o := .cells #[.int .i64 a0_0, .slice ag ae.length ah] 24 (0, 0)) (zk aa) hb); have ao := zK (below_step (zb HB) hb); have ap := zK (hbox); have ar := zK ((by rw [hg]; exact (below_size (zb HB)) : w.heap.size ≤ ac)); have aC := zK ((by rw [hg]; exact (below_size (zb HB)) : w.heap.size ≤ ac)); have aD := zK ((by rw [hg]; exact Nat.ne_of_lt (blk_lt (g := ab) (o := .cells #[.int .i64 a0_0, .slice ag ae.length ah] 24 (0, 0)) (zk aa)) : ab ≠ ac)); have aE := zK ((by rw [hg]; exact Nat.ne_of_gt (blk_lt (g := ab) (o := .cells #[.int .i64 a0_0, .slice ag ae.length ah] 24 (0, 0)) (zk aa)) : ac ≠ ab)); clear aa; clear HB; have aa := an; have HB := ao; have ad := ap; have aF := ar; have aq := aC; have ai := aD; have aj := aE; clear an ao ap ar aC aD aE; clear hb hbox hg; have hnb14 := ai.out; have hnc14 := aj.out; have hcz15_0 : w13.cell? ⟨ab, 0, none⟩ = some (.int .i64 a0_0) := (blk_cell aa.out 0).trans rfl; have hcz15_1 : w13.cell? ⟨ab, 1, none⟩ = some (.slice ag ae.length ah) := (blk_cell aa.out 1).trans rfl; have hfz15_0 := blk_frozen aa.out 0; have hfz15_1 := blk_frozen aa.out 1; have hcz16_0 : w13.cell? ⟨ac, 0, none⟩ = some (.int .i64 a1_0) := (blk_cell ad.out 0).trans rfl; have hcz16_1 : w13.cell? ⟨ac, 1, none⟩ = some (.slice al ak.length am) := (blk_cell ad.out 1).trans rfl; have hfz16_0 := blk_frozen ad.out 0; have hfz16_1 := blk_frozen ad.out 1) | ((with_reducible refine gate_callee (f := 59) rfl ?_); refine goesL_ (some 14) rfl rfl Try.func59 (by kernel_rfl) rfl #[.slice ag ae.length ah, .slice al ak.length am] rfl (by (try simp only [List.map_toArray, List.map_cons, List.map_nil]); first | done | rfl | (simp only [List.length_drop, List.length_take]; rfl)) ?_; (with_reducible refine (laws_eqKeptSS.calls k _ _ ae _ _ ak false _ ?side1 ?side2 ?side3 ?side4 A4.out).mono ?_); (case side1 => repeat (first | exact (Kd.C_below ax.out HB.out) | (with_reducible refine Kd.C_alloc ?_ _) | (with_reducible refine Kd.C_drewN ?_ _) | (with_reducible refine Kd.C_drew ?_))); (case side2 => exact ay.out); (case side3 => repeat (first | exact (Kd.C_below az.out HB.out) | (with_reducible refine Kd.C_alloc ?_ _) | (with_reducible refine Kd.C_drewN ?_ _) | (with_reducible refine Kd.C_drew ?_))); (case side4 => exact aA.out); rintro e w17 ⟨rfl, hb⟩; refine ⟨_, rfl, ?_⟩; have an := zK (blk_below (g := ab) (o := .cells #[.int .i64 a0_0, .slice ag ae.length ah] 24 (0, 0)) (zk aa) hb); have ao := zK (blk_below (g := ac) (o := .cells #[.int .i64 a1_0, .slice al ak.length am] 24 (0, 0)) (zk ad) hb); have ap := zK (below_step (zb HB) hb); clear aa; clear ad; clear HB; have aa := an; have ad := ao; have HB := ap; clear an ao ap; (try clear hb)))
   go_ret
   exact ⟨by first | rfl | (simp [errW_none, errW_some] <;> rfl) | (simp [*, errW_none, errW_some] <;> rfl), by repeat (first | (with_reducible first | exact HB.out | apply zB | apply zC | apply zE | refine zS ?_ af.out | refine zS ?_ aq.out) | exact HB.out)⟩
 ·rw [if_neg c3] at H
  have c3b0 : (a0_0 == a1_0) = false := beq_eq_false_iff_ne.mpr c3
  have c3b1 : (a0_0 != a1_0) = true := bne_iff_ne.mpr c3
  obtain rfl := Option.some.inj H
  go_enter Try.func23, Try.ntmps23
  go_wp2_with (first | ((with_reducible refine gate_dst (N := 2) rfl ?_); refine box_event ?hg (N := 2) ?hd (cs := #[.int .i64 a0_0, .slice ag ae.length ah]) (t := 24) ?hr ?_; (case hd => rfl); (case hg => rfl); (case hr => first | (go_simp; done) | (go_simp; rfl)); intro ab hg w18 hbox hb; have an := zK (below_step (zb HB) hb); have ao := zK (hbox); have ap := zK ((by rw [hg]; exact (below_size (zb HB)) : w.heap.size ≤ ab)); have ar := zK ((by rw [hg]; exact (below_size (zb HB)) : w.heap.size ≤ ab)); clear HB; have HB := an; have aa := ao; have aB := ap; have af := ar; clear an ao ap ar; clear hb hbox hg) | ((with_reducible refine gate_dst (N := 3) rfl ?_); refine box_event ?hg (N := 3) ?hd (cs := #[.int .i64 a1_0, .slice al ak.length am]) (t := 24) ?hr ?_; (case hd => rfl); (case hg => rfl); (case hr => first | (go_simp; done) | (go_simp; rfl)); intro ac hg w19 hbox hb; have an := zK (blk_below (g := ab) (o := .cells #[.int .i64 a0_0, .slice ag ae.length ah] 24 (0, 0)) (zk aa) hb); have ao := zK (below_step (zb HB) hb); have ap := zK (hbox); have ar := zK ((by rw [hg]; exact (below_size (zb HB)) : w.heap.size ≤ ac)); have aC := zK ((by rw [hg]; exact (below_size (zb HB)) : w.heap.size ≤ ac)); have aD := zK ((by rw [hg]; exact Nat.ne_of_lt (blk_lt (g := ab) (o := .cells #[.int .i64 a0_0, .slice ag ae.length ah] 24 (0, 0)) (zk aa)) : ab ≠ ac)); have aE := zK ((by rw [hg]; exact Nat.ne_of_gt (blk_lt (g := ab) (o := .cells #[.int .i64 a0_0, .slice ag ae.length ah] 24 (0, 0)) (zk aa)) : ac ≠ ab)); clear aa; clear HB; have aa := an; have HB := ao; have ad := ap; have aF := ar; have aq := aC; have ai := aD; have aj := aE; clear an ao ap ar aC aD aE; clear hb hbox hg; have hnb20 := ai.out; have hnc20 := aj.out; have hcz21_0 : w19.cell? ⟨ab, 0, none⟩ = some (.int .i64 a0_0) := (blk_cell aa.out 0).trans rfl; have hcz21_1 : w19.cell? ⟨ab, 1, none⟩ = some (.slice ag ae.length ah) := (blk_cell aa.out 1).trans rfl; have hfz21_0 := blk_frozen aa.out 0; have hfz21_1 := blk_frozen aa.out 1; have hcz22_0 : w19.cell? ⟨ac, 0, none⟩ = some (.int .i64 a1_0) := (blk_cell ad.out 0).trans rfl; have hcz22_1 : w19.cell? ⟨ac, 1, none⟩ = some (.slice al ak.length am) := (blk_cell ad.out 1).trans rfl; have hfz22_0 := blk_frozen ad.out 0; have hfz22_1 := blk_frozen ad.out 1))
  go_ret
  exact ⟨by first | rfl | (simp [errW_none, errW_some] <;> rfl) | (simp [*, errW_none, errW_some] <;> rfl), by repeat (first | (with_reducible first | exact HB.out | apply zB | apply zC | apply zE | refine zS ?_ af.out | refine zS ?_ aq.out) | exact HB.out)⟩
end Go.Proofs.Ytheckjlldkkceaa.Px
