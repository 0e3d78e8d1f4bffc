import Derived.Test.YtmjhbdmicejppaaZrPx0
import Derived.Test.YtmjhbdmicejppaaZrPx1
import Derived.Test.YtmjhbdmicejppaaZrPx2
import Derived.Test.YtmjhbdmicejppaaZrPx6
import Derived.Test.YtmjhbdmicejppaaZrPx8
namespace Go.Proofs.Ytmjhbdmicejppaa.Px
open Go.RowKit Go.Proofs.YtmjhbdmicejppaaW.PrintWords Go.Proofs.YtmjhbdmicejppaaW.PrintLast Go.Proofs.YtmjhbdmicejppaaW.PrintMore
attribute [local go_sem] max2_int min2_int max_two min_two max_three min_three max_four min_four   
set_option linter.unusedVariables false
set_option linter.unusedSimpArgs false
def impl_StepsOf.l0 : Nat → Int → Int → List Int → Int → List (S69) → List (S74) → Option (Int × Bool)
 | 0, _, _, _, _, _, _ => none
 | k + 1, x, n, tr, tu, ch, wa => if n ≤ 600 then ((impl_turn.f k tr tu ch wa).bind fun q => ((slices_Contains_int_int.f k q.1 x).bind fun b => (if b = true then (impl_StepsOf.l0 k x (wrap64 (n + 1)) q.1 q.2.1 q.2.2 wa) else (some (n, true))))) else (some (0, false))
def impl_StepsOf.f (k : Nat) (l0_0 : List Int) (a0_1 : Int) (l0_2 : List (S69)) (l0_3 : List (S74)) (a1 : Int) : Option (Int × Bool) := (impl_LoopOk.f k l0_0 a0_1 l0_2 l0_3).bind fun ok => (if ok = true then (if a1 = 0 then (some (0, false)) else ((slices_Contains_int_int.f k l0_0 a1).bind fun h => (if h = true then ((impl_copyLoop.f k l0_0 a0_1 l0_2 l0_3).bind fun c => (impl_StepsOf.l0 k a1 1 c.1 c.2.1 c.2.2.1 c.2.2.2)) else (some (0, false))))) else (some (0, false)))
set_option maxHeartbeats 8000000 in
set_option maxRecDepth 100000 in
theorem impl_StepsOf.calls (k : Nat) (ae : Option Addr) (af : Nat) (aa : List Int) (a0_1 : Int) (ag : Option Addr) (ah : Nat) (ac : List (S69)) (ai : Option Addr) (aj : Nat) (ad : List (S74)) (a1 : Int) (r1 : Int) (r2 : Bool) (w : World) (al : Kd.C (Kd.int .i64) w ae aa.length aa) (hc0_0 : aa.length ≤ af) (am : Kd.C k69 w ag ac.length ac) (hc0_2 : ac.length ≤ ah) (an : Kd.C k74 w ai ad.length ad) (hc0_3 : ad.length ≤ aj) (h : impl_StepsOf.f k aa a0_1 ac ad a1 = some (r1, r2)) :
 Calls Try.prog 17 #[.agg #[.slice ae aa.length af, .int .i64 a0_1, .slice ag ac.length ah, .slice ai ad.length aj], .int .i64 a1] w fun e w' => e = .returned (.tuple #[.int .i64 r1, .bool r2]) ∧ Below w.heap.size w w' := by
 have hu28 := Try.underlying28; have ao := zK al; have ap := zK hc0_0; have ar := zK am; have au := zK hc0_2; have av := zK an; have aw := zK hc0_3; clear al hc0_0 am hc0_2 an hc0_3; have H := h
 unfold impl_StepsOf.f at H
 clear h; replace H := Option.bind_eq_some_iff.mp H
 obtain ⟨ok, A10, H⟩ := H
 have A1 := zK A10; clear A10
 cases ok with
 | false =>
  rw [if_neg (by simp)] at H
  simp only [Option.some.injEq, Prod.mk.injEq] at H
  obtain ⟨rfl, rfl⟩ := H
  go_enter Try.func17, Try.ntmps17
  go_wp2_with (first | ((with_reducible refine gate_dst (N := 2) rfl ?_); refine zX 2 #[.slice ae aa.length af, .int .i64 a0_1, .slice ag ac.length ah, .slice ai ad.length aj] 28 ?_; intro g1 hg w1 hbox hb; have HB := zK hb; have ab := zK hbox; clear hb hbox hg; have hz0 : w1.cell? ⟨g1, 0, none⟩ = some (.slice ae aa.length af) := (blk_cell ab.out 0).trans rfl; have hz1 : w1.cell? ⟨g1, 1, none⟩ = some (.int .i64 a0_1) := (blk_cell ab.out 1).trans rfl; have hz2 : w1.cell? ⟨g1, 2, none⟩ = some (.slice ag ac.length ah) := (blk_cell ab.out 2).trans rfl; have hz3 : w1.cell? ⟨g1, 3, none⟩ = some (.slice ai ad.length aj) := (blk_cell ab.out 3).trans rfl) | ((with_reducible refine gate_callee (f := 24) rfl ?_); refine goesL_ (some 9) rfl rfl Try.func24 (by kernel_rfl) rfl #[.agg #[.slice ae aa.length af, .int .i64 a0_1, .slice ag ac.length ah, .slice ai ad.length aj]] rfl zg ?_; (with_reducible refine (impl_LoopOk.calls k _ _ aa a0_1 _ _ ac _ _ ad false _ ?side1 ap.out ?side3 au.out ?side5 aw.out A1.out).mono ?_); (case side1 => exact zs (Kd.C_below ao.out HB.out)); (case side3 => exact zs (Kd.C_below ar.out HB.out)); (case side5 => exact zs (Kd.C_below av.out HB.out)); rintro e w2 ⟨rfl, hb⟩; refine ⟨_, rfl, ?_⟩; have hB_ : Below w.heap.size w _ := (by repeat (first | exact HB.out | apply zB | apply zC | apply zE)); have n1 := zK (blk_below (zk ab) hb); have nb := zK (below_step hB_ hb); clear hb hB_ ab HB hz0 hz1 hz2 hz3; have ab := n1; have HB := nb; clear n1 nb; have hz0 : w2.cell? ⟨g1, 0, none⟩ = some (.slice ae aa.length af) := (blk_cell ab.out 0).trans rfl; have hz1 : w2.cell? ⟨g1, 1, none⟩ = some (.int .i64 a0_1) := (blk_cell ab.out 1).trans rfl; have hz2 : w2.cell? ⟨g1, 2, none⟩ = some (.slice ag ac.length ah) := (blk_cell ab.out 2).trans rfl; have hz3 : w2.cell? ⟨g1, 3, none⟩ = some (.slice ai ad.length aj) := (blk_cell ab.out 3).trans rfl))
  go_ret2
  exact ⟨rfl, HB.out⟩
 | true =>
  rw [if_pos rfl] at H
  by_cases c1 : a1 = 0
  ·rw [if_pos c1] at H
   have c1b : (a1 == 0) = true := beq_iff_eq.mpr c1
   simp only [Option.some.injEq, Prod.mk.injEq] at H
   obtain ⟨rfl, rfl⟩ := H
   go_enter Try.func17, Try.ntmps17
   go_wp2_with (first | ((with_reducible refine gate_dst (N := 2) rfl ?_); refine zX 2 #[.slice ae aa.length af, .int .i64 a0_1, .slice ag ac.length ah, .slice ai ad.length aj] 28 ?_; intro g1 hg w1 hbox hb; have HB := zK hb; have ab := zK hbox; clear hb hbox hg; have hz0 : w1.cell? ⟨g1, 0, none⟩ = some (.slice ae aa.length af) := (blk_cell ab.out 0).trans rfl; have hz1 : w1.cell? ⟨g1, 1, none⟩ = some (.int .i64 a0_1) := (blk_cell ab.out 1).trans rfl; have hz2 : w1.cell? ⟨g1, 2, none⟩ = some (.slice ag ac.length ah) := (blk_cell ab.out 2).trans rfl; have hz3 : w1.cell? ⟨g1, 3, none⟩ = some (.slice ai ad.length aj) := (blk_cell ab.out 3).trans rfl) | ((with_reducible refine gate_callee (f := 24) rfl ?_); refine goesL_ (some 9) rfl rfl Try.func24 (by kernel_rfl) rfl #[.agg #[.slice ae aa.length af, .int .i64 a0_1, .slice ag ac.length ah, .slice ai ad.length aj]] rfl zg ?_; (with_reducible refine (impl_LoopOk.calls k _ _ aa a0_1 _ _ ac _ _ ad true _ ?side1 ap.out ?side3 au.out ?side5 aw.out A1.out).mono ?_); (case side1 => exact zs (Kd.C_below ao.out HB.out)); (case side3 => exact zs (Kd.C_below ar.out HB.out)); (case side5 => exact zs (Kd.C_below av.out HB.out)); rintro e w2 ⟨rfl, hb⟩; refine ⟨_, rfl, ?_⟩; have hB_ : Below w.heap.size w _ := (by repeat (first | exact HB.out | apply zB | apply zC | apply zE)); have n1 := zK (blk_below (zk ab) hb); have nb := zK (below_step hB_ hb); clear hb hB_ ab HB hz0 hz1 hz2 hz3; have ab := n1; have HB := nb; clear n1 nb; have hz0 : w2.cell? ⟨g1, 0, none⟩ = some (.slice ae aa.length af) := (blk_cell ab.out 0).trans rfl; have hz1 : w2.cell? ⟨g1, 1, none⟩ = some (.int .i64 a0_1) := (blk_cell ab.out 1).trans rfl; have hz2 : w2.cell? ⟨g1, 2, none⟩ = some (.slice ag ac.length ah) := (blk_cell ab.out 2).trans rfl; have hz3 : w2.cell? ⟨g1, 3, none⟩ = some (.slice ai ad.length aj) := (blk_cell ab.out 3).trans rfl))
   go_ret2
   exact ⟨rfl, HB.out⟩
  ·rw [if_neg c1] at H
   have c1b : (a1 == 0) = false := beq_eq_false_iff_ne.mpr c1
   replace H := Option.bind_eq_some_iff.mp H
   obtain ⟨hs, A20, H⟩ := H
   have A2 := zK A20; clear A20
   cases hs with
   | false =>
    rw [if_neg (by simp)] at H
    simp only [Option.some.injEq, Prod.mk.injEq] at H
    obtain ⟨rfl, rfl⟩ := H
    go_enter Try.func17, Try.ntmps17
    go_wp2_with (first | ((with_reducible refine gate_dst (N := 2) rfl ?_); refine zX 2 #[.slice ae aa.length af, .int .i64 a0_1, .slice ag ac.length ah, .slice ai ad.length aj] 28 ?_; intro g1 hg w1 hbox hb; have HB := zK hb; have ab := zK hbox; clear hb hbox hg; have hz0 : w1.cell? ⟨g1, 0, none⟩ = some (.slice ae aa.length af) := (blk_cell ab.out 0).trans rfl; have hz1 : w1.cell? ⟨g1, 1, none⟩ = some (.int .i64 a0_1) := (blk_cell ab.out 1).trans rfl; have hz2 : w1.cell? ⟨g1, 2, none⟩ = some (.slice ag ac.length ah) := (blk_cell ab.out 2).trans rfl; have hz3 : w1.cell? ⟨g1, 3, none⟩ = some (.slice ai ad.length aj) := (blk_cell ab.out 3).trans rfl) | ((with_reducible refine gate_callee (f := 24) rfl ?_); refine goesL_ (some 9) rfl rfl Try.func24 (by kernel_rfl) rfl #[.agg #[.slice ae aa.length af, .int .i64 a0_1, .slice ag ac.length ah, .slice ai ad.length aj]] rfl zg ?_; (with_reducible refine (impl_LoopOk.calls k _ _ aa a0_1 _ _ ac _ _ ad true _ ?side1 ap.out ?side3 au.out ?side5 aw.out A1.out).mono ?_); (case side1 => exact zs (Kd.C_below ao.out HB.out)); (case side3 => exact zs (Kd.C_below ar.out HB.out)); (case side5 => exact zs (Kd.C_below av.out HB.out)); rintro e w2 ⟨rfl, hb⟩; refine ⟨_, rfl, ?_⟩; have hB_ : Below w.heap.size w _ := (by repeat (first | exact HB.out | apply zB | apply zC | apply zE)); have n1 := zK (blk_below (zk ab) hb); have nb := zK (below_step hB_ hb); clear hb hB_ ab HB hz0 hz1 hz2 hz3; have ab := n1; have HB := nb; clear n1 nb; have hz0 : w2.cell? ⟨g1, 0, none⟩ = some (.slice ae aa.length af) := (blk_cell ab.out 0).trans rfl; have hz1 : w2.cell? ⟨g1, 1, none⟩ = some (.int .i64 a0_1) := (blk_cell ab.out 1).trans rfl; have hz2 : w2.cell? ⟨g1, 2, none⟩ = some (.slice ag ac.length ah) := (blk_cell ab.out 2).trans rfl; have hz3 : w2.cell? ⟨g1, 3, none⟩ = some (.slice ai ad.length aj) := (blk_cell ab.out 3).trans rfl) | ((with_reducible refine gate_callee (f := 52) rfl ?_); (try (refine gate_guard (by rfl) ?_; dsimp only)); refine goesL_ (some 19) rfl rfl Try.func52 (by kernel_rfl) rfl #[.slice ae aa.length af, .int .i64 a1] rfl zg ?_; (with_reducible refine (slices_Contains_int_int.calls k ae af aa a1 false _ ?side1 ap.out A2.out).mono ?_); (case side1 => exact zs (Kd.C_below ao.out HB.out)); rintro e w3 ⟨rfl, hd⟩; refine ⟨_, rfl, ?_⟩; have hb := hd.below; have hB_ : Below w.heap.size w _ := (by repeat (first | exact HB.out | apply zB | apply zC | apply zE)); have n1 := zK (blk_below (zk ab) hb); have nb := zK (below_step hB_ hb); clear hb hd hB_ ab HB hz0 hz1 hz2 hz3; have ab := n1; have HB := nb; clear n1 nb; have hz0 : w3.cell? ⟨g1, 0, none⟩ = some (.slice ae aa.length af) := (blk_cell ab.out 0).trans rfl; have hz1 : w3.cell? ⟨g1, 1, none⟩ = some (.int .i64 a0_1) := (blk_cell ab.out 1).trans rfl; have hz2 : w3.cell? ⟨g1, 2, none⟩ = some (.slice ag ac.length ah) := (blk_cell ab.out 2).trans rfl; have hz3 : w3.cell? ⟨g1, 3, none⟩ = some (.slice ai ad.length aj) := (blk_cell ab.out 3).trans rfl))
    go_ret2
    exact ⟨rfl, HB.out⟩
   | true =>
    rw [if_pos rfl] at H
    replace H := Option.bind_eq_some_iff.mp H
    obtain ⟨⟨tr0, tu0, ch0, wa0⟩, A30, H⟩ := H
    have A3 := zK A30; clear A30
    have H' := zK (show impl_StepsOf.l0 k a1 1 tr0 tu0 ch0 wa0 = some (r1, r2) from H)
    clear H
    go_enter Try.func17, Try.ntmps17
    go_wp2_with (first | ((with_reducible refine gate_dst (N := 2) rfl ?_); refine zX 2 #[.slice ae aa.length af, .int .i64 a0_1, .slice ag ac.length ah, .slice ai ad.length aj] 28 ?_; intro g1 hg w1 hbox hb; have HB := zK hb; have ab := zK hbox; clear hb hbox hg; have hz0 : w1.cell? ⟨g1, 0, none⟩ = some (.slice ae aa.length af) := (blk_cell ab.out 0).trans rfl; have hz1 : w1.cell? ⟨g1, 1, none⟩ = some (.int .i64 a0_1) := (blk_cell ab.out 1).trans rfl; have hz2 : w1.cell? ⟨g1, 2, none⟩ = some (.slice ag ac.length ah) := (blk_cell ab.out 2).trans rfl; have hz3 : w1.cell? ⟨g1, 3, none⟩ = some (.slice ai ad.length aj) := (blk_cell ab.out 3).trans rfl) | ((with_reducible refine gate_callee (f := 24) rfl ?_); refine goesL_ (some 9) rfl rfl Try.func24 (by kernel_rfl) rfl #[.agg #[.slice ae aa.length af, .int .i64 a0_1, .slice ag ac.length ah, .slice ai ad.length aj]] rfl zg ?_; (with_reducible refine (impl_LoopOk.calls k _ _ aa a0_1 _ _ ac _ _ ad true _ ?side1 ap.out ?side3 au.out ?side5 aw.out A1.out).mono ?_); (case side1 => exact zs (Kd.C_below ao.out HB.out)); (case side3 => exact zs (Kd.C_below ar.out HB.out)); (case side5 => exact zs (Kd.C_below av.out HB.out)); rintro e w2 ⟨rfl, hb⟩; refine ⟨_, rfl, ?_⟩; have hB_ : Below w.heap.size w _ := (by repeat (first | exact HB.out | apply zB | apply zC | apply zE)); have n1 := zK (blk_below (zk ab) hb); have nb := zK (below_step hB_ hb); clear hb hB_ ab HB hz0 hz1 hz2 hz3; have ab := n1; have HB := nb; clear n1 nb; have hz0 : w2.cell? ⟨g1, 0, none⟩ = some (.slice ae aa.length af) := (blk_cell ab.out 0).trans rfl; have hz1 : w2.cell? ⟨g1, 1, none⟩ = some (.int .i64 a0_1) := (blk_cell ab.out 1).trans rfl; have hz2 : w2.cell? ⟨g1, 2, none⟩ = some (.slice ag ac.length ah) := (blk_cell ab.out 2).trans rfl; have hz3 : w2.cell? ⟨g1, 3, none⟩ = some (.slice ai ad.length aj) := (blk_cell ab.out 3).trans rfl) | ((with_reducible refine gate_callee (f := 52) rfl ?_); (try (refine gate_guard (by rfl) ?_; dsimp only)); refine goesL_ (some 19) rfl rfl Try.func52 (by kernel_rfl) rfl #[.slice ae aa.length af, .int .i64 a1] rfl zg ?_; (with_reducible refine (slices_Contains_int_int.calls k ae af aa a1 true _ ?side1 ap.out A2.out).mono ?_); (case side1 => exact zs (Kd.C_below ao.out HB.out)); rintro e w3 ⟨rfl, hd⟩; refine ⟨_, rfl, ?_⟩; have hb := hd.below; have hB_ : Below w.heap.size w _ := (by repeat (first | exact HB.out | apply zB | apply zC | apply zE)); have n1 := zK (blk_below (zk ab) hb); have nb := zK (below_step hB_ hb); clear hb hd hB_ ab HB hz0 hz1 hz2 hz3; have ab := n1; have HB := nb; clear n1 nb; have hz0 : w3.cell? ⟨g1, 0, none⟩ = some (.slice ae aa.length af) := (blk_cell ab.out 0).trans rfl; have hz1 : w3.cell? ⟨g1, 1, none⟩ = some (.int .i64 a0_1) := (blk_cell ab.out 1).trans rfl; have hz2 : w3.cell? ⟨g1, 2, none⟩ = some (.slice ag ac.length ah) := (blk_cell ab.out 2).trans rfl; have hz3 : w3.cell? ⟨g1, 3, none⟩ = some (.slice ai ad.length aj) := (blk_cell ab.out 3).trans rfl) | ((with_reducible refine gate_callee (f := 53) rfl ?_); refine goesL_ (some 23) rfl rfl Try.func53 (by kernel_rfl) rfl #[.agg #[.slice ae aa.length af, .int .i64 a0_1, .slice ag ac.length ah, .slice ai ad.length aj]] rfl zg ?_; (with_reducible refine (impl_copyLoop.calls2 k _ _ aa a0_1 _ _ ac _ _ ad tr0 tu0 ch0 wa0 _ ?side1 ap.out ?side3 au.out ?side5 aw.out A3.out).mono ?_); (case side1 => exact zs (Kd.C_below ao.out HB.out)); (case side3 => exact zs (Kd.C_below ar.out HB.out)); (case side5 => exact zs (Kd.C_below av.out HB.out)); rintro e w3 ⟨v0, v2, v3, N_, rfl, ho0, ho2, ho3, hN, hb⟩; refine ⟨_, rfl, ?_⟩; have hB_ : Below w.heap.size w _ := (by repeat (first | exact HB.out | apply zB | apply zC | apply zE)); obtain ⟨PW, hL⟩ := LoopMem.mk (Kd.R_lower ho0 (below_size hB_)) (Kd.S_lower ho2 (below_size hB_)) ho3 (Nat.le_trans (below_size hB_) hN); have HL := zK hL; have nb := zK (below_step hB_ hb); clear HB ab; have HB := nb; clear nb hb ho0 ho2 ho3 hN hB_ hL; obtain ⟨B0, d0, B2, d2, B3, d3, rfl, rfl, rfl, l0_, l2_, l3_, _, _, _⟩ := HL.out.reads; clear l0_ l2_ l3_) | ((with_reducible refine gate_dst (N := 6) rfl ?_); refine zX 6 #[.slice none 0 0, .int .i64 0, .slice none 0 0, .slice none 0 0] 28 ?_; intro g3 hg w4 hbox hb; have hB_ : Below w.heap.size w _ := (by repeat (first | exact HB.out | apply zB | apply zC | apply zE)); have n2 := zK (below_step hB_ hb); have aq := zK (show w.heap.size ≤ g3 from by rw [hg]; exact hB_.size); have n3 := zK (LoopMem.below (by repeat (first | exact HL.out | refine LoopMem.below ?_ (zB (Below.refl _ _) _) | refine LoopMem.below ?_ (zC (Below.refl _ _) _) | refine LoopMem.below ?_ (below_drew (Below.refl _ _)))) hb); clear HB HL; have HB := n2; have HL := n3; clear n2 n3 hB_; have ak := zK hbox; clear hb hbox hg; have hy0 : w4.cell? ⟨g3, 0, none⟩ = some (.slice none 0 0) := (blk_cell ak.out 0).trans rfl; have hy1 : w4.cell? ⟨g3, 1, none⟩ = some (.int .i64 0) := (blk_cell ak.out 1).trans rfl; have hy2 : w4.cell? ⟨g3, 2, none⟩ = some (.slice none 0 0) := (blk_cell ak.out 2).trans rfl; have hy3 : w4.cell? ⟨g3, 3, none⟩ = some (.slice none 0 0) := (blk_cell ak.out 3).trans rfl; have hf0 := blk_frozen ak.out 0; have hf1 := blk_frozen ak.out 1; have hf2 := blk_frozen ak.out 2; have hf3 := blk_frozen ak.out 3))
    have b0 := blk_put ak.out 0 (.slice B0 tr0.length d0) rfl
    have b1 := blk_put b0 1 (.int .i64 tu0) rfl
    have b2 := blk_put b1 2 (.slice B2 ch0.length d2) rfl
    have BK3' : ((((w4.setCell ⟨g3, 0, none⟩ (.slice B0 tr0.length d0)).setCell ⟨g3, 1, none⟩ (.int .i64 tu0)).setCell ⟨g3, 2, none⟩ (.slice B2 ch0.length d2)).setCell ⟨g3, 3, none⟩ (.slice B3 wa0.length d3)).heap[g3]? = some (.cells #[.slice B0 tr0.length d0, .int .i64 tu0, .slice B2 ch0.length d2, .slice B3 wa0.length d3] 28 (0, 0)) := blk_put (blk_put (blk_put (blk_put ak.out 0 _ rfl) 1 _ rfl) 2 _ rfl) 3 _ rfl
    have n1 := zK ((((HL.out.box ak.out 0 (.slice B0 tr0.length d0)).box b0 1 (.int .i64 tu0)).box b1 2 (.slice B2 ch0.length d2)).box b2 3 (.slice B3 wa0.length d3))
    have n3 := zK (zS (j := 3) (v := .slice B3 wa0.length d3) (zS (j := 2) (v := .slice B2 ch0.length d2) (zS (j := 1) (v := .int .i64 tu0) (zS (j := 0) (v := .slice B0 tr0.length d0) HB.out aq.out) aq.out) aq.out) aq.out)
    clear HL HB b0 b1 b2 ak hy0 hy1 hy2 hy3 hf0 hf1 hf2 hf3; have HL := n1; have HB := n3; have ak := zK BK3'; clear n1 n3 BK3'
    generalize Value.slice B0 tr0.length d0 = V0 at HL ak HB ⊢
    generalize Value.slice B2 ch0.length d2 = V2 at HL ak HB ⊢
    generalize Value.slice B3 wa0.length d3 = V3 at HL ak HB ⊢
    go_loopg [7] k (fun kq v7 w' => ∃ (n : Int) (tr : List Int) (T : Int) (ch : List S69), v7 = .int .i64 n ∧ Aside0 (impl_StepsOf.l0 kq a1 n tr T ch wa0 = some (r1, r2)) ∧ Aside0 (kq ≤ k) ∧ Aside0 (LoopMem w.heap.size w' PW V0 tr V2 ch V3 wa0) ∧ Aside0 (w'.heap[g3]? = some (.cells #[V0, .int .i64 T, V2, V3] 28 (0, 0))) ∧ Aside0 (Below w.heap.size w w'))
    case atStart => exact ⟨1, tr0, tu0, ch0, rfl, H', ⟨Nat.le_refl _⟩, HL, ak, HB⟩
    case round =>
    clear H' HL ak HB
    obtain ⟨n, tr, T, ch, rfl, HA, HK1, HL, ak, HB⟩ := hrel
    cases gk with
    | zero => exact absurd HA.out (by simp [impl_StepsOf.l0])
    | succ k1 =>
     have H := HA.out; clear HA
     simp only [impl_StepsOf.l0] at H
     by_cases c2 : n ≤ 600
     ·rw [if_pos c2] at H
      have c2b : decide (n ≤ 600) = true := decide_eq_true c2
      replace H := Option.bind_eq_some_iff.mp H
      obtain ⟨⟨t1, t2, t3⟩, A50, H⟩ := H
      have A5 := zK A50; clear A50; replace H := Option.bind_eq_some_iff.mp H
      obtain ⟨b, A60, H⟩ := H
      have A6 := zK (show slices_Contains_int_int.f k1 t1 a1 = some b from A60)
      clear A60
      cases b with
      | false =>
       rw [if_neg (by simp)] at H
       simp only [Option.some.injEq, Prod.mk.injEq] at H
       obtain ⟨rfl, rfl⟩ := H
       go_wp2_with (first | ((with_reducible refine gate_callee (f := 54) rfl ?_); refine goesL_ (some 28) rfl rfl Try.func54 (by kernel_rfl) rfl #[.pointer (some ⟨g3, 0, none⟩)] rfl zg ?_; (with_reducible refine (impl_turn.calls k1 g3 w _ PW V0 V2 V3 tr T ch wa0 t1 t2 t3 (by repeat (first | exact HB.out | apply zB | apply zC | apply zE)) aq.out (zk ak) (by repeat (first | exact HL.out | refine LoopMem.below ?_ (zB (Below.refl _ _) _) | refine LoopMem.below ?_ (zC (Below.refl _ _) _) | refine LoopMem.below ?_ (below_drew (Below.refl _ _)))) A5.out).mono ?_); rintro e w5 ⟨rfl, hL, hbk, hB, _⟩; refine ⟨_, rfl, ?_⟩; clear HL ak HB; have HL := zK hL; have ak := zK hbk; have HB := zK hB; clear hL hbk hB; obtain ⟨B0, d0, B2, d2, B3, d3, e0, e2, e3, L0, _, _, C0, _, _⟩ := HL.out.reads; clear e2 e3; subst e0; have HC0' := zK C0; have HL0' := zK L0; clear C0 L0; have hz0 : w5.cell? ⟨g3, 0, none⟩ = some (.slice B0 t1.length d0) := (blk_cell ak.out 0).trans rfl) | ((with_reducible refine gate_callee (f := 52) rfl ?_); refine goesL_ (some 32) rfl rfl Try.func52 (by kernel_rfl) rfl #[.slice B0 t1.length d0, .int .i64 a1] rfl zg ?_; (with_reducible refine (slices_Contains_int_int.calls k1 B0 d0 t1 a1 false _ ?side1 HL0'.out A6.out).mono ?_); (case side1 => repeat (first | exact HC0'.out | (with_reducible refine Kd.C_alloc ?_ _) | (with_reducible refine Kd.C_drewN ?_ _) | (with_reducible refine Kd.C_drew ?_))); rintro e w6 ⟨rfl, hd⟩; refine ⟨_, rfl, ?_⟩; have hb : Below w5.heap.size w5 w6 := below_step (by repeat (first | exact Below.refl _ _ | apply zB | apply zC | apply zE)) hd.below; clear hd))
       go_ret2
       exact ⟨rfl, below_step HB.out hb⟩
      | true =>
       rw [if_pos rfl] at H
       have H' := zK (show impl_StepsOf.l0 k1 a1 (wrap64 (n + 1)) t1 t2 t3 wa0 = some (r1, r2) from H)
       clear H
       go_wp2_with (first | ((with_reducible refine gate_callee (f := 54) rfl ?_); refine goesL_ (some 28) rfl rfl Try.func54 (by kernel_rfl) rfl #[.pointer (some ⟨g3, 0, none⟩)] rfl zg ?_; (with_reducible refine (impl_turn.calls k1 g3 w _ PW V0 V2 V3 tr T ch wa0 t1 t2 t3 (by repeat (first | exact HB.out | apply zB | apply zC | apply zE)) aq.out (zk ak) (by repeat (first | exact HL.out | refine LoopMem.below ?_ (zB (Below.refl _ _) _) | refine LoopMem.below ?_ (zC (Below.refl _ _) _) | refine LoopMem.below ?_ (below_drew (Below.refl _ _)))) A5.out).mono ?_); rintro e w5 ⟨rfl, hL, hbk, hB, _⟩; refine ⟨_, rfl, ?_⟩; clear HL ak HB; have HL := zK hL; have ak := zK hbk; have HB := zK hB; clear hL hbk hB; obtain ⟨B0, d0, B2, d2, B3, d3, e0, e2, e3, L0, _, _, C0, _, _⟩ := HL.out.reads; clear e2 e3; subst e0; have HC0' := zK C0; have HL0' := zK L0; clear C0 L0; have hz0 : w5.cell? ⟨g3, 0, none⟩ = some (.slice B0 t1.length d0) := (blk_cell ak.out 0).trans rfl) | ((with_reducible refine gate_callee (f := 52) rfl ?_); refine goesL_ (some 32) rfl rfl Try.func52 (by kernel_rfl) rfl #[.slice B0 t1.length d0, .int .i64 a1] rfl zg ?_; (with_reducible refine (slices_Contains_int_int.calls k1 B0 d0 t1 a1 true _ ?side1 HL0'.out A6.out).mono ?_); (case side1 => repeat (first | exact HC0'.out | (with_reducible refine Kd.C_alloc ?_ _) | (with_reducible refine Kd.C_drewN ?_ _) | (with_reducible refine Kd.C_drew ?_))); rintro e w6 ⟨rfl, hd⟩; refine ⟨_, rfl, ?_⟩; have hb : Below w5.heap.size w5 w6 := below_step (by repeat (first | exact Below.refl _ _ | apply zB | apply zC | apply zE)) hd.below; clear hd))
       go_roundg k1
       case measure => have := HK1.out; omega
       case rel => exact ⟨wrap64 (n + 1), t1, t2, t3, rfl, H', ⟨by have := HK1.out; omega⟩, ⟨HL.out.below hb⟩, ⟨blk_below ak.out hb⟩, ⟨below_step HB.out hb⟩⟩
     ·rw [if_neg c2] at H
      have c2b : decide (n ≤ 600) = false := decide_eq_false c2
      simp only [Option.some.injEq, Prod.mk.injEq] at H
      obtain ⟨rfl, rfl⟩ := H
      go_wp2
      go_ret2
      exact ⟨rfl, HB.out⟩
mutual
def spec_StepsOf.j0 : Nat → Int → Bool → List Int → Int → List (S69) → List (S74) → Option (Int × Bool)
 | 0, _, _, _, _, _, _ => none
 | k + 1, x1, x20, x331000, x331001, x331002, x331003 => if x20 = true then (some (0, false)) else (spec_StepsOf.l0 k x1 0 x331000 x331001 x331002 x331003)
def spec_StepsOf.l0 : Nat → Int → Int → List Int → Int → List (S69) → List (S74) → Option (Int × Bool)
 | 0, _, _, _, _, _, _ => none
 | k + 1, x1, x6, x331000, x331001, x331002, x331003 => if x6 ≤ 600 then ((spec_l03Has.f k x331000 x1).bind fun t333 => (if t333 = true then ((spec_l05Step.f k x331000 x331001 x331002 x331003).bind fun bt334 => (spec_StepsOf.l0 k x1 (wrap64 (x6 + 1)) bt334.1 bt334.2.1 bt334.2.2.1 bt334.2.2.2)) else (some (x6, true)))) else (some (0, false))
end
def spec_StepsOf.f (k : Nat) (l0_0 : List Int) (a0_1 : Int) (l0_2 : List (S69)) (l0_3 : List (S74)) (a1 : Int) : Option (Int × Bool) := (spec_LoopOk.f k l0_0 a0_1 l0_2 l0_3).bind fun t331 => (if t331 = true then (if a1 < 1 then (spec_StepsOf.j0 k a1 true l0_0 a0_1 l0_2 l0_3) else ((spec_l03Has.f k l0_0 a1).bind fun t332 => (spec_StepsOf.j0 k a1 (!t332) l0_0 a0_1 l0_2 l0_3))) else (spec_StepsOf.j0 k a1 true l0_0 a0_1 l0_2 l0_3))
set_option maxHeartbeats 8000000 in
set_option maxRecDepth 100000 in
theorem spec_StepsOf.calls (k : Nat) (P0_0_ : Nat → Prop) (aq : Option Addr) (ar : Nat) (ah : List Int) (a0_1 : Int) (P0_2_ : Nat → Prop) (au : Option Addr) (av : Nat) (ak : List (S69)) (P0_3_ : Nat → Prop) (aw : Option Addr) (ax : Nat) (al : List (S74)) (a1 : Int) (r1 : Int) (r2 : Bool) (w : World) (hs0_0 : Kd.V (Kd.int .i64) 3 w w.heap.size (fun k_ => P0_0_ k_) (.slice aq ah.length ar) ah) (hs0_2 : Kd.V k69 69 w w.heap.size (fun k_ => P0_2_ k_) (.slice au ak.length av) ak) (hs0_3 : Kd.V k74 74 w w.heap.size (fun k_ => P0_3_ k_) (.slice aw al.length ax) al) (h : spec_StepsOf.f k ah a0_1 ak al a1 = some (r1, r2)) :
  Calls Try.prog 18 #[.agg #[.slice aq ah.length ar, .int .i64 a0_1, .slice au ak.length av, .slice aw al.length ax], .int .i64 a1] w fun e w' => e = .returned (.tuple #[.int .i64 r1, .bool r2]) ∧ Below w.heap.size w w' := by
 have hu28 := Try.underlying28
 have am := zK (show Kd.V (Kd.int .i64) 3 w w.heap.size (fun k_ => ((P0_0_ k_ ∨ P0_2_ k_ ∨ P0_3_ k_) ∨ w.heap.size ≤ k_)) (.slice aq ah.length ar) ah from Kd.V_mono hs0_0 (fun k_ hk => .inl (.inl hk)))
 have an := zK (show Kd.V k69 69 w w.heap.size (fun k_ => ((P0_0_ k_ ∨ P0_2_ k_ ∨ P0_3_ k_) ∨ w.heap.size ≤ k_)) (.slice au ak.length av) ak from Kd.V_mono hs0_2 (fun k_ hk => .inl (.inr (.inl hk))))
 have ao := zK (show Kd.V k74 74 w w.heap.size (fun k_ => ((P0_0_ k_ ∨ P0_2_ k_ ∨ P0_3_ k_) ∨ w.heap.size ≤ k_)) (.slice aw al.length ax) al from Kd.V_mono hs0_3 (fun k_ hk => .inl (.inr (.inr hk))))
 have HB := zK (Below.refl w.heap.size w)
 have H : ((spec_LoopOk.f k ah a0_1 ak al).bind fun aV => (if aV = true then (if a1 < 1 then (spec_StepsOf.j0 k a1 true ah a0_1 ak al) else ((spec_l03Has.f k ah a1).bind fun aC => (spec_StepsOf.j0 k a1 (!aC) ah a0_1 ak al))) else (spec_StepsOf.j0 k a1 true ah a0_1 ak al))) = some (r1, r2) := h
 clear h; have HC3 := zK H; clear H
 go_enter Try.func18, Try.ntmps18
 go_upto_region 1 with (first | ((with_reducible refine gate_dst (N := 2) rfl ?_); refine zX 2 #[.slice aq ah.length ar, .int .i64 a0_1, .slice au ak.length av, .slice aw al.length ax] 28 ?_; intro ab hg w4 hbox hb; have aF := zK (Kd.V_below (Kd.V_elderB (by (with_reducible repeat (first | apply Kd.V_alloc | apply Kd.V_drewN | apply Kd.V_drew)); exact am.out) ab (Nat.le_of_eq hg.symm)) hb); have aG := zK (Kd.V_below (Kd.V_elderB (by (with_reducible repeat (first | apply Kd.V_alloc | apply Kd.V_drewN | apply Kd.V_drew)); exact an.out) ab (Nat.le_of_eq hg.symm)) hb); have aH := zK (Kd.V_below (Kd.V_elderB (by (with_reducible repeat (first | apply Kd.V_alloc | apply Kd.V_drewN | apply Kd.V_drew)); exact ao.out) ab (Nat.le_of_eq hg.symm)) hb); have aI := zK (below_step (zb HB) hb); have aJ := zK (hbox); have a3 := zK ((by rw [hg]; exact (below_size (zb HB)) : w.heap.size ≤ ab)); have a4 := zK ((by rw [hg]; exact (below_size (zb HB)) : w.heap.size ≤ ab)); clear am; clear an; clear ao; clear HB; have am := aF; have an := aG; have ao := aH; have HB := aI; have aa := aJ; have GW330 := a3; have ap := a4; clear aF aG aH aI aJ a3 a4; clear hb hbox hg))
 (try simp only [Act.put, zp, zq, zr])
 go_cut [20] (fun v20 wc => ∃ (kq : Nat) (aR : Bool), v20 = .bool aR ∧ Aside0 (spec_StepsOf.j0 kq a1 aR ah a0_1 ak al = some (r1, r2)) ∧ Aside0 (kq ≤ k) ∧ Aside0 (Kd.V (Kd.int .i64) 3 wc w.heap.size (fun k_ => ((P0_0_ k_ ∨ P0_2_ k_ ∨ P0_3_ k_) ∨ w.heap.size ≤ k_) ∧ k_ ≠ ab) (.slice aq ah.length ar) ah) ∧ Aside0 (Kd.V k69 69 wc w.heap.size (fun k_ => ((P0_0_ k_ ∨ P0_2_ k_ ∨ P0_3_ k_) ∨ w.heap.size ≤ k_) ∧ k_ ≠ ab) (.slice au ak.length av) ak) ∧ Aside0 (Kd.V k74 74 wc w.heap.size (fun k_ => ((P0_0_ k_ ∨ P0_2_ k_ ∨ P0_3_ k_) ∨ w.heap.size ≤ k_) ∧ k_ ≠ ab) (.slice aw al.length ax) al) ∧ Aside0 (wc.heap[ab]? = some (.cells #[(.slice aq ah.length ar), .int .i64 a0_1, (.slice au ak.length av), (.slice aw al.length ax)] 28 (0, 0))) ∧ Aside0 (Below w.heap.size w wc))
 case first =>
  have H := HC3.out; clear HC3; replace H := Option.bind_eq_some_iff.mp H
  obtain ⟨aV, A50, H⟩ := H
  replace H : (if aV = true then (if a1 < 1 then (spec_StepsOf.j0 k a1 true ah a0_1 ak al) else ((spec_l03Has.f k ah a1).bind fun aC => (spec_StepsOf.j0 k a1 (!aC) ah a0_1 ak al))) else (spec_StepsOf.j0 k a1 true ah a0_1 ak al)) = some (r1, r2) := H
  have A5 := zK A50; clear A50
  by_cases c6 : aV = true
  ·subst c6
   have H1 : (if a1 < 1 then (spec_StepsOf.j0 k a1 true ah a0_1 ak al) else ((spec_l03Has.f k ah a1).bind fun aC => (spec_StepsOf.j0 k a1 (!aC) ah a0_1 ak al))) = some (r1, r2) := by rw [if_pos rfl] at H; exact H
   clear H; have H := H1; clear H1
   by_cases c7 : a1 < 1
   ·rw [if_pos c7] at H
    have aS : decide (a1 < 1) = true := decide_eq_true c7
    clear c7
    (first | rw [aS] | (simp only [i64_w, i32_w]; rw [aS]) | skip)
    have H' := zK H; clear H
    have hcz8_0 : w4.cell? ⟨ab, 0, none⟩ = some (.slice aq ah.length ar) := (blk_cell aa.out 0).trans rfl
    have hcz8_1 : w4.cell? ⟨ab, 1, none⟩ = some (.int .i64 a0_1) := (blk_cell aa.out 1).trans rfl
    have hcz8_2 : w4.cell? ⟨ab, 2, none⟩ = some (.slice au ak.length av) := (blk_cell aa.out 2).trans rfl
    have hcz8_3 : w4.cell? ⟨ab, 3, none⟩ = some (.slice aw al.length ax) := (blk_cell aa.out 3).trans rfl
    have hfz8_0 := blk_frozen aa.out 0; have hfz8_1 := blk_frozen aa.out 1; have hfz8_2 := blk_frozen aa.out 2; have hfz8_3 := blk_frozen aa.out 3
    go_wp2_with (first | ((with_reducible refine gate_callee (f := 23) rfl ?_); refine goesL_ (some 8) rfl rfl Try.func23 (by kernel_rfl) rfl #[.agg #[.slice aq ah.length ar, .int .i64 a0_1, .slice au ak.length av, .slice aw al.length ax]] rfl zg ?_; (with_reducible refine (spec_LoopOk.calls k _ _ ah a0_1 _ _ ak _ _ al true _ ?side1 ?side2 ?side3 ?side4 ?side5 ?side6 A5.out).mono ?_); (case side1 => exact zs (Kd.V_reads' am.out).2.2); (case side2 => exact (Kd.V_reads' am.out).2.1); (case side3 => exact zs (Kd.V_reads' an.out).2.2); (case side4 => exact (Kd.V_reads' an.out).2.1); (case side5 => exact zs (Kd.V_reads' ao.out).2.2); (case side6 => exact (Kd.V_reads' ao.out).2.1); rintro e w9 ⟨rfl, hb⟩; refine ⟨_, rfl, ?_⟩; have aF := zK (Kd.V_below (by (with_reducible repeat (first | apply Kd.V_alloc | apply Kd.V_drewN | apply Kd.V_drew)); exact am.out) hb); have aG := zK (Kd.V_below (by (with_reducible repeat (first | apply Kd.V_alloc | apply Kd.V_drewN | apply Kd.V_drew)); exact an.out) hb); have aH := zK (Kd.V_below (by (with_reducible repeat (first | apply Kd.V_alloc | apply Kd.V_drewN | apply Kd.V_drew)); exact ao.out) hb); have aI := zK (blk_below (g := ab) (o := .cells #[.slice aq ah.length ar, .int .i64 a0_1, .slice au ak.length av, .slice aw al.length ax] 28 (0, 0)) (zk aa) hb); have aJ := zK (below_step (zb HB) hb); clear am; clear an; clear ao; clear aa; clear HB; have am := aF; have an := aG; have ao := aH; have aa := aI; have HB := aJ; clear aF aG aH aI aJ; (try clear hb)))
    go_meet
    case rel => exact ⟨_, (true), zf, H', ⟨by first | omega | exact Nat.le_refl _⟩, ⟨by (with_reducible repeat (first | apply Kd.V_alloc | apply Kd.V_drewN | apply Kd.V_drew)); exact am.out⟩, ⟨by (with_reducible repeat (first | apply Kd.V_alloc | apply Kd.V_drewN | apply Kd.V_drew)); exact an.out⟩, ⟨by (with_reducible repeat (first | apply Kd.V_alloc | apply Kd.V_drewN | apply Kd.V_drew)); exact ao.out⟩, ⟨zk aa⟩, ⟨zb HB⟩⟩
   ·rw [if_neg c7] at H
    have aS : decide (a1 < 1) = false := decide_eq_false c7
    clear c7
    (first | rw [aS] | (simp only [i64_w, i32_w]; rw [aS]) | skip)
    replace H := Option.bind_eq_some_iff.mp H
    obtain ⟨aC, a5, H⟩ := H
    replace H : (spec_StepsOf.j0 k a1 (!aC) ah a0_1 ak al) = some (r1, r2) := H
    have A10 := zK a5; clear a5; have H' := zK H; clear H
    have hcz11_0 : w4.cell? ⟨ab, 0, none⟩ = some (.slice aq ah.length ar) := (blk_cell aa.out 0).trans rfl
    have hcz11_1 : w4.cell? ⟨ab, 1, none⟩ = some (.int .i64 a0_1) := (blk_cell aa.out 1).trans rfl
    have hcz11_2 : w4.cell? ⟨ab, 2, none⟩ = some (.slice au ak.length av) := (blk_cell aa.out 2).trans rfl
    have hcz11_3 : w4.cell? ⟨ab, 3, none⟩ = some (.slice aw al.length ax) := (blk_cell aa.out 3).trans rfl
    have hfz11_0 := blk_frozen aa.out 0; have hfz11_1 := blk_frozen aa.out 1; have hfz11_2 := blk_frozen aa.out 2; have hfz11_3 := blk_frozen aa.out 3
    go_wp2_with (first | ((with_reducible refine gate_callee (f := 23) rfl ?_); refine goesL_ (some 8) rfl rfl Try.func23 (by kernel_rfl) rfl #[.agg #[.slice aq ah.length ar, .int .i64 a0_1, .slice au ak.length av, .slice aw al.length ax]] rfl zg ?_; (with_reducible refine (spec_LoopOk.calls k _ _ ah a0_1 _ _ ak _ _ al true _ ?side1 ?side2 ?side3 ?side4 ?side5 ?side6 A5.out).mono ?_); (case side1 => exact zs (Kd.V_reads' am.out).2.2); (case side2 => exact (Kd.V_reads' am.out).2.1); (case side3 => exact zs (Kd.V_reads' an.out).2.2); (case side4 => exact (Kd.V_reads' an.out).2.1); (case side5 => exact zs (Kd.V_reads' ao.out).2.2); (case side6 => exact (Kd.V_reads' ao.out).2.1); rintro e w12 ⟨rfl, hb⟩; refine ⟨_, rfl, ?_⟩; have aF := zK (Kd.V_below (by (with_reducible repeat (first | apply Kd.V_alloc | apply Kd.V_drewN | apply Kd.V_drew)); exact am.out) hb); have aG := zK (Kd.V_below (by (with_reducible repeat (first | apply Kd.V_alloc | apply Kd.V_drewN | apply Kd.V_drew)); exact an.out) hb); have aH := zK (Kd.V_below (by (with_reducible repeat (first | apply Kd.V_alloc | apply Kd.V_drewN | apply Kd.V_drew)); exact ao.out) hb); have aI := zK (blk_below (g := ab) (o := .cells #[.slice aq ah.length ar, .int .i64 a0_1, .slice au ak.length av, .slice aw al.length ax] 28 (0, 0)) (zk aa) hb); have aJ := zK (below_step (zb HB) hb); clear am; clear an; clear ao; clear aa; clear HB; have am := aF; have an := aG; have ao := aH; have aa := aI; have HB := aJ; clear aF aG aH aI aJ; (try clear hb); have hcz13_0 : w12.cell? ⟨ab, 0, none⟩ = some (.slice aq ah.length ar) := (blk_cell aa.out 0).trans rfl; have hcz13_1 : w12.cell? ⟨ab, 1, none⟩ = some (.int .i64 a0_1) := (blk_cell aa.out 1).trans rfl; have hcz13_2 : w12.cell? ⟨ab, 2, none⟩ = some (.slice au ak.length av) := (blk_cell aa.out 2).trans rfl; have hcz13_3 : w12.cell? ⟨ab, 3, none⟩ = some (.slice aw al.length ax) := (blk_cell aa.out 3).trans rfl; have hfz13_0 := blk_frozen aa.out 0; have hfz13_1 := blk_frozen aa.out 1; have hfz13_2 := blk_frozen aa.out 2; have hfz13_3 := blk_frozen aa.out 3) | (go_at_call 55; (with_reducible refine (spec_l03Has.calls k _ _ ah a1 aC _ ?side1 ?side2 A10.out).mono ?_); (case side1 => exact zs (Kd.V_reads' am.out).2.2); (case side2 => exact (Kd.V_reads' am.out).2.1); rintro e w' ⟨rfl, ⟨nd, rfl⟩⟩))
    go_meet
    case rel => exact ⟨_, (!aC), zf, H', ⟨by first | omega | exact Nat.le_refl _⟩, ⟨by (with_reducible repeat (first | apply Kd.V_alloc | apply Kd.V_drewN | apply Kd.V_drew)); exact am.out⟩, ⟨by (with_reducible repeat (first | apply Kd.V_alloc | apply Kd.V_drewN | apply Kd.V_drew)); exact an.out⟩, ⟨by (with_reducible repeat (first | apply Kd.V_alloc | apply Kd.V_drewN | apply Kd.V_drew)); exact ao.out⟩, ⟨zk aa⟩, ⟨zb HB⟩⟩
  ·replace c6 := Bool.eq_false_iff.mpr c6
   subst c6
   have H1 : (spec_StepsOf.j0 k a1 true ah a0_1 ak al) = some (r1, r2) := by rw [if_neg (show ¬ (false = true) by decide)] at H; exact H
   clear H; have H := H1; clear H1; have H' := zK H; clear H
   have hcz14_0 : w4.cell? ⟨ab, 0, none⟩ = some (.slice aq ah.length ar) := (blk_cell aa.out 0).trans rfl
   have hcz14_1 : w4.cell? ⟨ab, 1, none⟩ = some (.int .i64 a0_1) := (blk_cell aa.out 1).trans rfl
   have hcz14_2 : w4.cell? ⟨ab, 2, none⟩ = some (.slice au ak.length av) := (blk_cell aa.out 2).trans rfl
   have hcz14_3 : w4.cell? ⟨ab, 3, none⟩ = some (.slice aw al.length ax) := (blk_cell aa.out 3).trans rfl
   have hfz14_0 := blk_frozen aa.out 0; have hfz14_1 := blk_frozen aa.out 1; have hfz14_2 := blk_frozen aa.out 2; have hfz14_3 := blk_frozen aa.out 3
   go_wp2_with (first | ((with_reducible refine gate_callee (f := 23) rfl ?_); refine goesL_ (some 8) rfl rfl Try.func23 (by kernel_rfl) rfl #[.agg #[.slice aq ah.length ar, .int .i64 a0_1, .slice au ak.length av, .slice aw al.length ax]] rfl zg ?_; (with_reducible refine (spec_LoopOk.calls k _ _ ah a0_1 _ _ ak _ _ al false _ ?side1 ?side2 ?side3 ?side4 ?side5 ?side6 A5.out).mono ?_); (case side1 => exact zs (Kd.V_reads' am.out).2.2); (case side2 => exact (Kd.V_reads' am.out).2.1); (case side3 => exact zs (Kd.V_reads' an.out).2.2); (case side4 => exact (Kd.V_reads' an.out).2.1); (case side5 => exact zs (Kd.V_reads' ao.out).2.2); (case side6 => exact (Kd.V_reads' ao.out).2.1); rintro e w15 ⟨rfl, hb⟩; refine ⟨_, rfl, ?_⟩; have aF := zK (Kd.V_below (by (with_reducible repeat (first | apply Kd.V_alloc | apply Kd.V_drewN | apply Kd.V_drew)); exact am.out) hb); have aG := zK (Kd.V_below (by (with_reducible repeat (first | apply Kd.V_alloc | apply Kd.V_drewN | apply Kd.V_drew)); exact an.out) hb); have aH := zK (Kd.V_below (by (with_reducible repeat (first | apply Kd.V_alloc | apply Kd.V_drewN | apply Kd.V_drew)); exact ao.out) hb); have aI := zK (blk_below (g := ab) (o := .cells #[.slice aq ah.length ar, .int .i64 a0_1, .slice au ak.length av, .slice aw al.length ax] 28 (0, 0)) (zk aa) hb); have aJ := zK (below_step (zb HB) hb); clear am; clear an; clear ao; clear aa; clear HB; have am := aF; have an := aG; have ao := aH; have aa := aI; have HB := aJ; clear aF aG aH aI aJ; (try clear hb)))
   go_meet
   case rel => exact ⟨_, (true), zf, H', ⟨by first | omega | exact Nat.le_refl _⟩, ⟨by (with_reducible repeat (first | apply Kd.V_alloc | apply Kd.V_drewN | apply Kd.V_drew)); exact am.out⟩, ⟨by (with_reducible repeat (first | apply Kd.V_alloc | apply Kd.V_drewN | apply Kd.V_drew)); exact an.out⟩, ⟨by (with_reducible repeat (first | apply Kd.V_alloc | apply Kd.V_drewN | apply Kd.V_drew)); exact ao.out⟩, ⟨zk aa⟩, ⟨zb HB⟩⟩
 case rest =>
  clear HC3
  obtain ⟨kq, aR, rfl, HA, HJ2, ae, ai, aj, aa, HB⟩ := hcut
  cases kq with
  | zero => exact absurd HA.out (by simp [spec_StepsOf.j0])
  | succ kj2 =>
   have H := HA.out; clear HA
   simp only [spec_StepsOf.j0] at H
   by_cases c16 : aR = true
   ·subst c16
    have H1 : (some (0, false)) = some (r1, r2) := by rw [if_pos rfl] at H; exact H
    clear H; have H := H1; clear H1
    simp only [Option.some.injEq, Prod.mk.injEq] at H
    obtain ⟨rfl, rfl⟩ := H
    go_wp2
    go_ret2
    exact ⟨ze, zb HB⟩
   ·replace c16 := Bool.eq_false_iff.mpr c16
    subst c16
    have H1 : (spec_StepsOf.l0 kj2 a1 0 ah a0_1 ak al) = some (r1, r2) := by rw [if_neg (show ¬ (false = true) by decide)] at H; exact H
    clear H; have H := H1; clear H1; have H' := zK H; clear H
    go_wp2
    go_loopg [6] kj2 (fun kq v6 w' => ∃ (ay : Int) (ac : List Int) (ag : Int) (af : List (S69)) (ad : List (S74)) (u331000 : Value) (u331002 : Value) (u331003 : Value), v6 = .int .i64 ay ∧ Aside0 (spec_StepsOf.l0 kq a1 ay ac ag af ad = some (r1, r2)) ∧ Aside0 (kq ≤ kj2) ∧ Aside0 (Kd.V (Kd.int .i64) 3 w' w.heap.size (fun k_ => ((P0_0_ k_ ∨ P0_2_ k_ ∨ P0_3_ k_) ∨ w.heap.size ≤ k_) ∧ k_ ≠ ab) u331000 ac) ∧ Aside0 (Kd.V k69 69 w' w.heap.size (fun k_ => ((P0_0_ k_ ∨ P0_2_ k_ ∨ P0_3_ k_) ∨ w.heap.size ≤ k_) ∧ k_ ≠ ab) u331002 af) ∧ Aside0 (Kd.V k74 74 w' w.heap.size (fun k_ => ((P0_0_ k_ ∨ P0_2_ k_ ∨ P0_3_ k_) ∨ w.heap.size ≤ k_) ∧ k_ ≠ ab) u331003 ad) ∧ Aside0 (w'.heap[ab]? = some (.cells #[u331000, .int .i64 ag, u331002, u331003] 28 (0, 0))) ∧ Aside0 (Below w.heap.size w w'))
    case atStart => exact ⟨(0), (ah), (a0_1), (ak), (al), (.slice aq ah.length ar), (.slice au ak.length av), (.slice aw al.length ax), zf, H', ⟨Nat.le_refl _⟩, ⟨by (with_reducible repeat (first | apply Kd.V_alloc | apply Kd.V_drewN | apply Kd.V_drew)); exact ae.out⟩, ⟨by (with_reducible repeat (first | apply Kd.V_alloc | apply Kd.V_drewN | apply Kd.V_drew)); exact ai.out⟩, ⟨by (with_reducible repeat (first | apply Kd.V_alloc | apply Kd.V_drewN | apply Kd.V_drew)); exact aj.out⟩, ⟨zk aa⟩, ⟨zb HB⟩⟩
    case round =>
     clear H'
     obtain ⟨ay, ac, ag, af, ad, u331000, u331002, u331003, rfl, HA, HK2, ae, ai, aj, aa, HB⟩ := hrel
     cases gk with
     | zero => exact absurd HA.out (by simp [spec_StepsOf.l0])
     | succ k2 =>
      have H := HA.out; clear HA
      simp only [spec_StepsOf.l0] at H
      by_cases a2 : ay ≤ 600
      ·rw [if_pos a2] at H
       have a6 : decide (ay ≤ 600) = true := decide_eq_true a2
       clear a2; replace H := Option.bind_eq_some_iff.mp H
       obtain ⟨a7, a8, H⟩ := H
       replace H : (if a7 = true then ((spec_l05Step.f k2 ac ag af ad).bind fun bt334 => (spec_StepsOf.l0 k2 a1 (wrap64 (ay + 1)) bt334.1 bt334.2.1 bt334.2.2.1 bt334.2.2.2)) else (some (ay, true))) = some (r1, r2) := H
       have A18 := zK a8; clear a8
       by_cases c19 : a7 = true
       ·subst c19
        have H1 : ((spec_l05Step.f k2 ac ag af ad).bind fun bt334 => (spec_StepsOf.l0 k2 a1 (wrap64 (ay + 1)) bt334.1 bt334.2.1 bt334.2.2.1 bt334.2.2.2)) = some (r1, r2) := by rw [if_pos rfl] at H; exact H
        clear H; have H := H1; clear H1; replace H := Option.bind_eq_some_iff.mp H
        obtain ⟨⟨az, aK, aL, aO⟩, a9, H⟩ := H
        replace H : (spec_StepsOf.l0 k2 a1 (wrap64 (ay + 1)) az aK aL aO) = some (r1, r2) := H
        have A20 := zK a9; clear a9; have H' := zK H; clear H
        have hcz21_0 : wr.cell? ⟨ab, 0, none⟩ = some (u331000) := (blk_cell aa.out 0).trans rfl
        have hcz21_1 : wr.cell? ⟨ab, 1, none⟩ = some (.int .i64 ag) := (blk_cell aa.out 1).trans rfl
        have hcz21_2 : wr.cell? ⟨ab, 2, none⟩ = some (u331002) := (blk_cell aa.out 2).trans rfl
        have hcz21_3 : wr.cell? ⟨ab, 3, none⟩ = some (u331003) := (blk_cell aa.out 3).trans rfl
        have hfz21_0 := blk_frozen aa.out 0; have hfz21_1 := blk_frozen aa.out 1; have hfz21_2 := blk_frozen aa.out 2; have hfz21_3 := blk_frozen aa.out 3
        obtain ⟨aM, aN, eo22⟩ := Kd.V_slice ae.out
        subst eo22
        obtain ⟨aD, aE, eo23⟩ := Kd.V_slice ai.out
        subst eo23
        obtain ⟨aA, aB, eo24⟩ := Kd.V_slice aj.out
        subst eo24
        go_wp2_with (first | ((with_reducible refine gate_callee (f := 55) rfl ?_); refine goesL_ (some 28) rfl rfl Try.func55 (by kernel_rfl) rfl #[.slice aM ac.length aN, .int .i64 a1] rfl zg ?_; (with_reducible refine (spec_l03Has.calls k2 _ _ ac a1 true _ ?side1 ?side2 A18.out).mono ?_); (case side1 => exact zs (Kd.V_reads' ae.out).2.2); (case side2 => exact (Kd.V_reads' ae.out).2.1); rintro e w' ⟨rfl, ⟨nd, rfl⟩⟩; refine ⟨_, rfl, ?_⟩; (try (rw [drewN_self wr]; generalize hq_ : World.drewN wr _ = wr; have aF : Aside0 (Kd.V (Kd.int .i64) 3 wr w.heap.size (fun k_ => ((P0_0_ k_ ∨ P0_2_ k_ ∨ P0_3_ k_) ∨ w.heap.size ≤ k_) ∧ k_ ≠ ab) (.slice aM ac.length aN) ac) := ⟨by rw [← hq_]; exact (by (with_reducible repeat (first | apply Kd.V_alloc | apply Kd.V_drewN | apply Kd.V_drew)); exact ae.out)⟩; have aG : Aside0 (Kd.V k69 69 wr w.heap.size (fun k_ => ((P0_0_ k_ ∨ P0_2_ k_ ∨ P0_3_ k_) ∨ w.heap.size ≤ k_) ∧ k_ ≠ ab) (.slice aD af.length aE) af) := ⟨by rw [← hq_]; exact (by (with_reducible repeat (first | apply Kd.V_alloc | apply Kd.V_drewN | apply Kd.V_drew)); exact ai.out)⟩; have aH : Aside0 (Kd.V k74 74 wr w.heap.size (fun k_ => ((P0_0_ k_ ∨ P0_2_ k_ ∨ P0_3_ k_) ∨ w.heap.size ≤ k_) ∧ k_ ≠ ab) (.slice aA ad.length aB) ad) := ⟨by rw [← hq_]; exact (by (with_reducible repeat (first | apply Kd.V_alloc | apply Kd.V_drewN | apply Kd.V_drew)); exact aj.out)⟩; have aI : Aside0 (wr.heap[ab]? = some (.cells #[.slice aM ac.length aN, .int .i64 ag, (.slice aD af.length aE), (.slice aA ad.length aB)] 28 (0, 0))) := ⟨by rw [← hq_]; exact (zk aa)⟩; have aJ : Aside0 (Below w.heap.size w wr) := ⟨by rw [← hq_]; exact (zb HB)⟩; clear ae ai aj aa HB hq_; have ae := aF; have ai := aG; have aj := aH; have aa := aI; have HB := aJ; clear aF aG aH aI aJ)); have hczb_0 : wr.cell? ⟨ab, 0, none⟩ = some (.slice aM ac.length aN) := (blk_cell aa.out 0).trans rfl; have hczb_1 : wr.cell? ⟨ab, 1, none⟩ = some (.int .i64 ag) := (blk_cell aa.out 1).trans rfl; have hczb_2 : wr.cell? ⟨ab, 2, none⟩ = some ((.slice aD af.length aE)) := (blk_cell aa.out 2).trans rfl; have hczb_3 : wr.cell? ⟨ab, 3, none⟩ = some ((.slice aA ad.length aB)) := (blk_cell aa.out 3).trans rfl) | ((with_reducible refine gate_callee (f := 56) rfl ?_); refine goesL_ (some 32) rfl rfl Try.func56 (by kernel_rfl) rfl #[.agg #[.slice aM ac.length aN, .int .i64 ag, .slice aD af.length aE, .slice aA ad.length aB]] rfl zg ?_; (with_reducible refine (spec_l05Step.calls k2 _ _ ac ag _ _ af _ _ ad az aK aL aO _ ?side1 ?side2 ?side3 ?side4 ?side5 ?side6 A20.out).mono ?_); (case side1 => exact zs (Kd.V_reads' ae.out).2.2); (case side2 => exact (Kd.V_reads' ae.out).2.1); (case side3 => exact zs (Kd.V_reads' ai.out).2.2); (case side4 => exact (Kd.V_reads' ai.out).2.1); (case side5 => exact zs (Kd.V_reads' aj.out).2.2); (case side6 => exact (Kd.V_reads' aj.out).2.1); rintro e w25 ⟨v335, v339, v342, rfl, ho0, ho1, ho2, hb⟩; refine ⟨_, rfl, ?_⟩; have aF := zK (Kd.V_mono (Kd.V_told (Kd.V_told (Kd.V_told (Kd.V_old (by (with_reducible repeat (first | apply Kd.V_alloc | apply Kd.V_drewN | apply Kd.V_drew)); exact ae.out) hb) (Kd.R_base ho0)) (Kd.S_base ho1)) (Kd.S_base ho2)) (fun _ h_ => h_.1)); have aG := zK (Kd.V_mono (Kd.V_told (Kd.V_told (Kd.V_told (Kd.V_old (by (with_reducible repeat (first | apply Kd.V_alloc | apply Kd.V_drewN | apply Kd.V_drew)); exact ai.out) hb) (Kd.R_base ho0)) (Kd.S_base ho1)) (Kd.S_base ho2)) (fun _ h_ => h_.1)); have aH := zK (Kd.V_mono (Kd.V_told (Kd.V_told (Kd.V_told (Kd.V_old (by (with_reducible repeat (first | apply Kd.V_alloc | apply Kd.V_drewN | apply Kd.V_drew)); exact aj.out) hb) (Kd.R_base ho0)) (Kd.S_base ho1)) (Kd.S_base ho2)) (fun _ h_ => h_.1)); have aI := zK (Kd.R_lower (Kd.R_newM (M := fun k_ => (w.heap.size ≤ k_)) ho0 (below_size (zb HB)) (fun k_ h_ => h_)) (below_size (zb HB))); have aJ := zK (Kd.S_lower (Kd.S_newM (M := fun k_ => (w.heap.size ≤ k_)) ho1 (below_size (zb HB)) (fun k_ h_ => h_)) (below_size (zb HB))); have a3 := zK (Kd.S_lower (Kd.S_newM (M := fun k_ => (w.heap.size ≤ k_)) ho2 (below_size (zb HB)) (fun k_ h_ => h_)) (below_size (zb HB))); have a4 := zK (blk_below (g := ab) (o := .cells #[.slice aM ac.length aN, .int .i64 ag, .slice aD af.length aE, .slice aA ad.length aB] 28 (0, 0)) (zk aa) hb); have n7_ := zK (below_step (zb HB) hb); clear ae; clear ai; clear aj; clear aa; clear HB; have ae := aF; have ai := aG; have aj := aH; have aY := aI; have aZ := aJ; have a0 := a3; have aa := a4; have HB := n7_; clear aF aG aH aI aJ a3 a4 n7_; (try clear hb); (try clear ho0); (try clear ho1); (try clear ho2); obtain ⟨aP, aQ, eo26⟩ := Kd.R_slice aY.out; subst eo26; have hcz27_0 : w25.cell? ⟨ab, 0, none⟩ = some (.slice aM ac.length aN) := (blk_cell aa.out 0).trans rfl; have hcz27_1 : w25.cell? ⟨ab, 1, none⟩ = some (.int .i64 ag) := (blk_cell aa.out 1).trans rfl; have hcz27_2 : w25.cell? ⟨ab, 2, none⟩ = some (.slice aD af.length aE) := (blk_cell aa.out 2).trans rfl; have hcz27_3 : w25.cell? ⟨ab, 3, none⟩ = some (.slice aA ad.length aB) := (blk_cell aa.out 3).trans rfl; have hfz27_0 := blk_frozen aa.out 0; have hfz27_1 := blk_frozen aa.out 1; have hfz27_2 := blk_frozen aa.out 2; have hfz27_3 := blk_frozen aa.out 3; obtain ⟨aT, aU, eo28⟩ := Kd.S_slice aZ.out; subst eo28; obtain ⟨aW, aX, eo29⟩ := Kd.S_slice a0.out; subst eo29))
        go_roundg k2
        case measure => have := HJ2.out; have := HK2.out; omega
        case rel => exact ⟨(wrap64 (ay + 1)), (az), (aK), (aL), (aO), (.slice aP az.length aQ), (.slice aT aL.length aU), (.slice aW aO.length aX), zf, H', ⟨by have := HJ2.out; have := HK2.out; omega⟩, ⟨Kd.V_mono (Kd.R_V (by (with_reducible repeat (first | apply Kd.R_alloc | apply Kd.R_drewN | apply Kd.R_drew)); exact Kd.R_mono (ok' := fun k_ => (((w.heap.size ≤ k_)) ∧ k_ ≠ ab)) (Kd.R_far (p := ⟨ab, 3, none⟩) (Kd.R_far (p := ⟨ab, 2, none⟩) (Kd.R_far (p := ⟨ab, 1, none⟩) (Kd.R_far (p := ⟨ab, 0, none⟩) (Kd.R_types (Kd.R_types aY.out aa.out (by decide)) aa.out (by decide)) (fun _ hk => hk.2) (.slice aP az.length aQ)) (fun _ hk => hk.2) (.int .i64 aK)) (fun _ hk => hk.2) (.slice aT aL.length aU)) (fun _ hk => hk.2) (.slice aW aO.length aX)) (fun _ hk => ⟨hk.1.1.1, hk.1.2⟩))) (fun k_ hk => by first | exact ⟨(.inr (hk.1)), hk.2⟩ | exact (.inr (hk)))⟩, ⟨Kd.V_mono (Kd.S_V (by (with_reducible repeat (first | apply Kd.S_alloc | apply Kd.S_drewN | apply Kd.S_drew)); exact Kd.S_mono (ok' := fun k_ => (((w.heap.size ≤ k_)) ∧ k_ ≠ ab)) (Kd.S_far (p := ⟨ab, 3, none⟩) (Kd.S_far (p := ⟨ab, 2, none⟩) (Kd.S_far (p := ⟨ab, 1, none⟩) (Kd.S_far (p := ⟨ab, 0, none⟩) (Kd.S_types (Kd.S_types aZ.out aa.out (by decide)) aa.out (by decide)) (fun _ hk => hk.2) (.slice aP az.length aQ)) (fun _ hk => hk.2) (.int .i64 aK)) (fun _ hk => hk.2) (.slice aT aL.length aU)) (fun _ hk => hk.2) (.slice aW aO.length aX)) (fun _ hk => ⟨hk.1.1.1, hk.1.2⟩))) (fun k_ hk => by first | exact ⟨(.inr (hk.1)), hk.2⟩ | exact (.inr (hk)))⟩, ⟨Kd.V_mono (Kd.S_V (by (with_reducible repeat (first | apply Kd.S_alloc | apply Kd.S_drewN | apply Kd.S_drew)); exact Kd.S_mono (ok' := fun k_ => (((w.heap.size ≤ k_)) ∧ k_ ≠ ab)) (Kd.S_far (p := ⟨ab, 3, none⟩) (Kd.S_far (p := ⟨ab, 2, none⟩) (Kd.S_far (p := ⟨ab, 1, none⟩) (Kd.S_far (p := ⟨ab, 0, none⟩) (Kd.S_types (Kd.S_types a0.out aa.out (by decide)) aa.out (by decide)) (fun _ hk => hk.2) (.slice aP az.length aQ)) (fun _ hk => hk.2) (.int .i64 aK)) (fun _ hk => hk.2) (.slice aT aL.length aU)) (fun _ hk => hk.2) (.slice aW aO.length aX)) (fun _ hk => ⟨hk.1.1.1, hk.1.2⟩))) (fun k_ hk => by first | exact ⟨(.inr (hk.1)), hk.2⟩ | exact (.inr (hk)))⟩, ⟨by (with_reducible repeat (first | refine zN ?_ _ | refine zD ?_ | refine zA ?_ _)); refine blk_put (cs := #[.slice aP az.length aQ, .int .i64 aK, .slice aT aL.length aU, .slice aA ad.length aB]) ?_ 3 _ rfl; (with_reducible repeat (first | refine zN ?_ _ | refine zD ?_ | refine zA ?_ _)); refine blk_put (cs := #[.slice aP az.length aQ, .int .i64 aK, .slice aD af.length aE, .slice aA ad.length aB]) ?_ 2 _ rfl; (with_reducible repeat (first | refine zN ?_ _ | refine zD ?_ | refine zA ?_ _)); refine blk_put (cs := #[.slice aP az.length aQ, .int .i64 ag, .slice aD af.length aE, .slice aA ad.length aB]) ?_ 1 _ rfl; (with_reducible repeat (first | refine zN ?_ _ | refine zD ?_ | refine zA ?_ _)); refine blk_put (cs := #[.slice aM ac.length aN, .int .i64 ag, .slice aD af.length aE, .slice aA ad.length aB]) ?_ 0 _ rfl; (with_reducible repeat (first | refine zN ?_ _ | refine zD ?_ | refine zA ?_ _)); exact aa.out⟩, ⟨zb HB⟩⟩
       ·replace c19 := Bool.eq_false_iff.mpr c19
        subst c19
        have H1 : (some (ay, true)) = some (r1, r2) := by rw [if_neg (show ¬ (false = true) by decide)] at H; exact H
        clear H; have H := H1; clear H1
        simp only [Option.some.injEq, Prod.mk.injEq] at H
        obtain ⟨rfl, rfl⟩ := H
        have hcz30_0 : wr.cell? ⟨ab, 0, none⟩ = some (u331000) := (blk_cell aa.out 0).trans rfl
        have hcz30_1 : wr.cell? ⟨ab, 1, none⟩ = some (.int .i64 ag) := (blk_cell aa.out 1).trans rfl
        have hcz30_2 : wr.cell? ⟨ab, 2, none⟩ = some (u331002) := (blk_cell aa.out 2).trans rfl
        have hcz30_3 : wr.cell? ⟨ab, 3, none⟩ = some (u331003) := (blk_cell aa.out 3).trans rfl
        have hfz30_0 := blk_frozen aa.out 0; have hfz30_1 := blk_frozen aa.out 1; have hfz30_2 := blk_frozen aa.out 2; have hfz30_3 := blk_frozen aa.out 3
        obtain ⟨Ao31, co31, eo31⟩ := Kd.V_slice ae.out
        subst eo31
        go_wp2_with (first | ((with_reducible refine gate_callee (f := 55) rfl ?_); refine goesL_ (some 28) rfl rfl Try.func55 (by kernel_rfl) rfl #[.slice Ao31 ac.length co31, .int .i64 a1] rfl zg ?_; (with_reducible refine (spec_l03Has.calls k2 _ _ ac a1 false _ ?side1 ?side2 A18.out).mono ?_); (case side1 => exact zs (Kd.V_reads' ae.out).2.2); (case side2 => exact (Kd.V_reads' ae.out).2.1); rintro e w' ⟨rfl, ⟨nd, rfl⟩⟩; refine ⟨_, rfl, ?_⟩))
        go_ret2
        exact ⟨ze, zb HB⟩
      ·rw [if_neg a2] at H
       have a6 : decide (ay ≤ 600) = false := decide_eq_false a2
       clear a2
       simp only [Option.some.injEq, Prod.mk.injEq] at H
       obtain ⟨rfl, rfl⟩ := H
       go_wp2
       go_ret2
       exact ⟨ze, zb HB⟩
end Go.Proofs.Ytmjhbdmicejppaa.Px
