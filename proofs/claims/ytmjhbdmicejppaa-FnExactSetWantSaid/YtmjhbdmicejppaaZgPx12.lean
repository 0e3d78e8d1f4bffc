import Derived.Test.YtmjhbdmicejppaaZgPx0
import Derived.Test.YtmjhbdmicejppaaZgPx3
import Derived.Test.YtmjhbdmicejppaaZgPx5
namespace Go.Proofs.Ytmjhbdmicejppaa.Px
open Go.RowKit Go.Proofs.YtmjhbdmicejppaaW.PrintWords Go.Proofs.YtmjhbdmicejppaaW.PrintLast Go.Proofs.YtmjhbdmicejppaaW.PrintMore
attribute [local go_sem] max2_int min2_int max_two min_two max_three min_three max_four min_four   
set_option linter.unusedVariables false
set_option linter.unusedSimpArgs false
theorem age2 {W w1 : World} {base : Nat} {ok2 ok3 : Nat → Prop} {v2 v3 : Value} {ch : List S69} {wa : List S74} (h2 : Kd.S k69 69 W base ok2 v2 ch) (h3 : Kd.S k74 74 w1 W.heap.size ok3 v3 wa) (hb : Below W.heap.size W w1) (hle : base ≤ W.heap.size) :
 ∃ N, Kd.S k69 69 w1 base (fun k => ok2 k ∧ k < N) v2 ch ∧ Kd.S k74 74 w1 N ok3 v3 wa ∧ base ≤ N := ⟨W.heap.size, Kd.S_old h2 hb, h3, hle⟩
set_option maxHeartbeats 8000000 in
set_option maxRecDepth 100000 in
theorem laws_toLoop.calls2 (k : Nat) (ap : Option Addr) (aq : Nat) (aj : List Int) (a0_1 : Int) (ar : Option Addr) (au : Nat) (ai : List (S95)) (av : Option Addr) (aw : Nat) (ag : List (S97)) (r1 : List Int) (r2 : Int) (r3 : List (S69)) (r4 : List (S74)) (w : World) (aR : Kd.C (Kd.int .i64) w ap aj.length aj) (hc0_0 : aj.length ≤ aq) (aS : Kd.C k95 w ar ai.length ai) (hc0_2 : ai.length ≤ au) (aT : Kd.C k97 w av ag.length ag) (hc0_3 : ag.length ≤ aw) (h : laws_toLoop.f k aj a0_1 ai ag = some (r1, r2, r3, r4)) :
  Calls Try.prog 32 #[.agg #[.slice ap aj.length aq, .int .i64 a0_1, .slice ar ai.length au, .slice av ag.length aw]] w fun e w' => ∃ v0_ v2_ v3_ : Value, e = .returned (.agg #[v0_, .int .i64 r2, v2_, v3_]) ∧ (∃ PW, LoopMem w.heap.size w' PW v0_ r1 v2_ r3 v3_ r4) ∧ Below w.heap.size w w' := by
 have hu43 := Try.underlying43; have hu28 := Try.underlying28; have aZ := zK aR; have a0 := zK hc0_0; clear aR hc0_0; have a1 := zK aS; have a2 := zK hc0_2; clear aS hc0_2; have a3 := zK aT; have a4 := zK hc0_3; clear aT hc0_3
 have HB := zK (Below.refl w.heap.size w)
 have H : ((laws_toIntS.f k aj).bind fun ak => ((laws_toChuteS.f k ai).bind fun an => ((laws_toWantS.f k ag).bind fun ay => (some (ak, a0_1, an, ay))))) = some (r1, r2, r3, r4) := h
 clear h; replace H := Option.bind_eq_some_iff.mp H
 obtain ⟨ak, A20, H⟩ := H
 replace H : ((laws_toChuteS.f k ai).bind fun an => ((laws_toWantS.f k ag).bind fun ay => (some (ak, a0_1, an, ay)))) = some (r1, r2, r3, r4) := H
 have A2 := zK A20; clear A20; replace H := Option.bind_eq_some_iff.mp H
 obtain ⟨an, A30, H⟩ := H
 replace H : ((laws_toWantS.f k ag).bind fun ay => (some (ak, a0_1, an, ay))) = some (r1, r2, r3, r4) := H
 have A3 := zK A30; clear A30; replace H := Option.bind_eq_some_iff.mp H
 obtain ⟨ay, A40, H⟩ := H
 replace H : (some (ak, a0_1, an, ay)) = some (r1, r2, r3, r4) := H
 have A4 := zK A40; clear A40
 simp only [Option.some.injEq, Prod.mk.injEq] at H
 obtain ⟨rfl, rfl, rfl, rfl⟩ := H
 go_enter Try.func32, Try.ntmps32
 go_wp2_with (first | ((with_reducible refine gate_dst (N := 1) rfl ?_); refine zX 1 #[.slice ap aj.length aq, .int .i64 a0_1, .slice ar ai.length au, .slice av ag.length aw] 43 ?_; intro ae hg w5 hbox hb; have aE := zK (below_step (zb HB) hb); have aF := zK (hbox); have aG := zK ((by rw [hg]; exact (below_size (zb HB)) : w.heap.size ≤ ae)); have aH := zK ((by rw [hg]; exact (below_size (zb HB)) : w.heap.size ≤ ae)); clear HB; have HB := aE; have aa := aF; have GW655 := aG; have ah := aH; clear aE aF aG aH; clear hb hbox hg) | ((with_reducible refine gate_dst (N := 2) rfl ?_); refine zX 2 #[.slice none 0 0, .int .i64 0, .slice none 0 0, .slice none 0 0] 28 ?_; intro ad hg w6 hbox hb; have aE := zK (blk_below (g := ae) (o := .cells #[.slice ap aj.length aq, .int .i64 a0_1, .slice ar ai.length au, .slice av ag.length aw] 43 (0, 0)) (zk aa) hb); have aF := zK (below_step (zb HB) hb); have aG := zK (hbox); have aH := zK ((by rw [hg]; exact (below_size (zb HB)) : w.heap.size ≤ ad)); have aL := zK ((by rw [hg]; exact (below_size (zb HB)) : w.heap.size ≤ ad)); have aQ := zK ((by rw [hg]; exact Nat.ne_of_lt (blk_lt (g := ae) (o := .cells #[.slice ap aj.length aq, .int .i64 a0_1, .slice ar ai.length au, .slice av ag.length aw] 43 (0, 0)) (zk aa)) : ae ≠ ad)); have aU := zK ((by rw [hg]; exact Nat.ne_of_gt (blk_lt (g := ae) (o := .cells #[.slice ap aj.length aq, .int .i64 a0_1, .slice ar ai.length au, .slice av ag.length aw] 43 (0, 0)) (zk aa)) : ad ≠ ae)); clear aa; clear HB; have aa := aE; have HB := aF; have af := aG; have GW656 := aH; have am := aL; have aM := aQ; have aN := aU; clear aE aF aG aH aL aQ aU; clear hb hbox hg) | ((with_reducible refine gate_dst (N := 3) rfl ?_); refine zX 3 #[.slice none 0 0, .int .i64 0, .slice none 0 0, .slice none 0 0] 28 ?_; intro ac hg w7 hbox hb; have aE := zK (blk_below (g := ae) (o := .cells #[.slice ap aj.length aq, .int .i64 a0_1, .slice ar ai.length au, .slice av ag.length aw] 43 (0, 0)) (zk aa) hb); have aF := zK (blk_below (g := ad) (o := .cells #[.slice none 0 0, .int .i64 0, .slice none 0 0, .slice none 0 0] 28 (0, 0)) (zk af) hb); have aG := zK (below_step (zb HB) hb); have aH := zK (hbox); have aL := zK ((by rw [hg]; exact (below_size (zb HB)) : w.heap.size ≤ ac)); have aQ := zK ((by rw [hg]; exact (below_size (zb HB)) : w.heap.size ≤ ac)); have aU := zK ((by rw [hg]; exact Nat.ne_of_lt (blk_lt (g := ae) (o := .cells #[.slice ap aj.length aq, .int .i64 a0_1, .slice ar ai.length au, .slice av ag.length aw] 43 (0, 0)) (zk aa)) : ae ≠ ac)); have n7_ := zK ((by rw [hg]; exact Nat.ne_of_gt (blk_lt (g := ae) (o := .cells #[.slice ap aj.length aq, .int .i64 a0_1, .slice ar ai.length au, .slice av ag.length aw] 43 (0, 0)) (zk aa)) : ac ≠ ae)); have n8_ := zK ((by rw [hg]; exact Nat.ne_of_lt (blk_lt (g := ad) (o := .cells #[.slice none 0 0, .int .i64 0, .slice none 0 0, .slice none 0 0] 28 (0, 0)) (zk af)) : ad ≠ ac)); have n9_ := zK ((by rw [hg]; exact Nat.ne_of_gt (blk_lt (g := ad) (o := .cells #[.slice none 0 0, .int .i64 0, .slice none 0 0, .slice none 0 0] 28 (0, 0)) (zk af)) : ac ≠ ad)); clear aa; clear af; clear HB; have aa := aE; have af := aF; have HB := aG; have ab := aH; have GW657 := aL; have aB := aQ; have ao := aU; have aO := n7_; have al := n8_; have aP := n9_; clear aE aF aG aH aL aQ aU n7_ n8_ n9_; clear hb hbox hg; have hnb8 := aM.out; have hnc8 := aN.out; have hnb9 := ao.out; have hnc9 := aO.out; have hcz10_0 : w7.cell? ⟨ae, 0, none⟩ = some (.slice ap aj.length aq) := (blk_cell aa.out 0).trans rfl; have hcz10_1 : w7.cell? ⟨ae, 1, none⟩ = some (.int .i64 a0_1) := (blk_cell aa.out 1).trans rfl; have hcz10_2 : w7.cell? ⟨ae, 2, none⟩ = some (.slice ar ai.length au) := (blk_cell aa.out 2).trans rfl; have hcz10_3 : w7.cell? ⟨ae, 3, none⟩ = some (.slice av ag.length aw) := (blk_cell aa.out 3).trans rfl; have hfz10_0 := blk_frozen aa.out 0; have hfz10_1 := blk_frozen aa.out 1; have hfz10_2 := blk_frozen aa.out 2; have hfz10_3 := blk_frozen aa.out 3) | ((with_reducible refine gate_callee (f := 39) rfl ?_); refine goesL_ (some 6) rfl rfl Try.func39 (by kernel_rfl) rfl #[.slice ap aj.length aq] rfl zg ?_; (with_reducible refine (laws_toIntS.calls k _ _ aj ak _ ?side1 ?side2 A2.out).mono ?_); (case side1 => exact zs (Kd.C_below aZ.out HB.out)); (case side2 => exact a0.out); rintro e aV ⟨v659, rfl, ho0, hb⟩; refine ⟨_, rfl, ?_⟩; have aE := zK (Kd.R_lower ho0 (below_size (zb HB))); have aF := zK (blk_below (g := ae) (o := .cells #[.slice ap aj.length aq, .int .i64 a0_1, .slice ar ai.length au, .slice av ag.length aw] 43 (0, 0)) (zk aa) hb); have aG := zK (blk_below (g := ad) (o := .cells #[.slice none 0 0, .int .i64 0, .slice none 0 0, .slice none 0 0] 28 (0, 0)) (zk af) hb); have aH := zK (blk_below (g := ac) (o := .cells #[.slice none 0 0, .int .i64 0, .slice none 0 0, .slice none 0 0] 28 (0, 0)) (zk ab) hb); have aL := zK (below_step (zb HB) hb); clear aa; clear af; clear ab; clear HB; have ax := aE; have aa := aF; have af := aG; have ab := aH; have HB := aL; clear aE aF aG aH aL; (try clear hb); (try clear hk); (try clear ho0); obtain ⟨az, aA, eo12⟩ := Kd.R_slice ax.out; subst eo12; have hnb13 := aP.out; have hnc13 := al.out; have hcz14_0 : aV.cell? ⟨ac, 0, none⟩ = some (.slice none 0 0) := (blk_cell ab.out 0).trans rfl; have hcz14_1 : aV.cell? ⟨ac, 1, none⟩ = some (.int .i64 0) := (blk_cell ab.out 1).trans rfl; have hcz14_2 : aV.cell? ⟨ac, 2, none⟩ = some (.slice none 0 0) := (blk_cell ab.out 2).trans rfl; have hcz14_3 : aV.cell? ⟨ac, 3, none⟩ = some (.slice none 0 0) := (blk_cell ab.out 3).trans rfl; have hfz14_0 := blk_frozen ab.out 0; have hfz14_1 := blk_frozen ab.out 1; have hfz14_2 := blk_frozen ab.out 2; have hfz14_3 := blk_frozen ab.out 3; have hcz15_0 : aV.cell? ⟨ae, 0, none⟩ = some (.slice ap aj.length aq) := (blk_cell aa.out 0).trans rfl; have hcz15_1 : aV.cell? ⟨ae, 1, none⟩ = some (.int .i64 a0_1) := (blk_cell aa.out 1).trans rfl; have hcz15_2 : aV.cell? ⟨ae, 2, none⟩ = some (.slice ar ai.length au) := (blk_cell aa.out 2).trans rfl; have hcz15_3 : aV.cell? ⟨ae, 3, none⟩ = some (.slice av ag.length aw) := (blk_cell aa.out 3).trans rfl; have hfz15_0 := blk_frozen aa.out 0; have hfz15_1 := blk_frozen aa.out 1; have hfz15_2 := blk_frozen aa.out 2; have hfz15_3 := blk_frozen aa.out 3) | ((with_reducible refine gate_callee (f := 73) rfl ?_); refine goesL_ (some 13) rfl rfl Try.func73 (by kernel_rfl) rfl #[.slice ar ai.length au] rfl zg ?_; (with_reducible refine (laws_toChuteS.calls k _ _ ai an _ ?side1 ?side2 A3.out).mono ?_); (case side1 => exact Kd.C_below a1.out (zb HB)); (case side2 => exact a2.out); rintro e aW ⟨v662, rfl, ho0, hb⟩; refine ⟨_, rfl, ?_⟩; have aE := zK (Kd.R_below (by (with_reducible repeat (first | apply Kd.R_alloc | apply Kd.R_drewN | apply Kd.R_drew)); exact (Kd.R_mono (Kd.R_far (p := ⟨ac, 1, none⟩) (Kd.R_far (p := ⟨ac, 0, none⟩) (Kd.R_types ax.out ab.out (by decide)) (fun _ hk => hk.2) (.slice az ak.length aA)) (fun _ hk => hk.2) (.int .i64 a0_1)) (fun _ h_ => h_.1))) hb); have aF := zK (Kd.S_lower (Kd.S_new' ho0 (Kd.R_lt (by (with_reducible repeat (first | apply Kd.R_alloc | apply Kd.R_drewN | apply Kd.R_drew)); exact (Kd.R_mono (Kd.R_far (p := ⟨ac, 1, none⟩) (Kd.R_far (p := ⟨ac, 0, none⟩) (Kd.R_types ax.out ab.out (by decide)) (fun _ hk => hk.2) (.slice az ak.length aA)) (fun _ hk => hk.2) (.int .i64 a0_1)) (fun _ h_ => h_.1))))) (below_size (zb HB))); have aG := zK (blk_below (g := ae) (o := .cells #[.slice ap aj.length aq, .int .i64 a0_1, .slice ar ai.length au, .slice av ag.length aw] 43 (0, 0)) (zh aa ao) hb); have aH := zK (blk_below (g := ad) (o := .cells #[.slice none 0 0, .int .i64 0, .slice none 0 0, .slice none 0 0] 28 (0, 0)) (zh af al) hb); have aL := zK (blk_below (g := ac) (o := .cells #[.slice az ak.length aA, .int .i64 a0_1, .slice none 0 0, .slice none 0 0] 28 (0, 0)) (by (with_reducible repeat (first | refine zN ?_ _ | refine zD ?_ | refine zA ?_ _)); refine blk_put (cs := #[.slice az ak.length aA, .int .i64 0, .slice none 0 0, .slice none 0 0]) ?_ 1 _ rfl; (with_reducible repeat (first | refine zN ?_ _ | refine zD ?_ | refine zA ?_ _)); refine blk_put (cs := #[.slice none 0 0, .int .i64 0, .slice none 0 0, .slice none 0 0]) ?_ 0 _ rfl; (with_reducible repeat (first | refine zN ?_ _ | refine zD ?_ | refine zA ?_ _)); exact ab.out) hb); have aQ := zK (below_step (zb HB) hb); clear ax; clear aa; clear af; clear ab; clear HB; have ax := aE; have aI := aF; have aa := aG; have af := aH; have ab := aL; have HB := aQ; clear aE aF aG aH aL aQ; (try clear hb); (try clear hk); (try clear ho0); obtain ⟨aC, aD, eo17⟩ := Kd.S_slice aI.out; subst eo17; have hcz18_0 : aW.cell? ⟨ac, 0, none⟩ = some (.slice az ak.length aA) := (blk_cell ab.out 0).trans rfl; have hcz18_1 : aW.cell? ⟨ac, 1, none⟩ = some (.int .i64 a0_1) := (blk_cell ab.out 1).trans rfl; have hcz18_2 : aW.cell? ⟨ac, 2, none⟩ = some (.slice none 0 0) := (blk_cell ab.out 2).trans rfl; have hcz18_3 : aW.cell? ⟨ac, 3, none⟩ = some (.slice none 0 0) := (blk_cell ab.out 3).trans rfl; have hfz18_0 := blk_frozen ab.out 0; have hfz18_1 := blk_frozen ab.out 1; have hfz18_2 := blk_frozen ab.out 2; have hfz18_3 := blk_frozen ab.out 3; have hcz19_0 : aW.cell? ⟨ae, 0, none⟩ = some (.slice ap aj.length aq) := (blk_cell aa.out 0).trans rfl; have hcz19_1 : aW.cell? ⟨ae, 1, none⟩ = some (.int .i64 a0_1) := (blk_cell aa.out 1).trans rfl; have hcz19_2 : aW.cell? ⟨ae, 2, none⟩ = some (.slice ar ai.length au) := (blk_cell aa.out 2).trans rfl; have hcz19_3 : aW.cell? ⟨ae, 3, none⟩ = some (.slice av ag.length aw) := (blk_cell aa.out 3).trans rfl; have hfz19_0 := blk_frozen aa.out 0; have hfz19_1 := blk_frozen aa.out 1; have hfz19_2 := blk_frozen aa.out 2; have hfz19_3 := blk_frozen aa.out 3) | ((with_reducible refine gate_callee (f := 74) rfl ?_); refine goesL_ (some 17) rfl rfl Try.func74 (by kernel_rfl) rfl #[.slice av ag.length aw] rfl zg ?_; (with_reducible refine (laws_toWantS.calls k _ _ ag ay _ ?side1 ?side2 A4.out).mono ?_); (case side1 => exact Kd.C_below a3.out (zb HB)); (case side2 => exact a4.out); rintro e aX ⟨v665, rfl, ho0, hb⟩; refine ⟨_, rfl, ?_⟩; have aE := zK (Kd.R_below (by (with_reducible repeat (first | apply Kd.R_alloc | apply Kd.R_drewN | apply Kd.R_drew)); exact (Kd.R_mono (Kd.R_far (p := ⟨ac, 2, none⟩) (Kd.R_types ax.out ab.out (by decide)) (fun _ hk => hk.2) (.slice aC an.length aD)) (fun _ h_ => h_.1))) hb); obtain ⟨N_, n1a_, n2a_, nba_⟩ := age2 (by (with_reducible repeat (first | apply Kd.S_alloc | apply Kd.S_drewN | apply Kd.S_drew)); exact (Kd.S_mono (Kd.S_far (p := ⟨ac, 2, none⟩) (Kd.S_types aI.out ab.out (by decide)) (fun _ hk => hk.2) (.slice aC an.length aD)) (fun _ h_ => h_.1))) (Kd.S_new' ho0 (Kd.R_lt (by (with_reducible repeat (first | apply Kd.R_alloc | apply Kd.R_drewN | apply Kd.R_drew)); exact (Kd.R_mono (Kd.R_far (p := ⟨ac, 2, none⟩) (Kd.R_types ax.out ab.out (by decide)) (fun _ hk => hk.2) (.slice aC an.length aD)) (fun _ h_ => h_.1))))) hb (below_size (zb HB)); have aF := zK n1a_; have aG := zK n2a_; have HNb := zK nba_; clear n1a_ n2a_ nba_; have aH := zK (blk_below (g := ae) (o := .cells #[.slice ap aj.length aq, .int .i64 a0_1, .slice ar ai.length au, .slice av ag.length aw] 43 (0, 0)) (zh aa ao) hb); have aL := zK (blk_below (g := ad) (o := .cells #[.slice none 0 0, .int .i64 0, .slice none 0 0, .slice none 0 0] 28 (0, 0)) (zh af al) hb); have aQ := zK (blk_below (g := ac) (o := .cells #[.slice az ak.length aA, .int .i64 a0_1, .slice aC an.length aD, .slice none 0 0] 28 (0, 0)) (by (with_reducible repeat (first | refine zN ?_ _ | refine zD ?_ | refine zA ?_ _)); refine blk_put (cs := #[.slice az ak.length aA, .int .i64 a0_1, .slice none 0 0, .slice none 0 0]) ?_ 2 _ rfl; (with_reducible repeat (first | refine zN ?_ _ | refine zD ?_ | refine zA ?_ _)); exact ab.out) hb); have aU := zK (below_step (zb HB) hb); clear ax; clear aI; clear aa; clear af; clear ab; clear HB; have ax := aE; have aI := aF; have aY := aG; have aa := aH; have af := aL; have ab := aQ; have HB := aU; clear aE aF aG aH aL aQ aU; (try clear hb); (try clear hk); (try clear ho0); obtain ⟨aJ, aK, eo21⟩ := Kd.S_slice aY.out; subst eo21; have hcz22_0 : aX.cell? ⟨ac, 0, none⟩ = some (.slice az ak.length aA) := (blk_cell ab.out 0).trans rfl; have hcz22_1 : aX.cell? ⟨ac, 1, none⟩ = some (.int .i64 a0_1) := (blk_cell ab.out 1).trans rfl; have hcz22_2 : aX.cell? ⟨ac, 2, none⟩ = some (.slice aC an.length aD) := (blk_cell ab.out 2).trans rfl; have hcz22_3 : aX.cell? ⟨ac, 3, none⟩ = some (.slice none 0 0) := (blk_cell ab.out 3).trans rfl; have hfz22_0 := blk_frozen ab.out 0; have hfz22_1 := blk_frozen ab.out 1; have hfz22_2 := blk_frozen ab.out 2; have hfz22_3 := blk_frozen ab.out 3; have hcz23_0 : aX.cell? ⟨ad, 0, none⟩ = some (.slice none 0 0) := (blk_cell af.out 0).trans rfl; have hcz23_1 : aX.cell? ⟨ad, 1, none⟩ = some (.int .i64 0) := (blk_cell af.out 1).trans rfl; have hcz23_2 : aX.cell? ⟨ad, 2, none⟩ = some (.slice none 0 0) := (blk_cell af.out 2).trans rfl; have hcz23_3 : aX.cell? ⟨ad, 3, none⟩ = some (.slice none 0 0) := (blk_cell af.out 3).trans rfl; have hfz23_0 := blk_frozen af.out 0; have hfz23_1 := blk_frozen af.out 1; have hfz23_2 := blk_frozen af.out 2; have hfz23_3 := blk_frozen af.out 3))
 refine bodyPost_ret (results_cell_row rfl _ _ ad 28 #[.slice az ak.length aA, .int .i64 a0_1, .slice aC an.length aD, .slice aJ ay.length aK] (0, 0) _ rfl (by (with_reducible repeat (first | refine zN ?_ _ | refine zD ?_ | refine zA ?_ _)); refine blk_put (cs := #[.slice az ak.length aA, .int .i64 a0_1, .slice aC an.length aD, .slice none 0 0]) ?_ 3 _ rfl; (with_reducible repeat (first | refine zN ?_ _ | refine zD ?_ | refine zA ?_ _)); refine blk_put (cs := #[.slice az ak.length aA, .int .i64 a0_1, .slice none 0 0, .slice none 0 0]) ?_ 2 _ rfl; (with_reducible repeat (first | refine zN ?_ _ | refine zD ?_ | refine zA ?_ _)); refine blk_put (cs := #[.slice az ak.length aA, .int .i64 0, .slice none 0 0, .slice none 0 0]) ?_ 1 _ rfl; (with_reducible repeat (first | refine zN ?_ _ | refine zD ?_ | refine zA ?_ _)); refine blk_put (cs := #[.slice none 0 0, .int .i64 0, .slice none 0 0, .slice none 0 0]) ?_ 0 _ rfl; (with_reducible repeat (first | refine zN ?_ _ | refine zD ?_ | refine zA ?_ _)); refine blk_far ?_ al.out _; (with_reducible repeat (first | refine zN ?_ _ | refine zD ?_ | refine zA ?_ _)); exact af.out) Try.underlying28 rfl (by kernel_rfl)) rfl ?_
 exact ⟨_, _, _, ze, LoopMem.mk (by (with_reducible repeat (first | apply Kd.R_alloc | apply Kd.R_drewN | apply Kd.R_drew)); exact Kd.R_mono (Kd.R_far (p := ⟨ad, 3, none⟩) (Kd.R_far (p := ⟨ad, 2, none⟩) (Kd.R_far (p := ⟨ad, 1, none⟩) (Kd.R_far (p := ⟨ad, 0, none⟩) (Kd.R_far (p := ⟨ac, 3, none⟩) (Kd.R_types (Kd.R_types ax.out ab.out (by decide)) af.out (by decide)) (fun _ hk => hk.1.2) (.slice aJ ay.length aK)) (fun _ hk => hk.2) (.slice az ak.length aA)) (fun _ hk => hk.2) (.int .i64 a0_1)) (fun _ hk => hk.2) (.slice aC an.length aD)) (fun _ hk => hk.2) (.slice aJ ay.length aK)) (fun _ hk => trivial)) (by (with_reducible repeat (first | apply Kd.S_alloc | apply Kd.S_drewN | apply Kd.S_drew)); exact Kd.S_mono (Kd.S_far (p := ⟨ad, 3, none⟩) (Kd.S_far (p := ⟨ad, 2, none⟩) (Kd.S_far (p := ⟨ad, 1, none⟩) (Kd.S_far (p := ⟨ad, 0, none⟩) (Kd.S_far (p := ⟨ac, 3, none⟩) (Kd.S_types (Kd.S_types aI.out ab.out (by decide)) af.out (by decide)) (fun _ hk => hk.1.2) (.slice aJ ay.length aK)) (fun _ hk => hk.2) (.slice az ak.length aA)) (fun _ hk => hk.2) (.int .i64 a0_1)) (fun _ hk => hk.2) (.slice aC an.length aD)) (fun _ hk => hk.2) (.slice aJ ay.length aK)) (fun _ hk => ⟨hk.1.1.1.2, hk.1.1.2⟩)) (by (with_reducible repeat (first | apply Kd.S_alloc | apply Kd.S_drewN | apply Kd.S_drew)); exact Kd.S_mono (Kd.S_far (p := ⟨ad, 3, none⟩) (Kd.S_far (p := ⟨ad, 2, none⟩) (Kd.S_far (p := ⟨ad, 1, none⟩) (Kd.S_far (p := ⟨ad, 0, none⟩) (Kd.S_far (p := ⟨ac, 3, none⟩) (Kd.S_types (Kd.S_types aY.out ab.out (by decide)) af.out (by decide)) (fun _ hk => hk.1.2) (.slice aJ ay.length aK)) (fun _ hk => hk.2) (.slice az ak.length aA)) (fun _ hk => hk.2) (.int .i64 a0_1)) (fun _ hk => hk.2) (.slice aC an.length aD)) (fun _ hk => hk.2) (.slice aJ ay.length aK)) (fun _ hk => hk.1.1.2)) HNb.out, zb HB⟩
def laws_markIntS.l0 : Nat → List Int → Int → Int → Option (Int × List Int)
 | 0, _, _, _ => none
 | k + 1, x0, x1, x5 => if x5 < (x0.length : Int) then (if 0 ≤ x5 then (laws_markIntS.l0 k (x0.set (x5 : Int).toNat x1) (wrap64 (x1 + 1)) (wrap64 (x5 + 1))) else (none)) else (some (x1, x0))
def laws_markIntS.f (k : Nat) (l0 : List Int) (a1 : Int) : Option (Int × List Int) := laws_markIntS.l0 k l0 a1 0
theorem zy8 {p q : Prop} (h : Aside0 p) (s : p → q := by intro h_; repeat (first | (with_reducible first | exact h_ | apply Kept.alloc | apply Kept.drewN | apply Kept.drew | refine Kept.setCell ?_ (.inr (Aside0.out (by assumption))) _) | exact h_)) : q := s h.out
set_option maxHeartbeats 8000000 in
set_option maxRecDepth 100000 in
theorem laws_markIntS.calls (k : Nat) (P0_ : Nat → Prop) (u9000_ : Value) (l0 : List Int) (a1 : Int) (r1 : Int) (r2 : List Int) (w0 w : World) (hB : Below w0.heap.size w0 w) (ho0 : Kd.R (Kd.int .i64) 3 w w0.heap.size P0_ u9000_ l0) (h : laws_markIntS.f k l0 a1 = some (r1, r2)) :
  Calls Try.prog 43 #[u9000_, .int .i64 a1] w fun e w' => e = .returned (.int .i64 r1) ∧ Kd.R (Kd.int .i64) 3 w' w0.heap.size (fun k_ => (P0_ k_ ∨ w.heap.size ≤ k_)) u9000_ r2 ∧ Below w0.heap.size w0 w' ∧ Kept w w' (fun k_ => P0_ k_) := by
 have HO0 := zK (show Kd.R (Kd.int .i64) 3 w w0.heap.size (fun k_ => (P0_ k_ ∨ w.heap.size ≤ k_)) u9000_ l0 from Kd.R_mono ho0 (fun k_ hk => (.inl hk)))
 have HK := zK (Kept.refl w (fun k_ => P0_ k_))
 have HW0 := zK hB.size; have HB := zK hB; clear hB
 have H : (laws_markIntS.l0 k l0 a1 0) = some (r1, r2) := h
 clear h; have H' := zK H; clear H
 go_enter Try.func43, Try.ntmps43
 go_wp2
 go_loopg [1, 5] k (fun kq v1 v5 w' => ∃ (ac : List Int) (ad : Int) (aa : Int), v1 = .int .i64 ad ∧ v5 = .int .i64 aa ∧ Aside0 (laws_markIntS.l0 kq ac ad aa = some (r1, r2)) ∧ Aside0 (kq ≤ k) ∧ Aside0 (Kd.R (Kd.int .i64) 3 w' w0.heap.size (fun k_ => (P0_ k_ ∨ w.heap.size ≤ k_)) u9000_ ac) ∧ Aside0 (Kept w w' (fun k_ => P0_ k_)) ∧ Aside0 (Below w0.heap.size w0 w'))
 case atStart => exact ⟨(l0), (a1), (0), zf, zf, H', ⟨Nat.le_refl _⟩, ⟨zR HO0⟩, ⟨zy8 HK⟩, ⟨zb HB⟩⟩
 case round =>
  clear H'
  try clear p2
  obtain ⟨ac, ad, aa, rfl, rfl, HA, HK1, ab, HK, HB⟩ := hrel
  cases gk with
  | zero => exact absurd HA.out (by simp [laws_markIntS.l0])
  | succ k1 =>
   have H := HA.out; clear HA
   simp only [laws_markIntS.l0] at H
   by_cases c3 : aa < (ac.length : Int)
   ·rw [if_pos c3] at H
    have c3b0 : decide (aa < (ac.length : Int)) = true := decide_eq_true c3
    clear c3
    by_cases c4 : 0 ≤ aa
    ·rw [if_pos c4] at H
     have c4b0 : decide (0 ≤ aa) = true := decide_eq_true c4
     clear c4
     obtain ⟨af, ae⟩ : ∃ y_ : List Int, y_ = (ac.set (aa : Int).toNat ad) := ⟨_, rfl⟩
     replace H : (laws_markIntS.l0 k1 af (wrap64 (ad + 1)) (wrap64 (aa + 1))) = some (r1, r2) := by first | (rw [ae]; with_reducible exact H) | (have H2_ := (Option.bind_some _ _).symm.trans H; rw [ae]; with_reducible exact H2_) | (have H2_ := (Option.bind_some _ _).symm.trans H; with_reducible exact H2_) | with_reducible exact H | (rw [ae]; exact H) | exact H
     have Ny891 := zK ae; clear ae; have H' := zK H; clear H
     obtain ⟨Ao6, co6, eo6⟩ := Kd.R_slice ab.out
     subst eo6
     have p5 : 0 ≤ (aa : Int) := zd
     have q5 : (aa : Int) < ((ac.length : Int) : Int) := zd
     obtain ⟨ag, co5, eo5, gb5, gl5, cl5, HG5⟩ := Kd.R_form ab.out (by omega)
     (first | cases eo5 | (injection eo5 with ea_ en_ ec_; (first | subst ea_ | (injection ea_ with ea_; subst ea_)); subst ec_; clear en_))
     have GB5 := zK gb5; have GG5 := zK HG5; clear gb5 gl5 HG5
     have HMgo5 := zK (show (P0_ ag ∨ w.heap.size ≤ ag) from (ab.out.1 _ rfl))
     obtain ⟨hx5_0, hf5_0⟩ := Kd.R_celln 0 ab.out (aa : Int) p5 q5
     replace p5 := eq_true p5; replace q5 := eq_true q5
     have HP7 := Kd.R_putg ab.out (aa : Int) ad
     go_wp2_with (first | ((with_reducible refine gate_store (t := 3) (p := 15) rfl ?_); refine store_event (t := 3) (p := 15) (v := ?vo_w8) (w1 := (wr.setCell ⟨ag, (aa : Int).toNat, none⟩ (.int .i64 ad))) ?hg ?ho ?hn ?hr ?_; (case ho => rfl); (case hg => rfl); (case hn => rfl); (case hr => first | (go_simp; done) | (go_simp; rfl)); intro w8 hw; have hg : wr.grownBy w8 (some ag) := (by rw [hw]; exact HP7.2); have hp_ : Kd.R (Kd.int .i64) 3 w8 w0.heap.size (fun k_ => (P0_ k_ ∨ w.heap.size ≤ k_)) (.slice (some ⟨ag, 0, none⟩) ac.length co6) af := (by rw [hw, Ny891.out]; exact HP7.1); clear HP7; have n0_ := zK (hp_); have n1_ := zK ((by rw [hw]; exact zS (HB.out) GB5.out : Below w0.heap.size w0 w8)); have n2_ := zK (Kept.of_grown (S := (fun k_ => P0_ k_)) hg (zy8 HK) (fun k_ e_ => (ab.out.1 k_ e_))); clear ab; clear HB; clear HK; have ab := n0_; have HB := n1_; have HK := n2_; clear n0_ n1_ n2_; clear hg hw hp_))
     go_roundg k1
     case measure => have := HK1.out; omega
     case rel => exact ⟨(af), (wrap64 (ad + 1)), (wrap64 (aa + 1)), zf, zf, H', ⟨by have := HK1.out; omega⟩, ⟨zR ab⟩, ⟨zy8 HK⟩, ⟨zb HB⟩⟩
    ·rw [if_neg c4] at H
     exact absurd H (by simp)
   ·rw [if_neg c3] at H
    have c3b0 : decide (aa < (ac.length : Int)) = false := decide_eq_false c3
    clear c3
    simp only [Option.some.injEq, Prod.mk.injEq] at H
    obtain ⟨rfl, rfl⟩ := H
    obtain ⟨Ao9, co9, eo9⟩ := Kd.R_slice ab.out
    subst eo9
    go_wp2
    go_ret
    exact ⟨ze, by (with_reducible repeat (first | apply Kd.R_alloc | apply Kd.R_drewN | apply Kd.R_drew)); exact ab.out, zb HB, zy8 HK⟩
def LoopAt (b lo hi : Nat) (w : World) (v0 : Value) (tr : List Int) (v2 : Value) (ch : List S69) (v3 : Value) (wa : List S74) : Prop :=
 hi ≤ w.heap.size ∧ ∃ PW : Nat → Prop, Kd.R (Kd.int .i64) 3 w b (fun k => ¬ PW k ∧ lo ≤ k ∧ k < hi) v0 tr ∧ Kd.S k69 69 w b (fun k => (some k ≠ v0.ownBlock ∧ ¬ PW k) ∧ lo ≤ k ∧ k < hi) v2 ch ∧ Kd.S k74 74 w b (fun k => PW k ∧ lo ≤ k ∧ k < hi) v3 wa
section
variable {b base lo hi lo2 hi2 : Nat} {w w1 : World} {PW : Nat → Prop} {v0 v2 v3 : Value} {tr : List Int} {ch : List S69} {wa : List S74}
theorem LoopAt.of (h : LoopMem base w PW v0 tr v2 ch v3 wa) (hb : b ≤ base) : LoopAt b base w.heap.size w v0 tr v2 ch v3 wa :=
 ⟨Nat.le_refl _, PW, Kd.R_lower (Kd.R_mono (Kd.R_bound h.1) (fun k hk => ⟨hk.1, hk.2.1, hk.2.2.1⟩)) hb, Kd.S_lower (Kd.S_mono (Kd.S_bound h.2.1) (fun k hk => ⟨hk.1, hk.2.1, hk.2.2.1⟩)) hb, Kd.S_lower (Kd.S_mono (Kd.S_bound h.2.2.1) (fun k hk => ⟨hk.1, hk.2.1, hk.2.2.1⟩)) hb⟩
theorem LoopAt.step (h : LoopAt b lo hi w v0 tr v2 ch v3 wa) (hs : w.heap.size ≤ w1.heap.size) (hm : ∀ k, lo ≤ k → k < hi → w1.heap[k]? = w.heap[k]?) : LoopAt b lo hi w1 v0 tr v2 ch v3 wa := by
 obtain ⟨hz, PW, h0, h2, h3⟩ := h
 exact ⟨Nat.le_trans hz hs, PW, Kd.R_move h0 (fun k hk => hm k hk.2.1 hk.2.2), Kd.S_move h2 (fun k hk => hm k hk.2.1 hk.2.2), Kd.S_move h3 (fun k hk => hm k hk.2.1 hk.2.2)⟩
theorem LoopAt.below (h : LoopAt b lo hi w v0 tr v2 ch v3 wa) {n : Nat} (hb : Below n w w1) (hn : hi ≤ n) : LoopAt b lo hi w1 v0 tr v2 ch v3 wa :=
 h.step hb.size (fun k _ h1 => hb.block k (Nat.lt_of_lt_of_le h1 hn))
theorem LoopAt.later (h : LoopAt b lo hi w v0 tr v2 ch v3 wa) (hb : Below w.heap.size w w1) : LoopAt b lo hi w1 v0 tr v2 ch v3 wa := h.below hb h.1
theorem LoopAt.kept (h : LoopAt b lo hi w v0 tr v2 ch v3 wa) (hk : Kept w w1 (fun k => lo2 ≤ k ∧ k < hi2)) (hd : hi ≤ lo2 ∨ hi2 ≤ lo) : LoopAt b lo hi w1 v0 tr v2 ch v3 wa :=
 h.step hk.1 (fun k h0 h1 => hk.2 k (Nat.lt_of_lt_of_le h1 h.1) (fun h2 => by omega))
theorem LoopAt.far (h : LoopAt b lo hi w v0 tr v2 ch v3 wa) {p : Addr} (hp : hi ≤ p.block) (u : Value) : LoopAt b lo hi (w.setCell p u) v0 tr v2 ch v3 wa :=
 h.step (((Below.refl 0 w).setCell (p := p) (Nat.zero_le _) u).size) (fun k _ h1 => Below.heap_setCell w p u k (by omega))
theorem LoopAt.reads (h : LoopAt b lo hi w v0 tr v2 ch v3 wa) : ∃ A0 c0 A2 c2 A3 c3, v0 = .slice A0 tr.length c0 ∧ v2 = .slice A2 ch.length c2 ∧ v3 = .slice A3 wa.length c3 ∧ tr.length ≤ c0 ∧ ch.length ≤ c2 ∧ wa.length ≤ c3 ∧ Kd.C (Kd.int .i64) w A0 tr.length tr ∧ Kd.C k69 w A2 ch.length ch ∧ Kd.C k74 w A3 wa.length wa := by
 obtain ⟨_, PW, h0, h2, h3⟩ := h
 obtain ⟨A0, c0, e0, l0, r0⟩ := Kd.R_reads h0
 obtain ⟨A2, c2, e2, l2, r2⟩ := Kd.S_reads h2
 obtain ⟨A3, c3, e3, l3, r3⟩ := Kd.S_reads h3
 exact ⟨A0, c0, A2, c2, A3, c3, e0, e2, e3, l0, l2, l3, r0, r2, r3⟩
end
theorem rdset69 (xs : List S69) (i : Int) (h0 : 0 ≤ i) (h1 : i < xs.length) (y : S69) : rd_T69 (xs.set i.toNat y) i = y := by
 have : i.toNat < xs.length := by omega
 simp [rd_T69, this]
theorem ch_puts {w : World} {base n cap g : Nat} {ok : Nat → Prop} {xs : List S69} (h : Kd.S k69 69 w base ok (.slice (some ⟨g, 0, none⟩) n cap) xs) (i : Int) (h0 : 0 ≤ i) (h1 : i < n) (a b : Int) :
  (w.cell? ⟨g, i.toNat * 3, none⟩ = some (.int .i64 (rd_T69 xs i).f0) ∧ w.frozen? ⟨g, i.toNat * 3, none⟩ = false ∧ w.grownBy (w.setCell ⟨g, i.toNat * 3, none⟩ (.int .i64 a)) (some g)) ∧
  ((w.setCell ⟨g, i.toNat * 3, none⟩ (.int .i64 a)).cell? ⟨g, i.toNat * 3 + 1, none⟩ = some (.int .i64 (rd_T69 xs i).f1) ∧ (w.setCell ⟨g, i.toNat * 3, none⟩ (.int .i64 a)).frozen? ⟨g, i.toNat * 3 + 1, none⟩ = false ∧ (w.setCell ⟨g, i.toNat * 3, none⟩ (.int .i64 a)).grownBy ((w.setCell ⟨g, i.toNat * 3, none⟩ (.int .i64 a)).setCell ⟨g, i.toNat * 3 + 1, none⟩ (.int .i64 b)) (some g)) ∧
  Kd.S k69 69 ((w.setCell ⟨g, i.toNat * 3, none⟩ (.int .i64 a)).setCell ⟨g, i.toNat * 3 + 1, none⟩ (.int .i64 b)) base ok (.slice (some ⟨g, 0, none⟩) n cap) (xs.set i.toNat ⟨a, b, (rd_T69 xs i).f2⟩) := by
 have hn := (Kd.S_reads' h).1
 obtain ⟨oki, c, hcl, hM, hcc, hfr, hoki, hH⟩ := Kd.S_elem h z69 i h0 h1
 obtain ⟨v5, rfl, hv5⟩ := k69_openM hM
 obtain ⟨h2, hg2⟩ := Kd.S_seg0 (seg := [.int .i64 a]) (j := 0) (x' := (⟨a, (rd_T69 xs i).f1, (rd_T69 xs i).f2⟩ : S69)) hH h0 h1 (show 1 ≤ 3 from by decide) (k69_mkM w base oki ⟨a, (rd_T69 xs i).f1, (rd_T69 xs i).f2⟩ hv5) (fun _ hk => hk)
 have h2' : Kd.S k69 69 (w.setCell ⟨g, i.toNat * 3, none⟩ (.int .i64 a)) base ok (.slice (some ⟨g, 0, none⟩) n cap) (xs.set i.toNat ⟨a, (rd_T69 xs i).f1, (rd_T69 xs i).f2⟩) := h2
 obtain ⟨oki', c', hcl', hM', hcc', hfr', hoki', hH'⟩ := Kd.S_elem h2' z69 i h0 h1
 obtain ⟨v6, rfl, hv6⟩ := k69_openM hM'
 have e : (xs.set i.toNat ⟨a, (rd_T69 xs i).f1, (rd_T69 xs i).f2⟩).getD i.toNat z69 = ⟨a, (rd_T69 xs i).f1, (rd_T69 xs i).f2⟩ := rdset69 xs i h0 (by omega) _
 rw [e] at hv6
 obtain ⟨h3, hg3⟩ := Kd.S_seg0 (seg := [.int .i64 b]) (j := 1) (x' := (⟨a, b, (rd_T69 xs i).f2⟩ : S69)) hH' h0 h1 (show 2 ≤ 3 from by decide) (by rw [e]; exact k69_mkM _ base oki' ⟨a, b, (rd_T69 xs i).f2⟩ hv6) (fun _ hk => hk)
 rw [List.set_set] at h3
 refine ⟨⟨hcc 0 _ rfl, hfr 0, hg2⟩, ⟨?_, hfr' 1, hg3⟩, h3⟩
 have := hcc' 1 _ rfl
 rw [e] at this
 exact this
theorem ch_lend {w : World} {base n cap g : Nat} {ok : Nat → Prop} {xs : List S69} (h : Kd.S k69 69 w base ok (.slice (some ⟨g, 0, none⟩) n cap) xs) (i : Int) (h0 : 0 ≤ i) (h1 : i < n) (y : S69) (hy : rd_T69 xs i = y) :
  ∃ (oki : Nat → Prop) (A5 : Option Addr) (c5 : Nat), w.cell? ⟨g, i.toNat * 3 + 2, none⟩ = some (.slice A5 y.f2.length c5) ∧ Kd.R (Kd.int .i64) 3 w base oki (.slice A5 y.f2.length c5) y.f2 ∧ (∀ k, oki k → ok k ∧ k ≠ g) ∧
   ∀ (w2 : World) (t2 : List Int) (S2 : Nat → Prop), Kept w w2 oki → Kd.R (Kd.int .i64) 3 w2 base S2 (.slice A5 y.f2.length c5) t2 → Kd.S k69 69 w2 base ok (.slice (some ⟨g, 0, none⟩) n cap) (xs.set i.toNat ⟨y.f0, y.f1, t2⟩) := by
 subst hy
 obtain ⟨oki, c, hcl, hM, hcc, hfr, hoki, hH⟩ := Kd.S_elem h z69 i h0 h1
 obtain ⟨v5, rfl, hv5⟩ := k69_openM hM
 obtain ⟨A5, c5, e5⟩ := Kd.R_slice hv5
 subst e5
 refine ⟨oki, A5, c5, hcc 2 _ rfl, hv5, hoki, fun w2 t2 S2 hk hr => ?_⟩
 exact Kd.H_back (Kd.H_kept hH hk (fun _ _ hn => hn)) (k69_mkM w2 base oki ⟨(rd_T69 xs i).f0, (rd_T69 xs i).f1, t2⟩ (Kd.R_reok rfl hr (fun k_ e_ => hv5.1 k_ e_))) (fun _ hk => hk)
def laws_markChuteS.l0 : Nat → List (S69) → Int → Int → Option (Int × List (S69))
 | 0, _, _, _ => none
 | k + 1, x0, x1, x5 => if x5 < (x0.length : Int) then (if 0 ≤ x5 then ((laws_markIntS.f k (rd_T69 x0 x5).f2 (wrap64 (wrap64 (x1 + 1) + 1))).bind fun bt => (laws_markChuteS.l0 k (x0.set (x5 : Int).toNat ⟨x1, wrap64 (x1 + 1), bt.2⟩) bt.1 (wrap64 (x5 + 1)))) else (none)) else (some (x1, x0))
def laws_markChuteS.f (k : Nat) (l0 : List (S69)) (a1 : Int) : Option (Int × List (S69)) := laws_markChuteS.l0 k l0 a1 0
set_option maxHeartbeats 8000000 in
set_option maxRecDepth 100000 in
theorem laws_markChuteS.calls (k : Nat) (P0_ : Nat → Prop) (u0_ : Value) (l0 : List (S69)) (a1 : Int) (r1 : Int) (r2 : List (S69)) (w0 w : World) (hB : Below w0.heap.size w0 w) (ho0 : Kd.S k69 69 w w0.heap.size P0_ u0_ l0) (h : laws_markChuteS.f k l0 a1 = some (r1, r2)) :
  Calls Try.prog 80 #[u0_, .int .i64 a1] w fun e w' => e = .returned (.int .i64 r1) ∧ Kd.S k69 69 w' w0.heap.size P0_ u0_ r2 ∧ Below w0.heap.size w0 w' ∧ Kept w w' (fun k_ => P0_ k_) := by
 have HO0 := zK ho0
 have HK := zK (Kept.refl w (fun k_ => P0_ k_))
 have HB := zK hB
 have H' := zK (show laws_markChuteS.l0 k l0 a1 0 = some (r1, r2) from h)
 have hu69 := Try.underlying69; have hu74 := Try.underlying74; clear h hB ho0
 go_enter Try.func80, Try.ntmps80
 go_wp2
 go_loopg [1, 5] k (fun kq v1 v5 w' => ∃ (ac : List (S69)) (ab : Int) (aa : Int), v1 = .int .i64 ab ∧ v5 = .int .i64 aa ∧ Aside0 (laws_markChuteS.l0 kq ac ab aa = some (r1, r2)) ∧ Aside0 (kq ≤ k) ∧ Aside0 (Kd.S k69 69 w' w0.heap.size P0_ u0_ ac) ∧ Aside0 (Kept w w' (fun k_ => P0_ k_)) ∧ Aside0 (Below w0.heap.size w0 w'))
 case atStart => exact ⟨l0, a1, 0, rfl, rfl, H', ⟨Nat.le_refl _⟩, HO0, HK, HB⟩
 case round =>
  clear H'
  obtain ⟨ac, ab, aa, rfl, rfl, HA, HK1, ad, HK, HB⟩ := hrel
  cases gk with
  | zero => exact absurd HA.out (by simp [laws_markChuteS.l0])
  | succ k1 =>
   have H := HA.out; clear HA
   simp only [laws_markChuteS.l0] at H
   by_cases c3 : aa < (ac.length : Int)
   · rw [if_pos c3] at H
     have c3b0 : decide (aa < (ac.length : Int)) = true := decide_eq_true c3
     by_cases c4 : 0 ≤ aa
     · rw [if_pos c4] at H
       have c4b0 : decide (0 ≤ aa) = true := decide_eq_true c4
       replace H := Option.bind_eq_some_iff.mp H
       obtain ⟨⟨t1, t2⟩, A50, H⟩ := H
       have A5 := zK A50
       have H' := zK (show laws_markChuteS.l0 k1 (ac.set (aa : Int).toNat ⟨ab, wrap64 (ab + 1), t2⟩) t1 (wrap64 (aa + 1)) = some (r1, r2) from H)
       clear A50 H
       obtain ⟨af, co5, eo5, gb5, gl5, cl5, HG5⟩ := Kd.S_form ad.out (by omega)
       subst eo5; have GB5 := zK gb5
       have HPg := zK (show P0_ af from (Kd.S_R ad.out).1 af (by simp [Value.ownBlock]))
       clear gb5 gl5 HG5 cl5
       obtain ⟨⟨hx0, hf0, hg0⟩, ⟨hx1, hf1, hg1⟩, hS9⟩ := ch_puts ad.out (aa : Int) c4 c3 ab (wrap64 (ab + 1))
       obtain ⟨oki5, Ai5, ci5, hx2, hR5, ae, hback⟩ := ch_lend hS9 (aa : Int) c4 c3 ⟨ab, wrap64 (ab + 1), (rd_T69 ac aa).f2⟩ (rdset69 _ _ c4 c3 _)
       have XX := zK (And.intro hx1 (And.intro hf1 (And.intro hg1 (And.intro hx2 (And.intro hR5 (And.intro ae (And.intro hback hg0)))))))
       clear hx1 hf1 hg1 hx2 hR5 ae hback hg0 hS9; have p5 := eq_true c4
       have q5 : (aa < ((ac.length : Nat) : Int)) = True := eq_true c3
       go_wp2_with (first
        | ((with_reducible refine gate_store (t := 3) (p := 16) rfl ?_); refine store_event (t := 3) (p := 16) (v := ?vo_w8) (w1 := (wr.setCell ⟨af, (aa : Int).toNat * 3, none⟩ (.int .i64 ab))) ?hg ?ho ?hn ?hr ?_; (case ho => rfl); (case hg => rfl); (case hn => rfl); (case hr => first | (go_simp; done) | (go_simp; rfl)); intro w8 hw8; rw [← hw8] at XX; have HG0 := zK XX.out.2.2.2.2.2.2.2; have hx1 := XX.out.1; have hf1 := XX.out.2.1; clear hx0 hf0 hw8)
        | ((with_reducible refine gate_store (t := 3) (p := 23) rfl ?_); refine store_event (t := 3) (p := 23) (v := ?vo_w9) (w1 := (w8.setCell ⟨af, (aa : Int).toNat * 3 + 1, none⟩ (.int .i64 (wrap64 (ab + 1))))) ?hg ?ho ?hn ?hr ?_; (case ho => rfl); (case hg => rfl); (case hn => rfl); (case hr => first | (go_simp; done) | (go_simp; rfl)); intro w9 hw9; rw [← hw9] at XX; have hx2 := XX.out.2.2.2.1; clear hx1 hf1 hw9)
        | (go_at_call 43; refine (laws_markIntS.calls k1 oki5 _ (rd_T69 ac aa).f2 (wrap64 (wrap64 (ab + 1) + 1)) t1 t2 w0 _ ((HB.out.grown HG0.out HB.out.size (fun j hj => by cases hj; exact GB5.out)).grown XX.out.2.2.1 (Nat.le_trans HB.out.size HG0.out.size) (fun j hj => by cases hj; exact GB5.out)) XX.out.2.2.2.2.1 A5.out).mono ?_; rintro e w10 ⟨rfl, ho9, hb9, hk9⟩))
       have HB9 := zK hb9
       have HK9 := zK (((Kept.of_grown HG0.out HK.out (fun k_ e_ => by cases e_; exact .inl HPg.out)).then_ (S2 := fun k_ => k_ = af) ⟨XX.out.2.2.1.size, fun i_ hi_ hn_ => XX.out.2.2.1.block i_ hi_ (fun e_ => hn_ (by injection e_))⟩ (fun k_ hk_ => by rw [hk_]; exact .inl HPg.out)).then_ hk9 (fun k_ hk_ => .inl (XX.out.2.2.2.2.2.1 k_ hk_).1))
       have ho10 := XX.out.2.2.2.2.2.2.1 w10 t2 _ hk9 ho9
       rw [List.set_set] at ho10
       have HO9 := zK ho10; clear ho9 ho10 hb9 hk9 HK HB
       go_roundg k1
       case measure => have := HK1.out; omega
       case rel => exact ⟨_, t1, (wrap64 (aa + 1)), rfl, rfl, H', ⟨by have := HK1.out; omega⟩, HO9, HK9, HB9⟩
     · rw [if_neg c4] at H
       exact absurd H (by simp)
   · rw [if_neg c3] at H
     have c3b0 : decide (aa < (ac.length : Int)) = false := decide_eq_false c3
     simp only [Option.some.injEq, Prod.mk.injEq] at H
     obtain ⟨rfl, rfl⟩ := H
     obtain ⟨Ao12, co12, eo12⟩ := Kd.S_slice ad.out
     subst eo12
     go_wp2
     go_ret
     exact ⟨rfl, ad.out, HB.out, HK.out⟩
theorem rdset74 (xs : List S74) (i : Int) (h0 : 0 ≤ i) (h1 : i < xs.length) (y : S74) : rd_T74 (xs.set i.toNat y) i = y := by
 have : i.toNat < xs.length := by omega
 simp [rd_T74, this]
theorem wa_puts {w : World} {base n cap g : Nat} {ok : Nat → Prop} {xs : List S74} (h : Kd.S k74 74 w base ok (.slice (some ⟨g, 0, none⟩) n cap) xs) (i : Int) (h0 : 0 ≤ i) (h1 : i < n) (a : Int) :
  (w.cell? ⟨g, i.toNat * 2, none⟩ = some (.int .i64 (rd_T74 xs i).f0) ∧ w.frozen? ⟨g, i.toNat * 2, none⟩ = false ∧ w.grownBy (w.setCell ⟨g, i.toNat * 2, none⟩ (.int .i64 a)) (some g)) ∧
  Kd.S k74 74 (w.setCell ⟨g, i.toNat * 2, none⟩ (.int .i64 a)) base ok (.slice (some ⟨g, 0, none⟩) n cap) (xs.set i.toNat ⟨a, (rd_T74 xs i).f1⟩) := by
 obtain ⟨oki, c, hcl, hM, hcc, hfr, hoki, hH⟩ := Kd.S_elem h z74 i h0 h1
 obtain ⟨v5, rfl, hv5⟩ := k74_openM hM
 obtain ⟨h2, hg2⟩ := Kd.S_seg0 (seg := [.int .i64 a]) (j := 0) (x' := (⟨a, (rd_T74 xs i).f1⟩ : S74)) hH h0 h1 (show 1 ≤ 2 from by decide) (k74_mkM w base oki ⟨a, (rd_T74 xs i).f1⟩ hv5) (fun _ hk => hk)
 exact ⟨⟨hcc 0 _ rfl, hfr 0, hg2⟩, h2⟩
theorem wa_lend {w : World} {base n cap g : Nat} {ok : Nat → Prop} {xs : List S74} (h : Kd.S k74 74 w base ok (.slice (some ⟨g, 0, none⟩) n cap) xs) (i : Int) (h0 : 0 ≤ i) (h1 : i < n) (y : S74) (hy : rd_T74 xs i = y) :
  ∃ (oki : Nat → Prop) (A5 : Option Addr) (c5 : Nat), w.cell? ⟨g, i.toNat * 2 + 1, none⟩ = some (.slice A5 y.f1.length c5) ∧ Kd.R (Kd.int .i64) 3 w base oki (.slice A5 y.f1.length c5) y.f1 ∧ (∀ k, oki k → ok k ∧ k ≠ g) ∧
   ∀ (w2 : World) (t2 : List Int) (S2 : Nat → Prop), Kept w w2 oki → Kd.R (Kd.int .i64) 3 w2 base S2 (.slice A5 y.f1.length c5) t2 → Kd.S k74 74 w2 base ok (.slice (some ⟨g, 0, none⟩) n cap) (xs.set i.toNat ⟨y.f0, t2⟩) := by
 subst hy
 obtain ⟨oki, c, hcl, hM, hcc, hfr, hoki, hH⟩ := Kd.S_elem h z74 i h0 h1
 obtain ⟨v5, rfl, hv5⟩ := k74_openM hM
 obtain ⟨A5, c5, e5⟩ := Kd.R_slice hv5
 subst e5
 refine ⟨oki, A5, c5, hcc 1 _ rfl, hv5, hoki, fun w2 t2 S2 hk hr => ?_⟩
 exact Kd.H_back (Kd.H_kept hH hk (fun _ _ hn => hn)) (k74_mkM w2 base oki ⟨(rd_T74 xs i).f0, t2⟩ (Kd.R_reok rfl hr (fun k_ e_ => hv5.1 k_ e_))) (fun _ hk => hk)
def laws_markWantS.l0 : Nat → List (S74) → Int → Int → Option (Int × List (S74))
 | 0, _, _, _ => none
 | k + 1, x0, x1, x5 => if x5 < (x0.length : Int) then (if 0 ≤ x5 then ((laws_markIntS.f k (rd_T74 x0 x5).f1 (wrap64 (x1 + 1))).bind fun bt => (laws_markWantS.l0 k (x0.set (x5 : Int).toNat ⟨x1, bt.2⟩) bt.1 (wrap64 (x5 + 1)))) else (none)) else (some (x1, x0))
def laws_markWantS.f (k : Nat) (l0 : List (S74)) (a1 : Int) : Option (Int × List (S74)) := laws_markWantS.l0 k l0 a1 0
set_option maxHeartbeats 8000000 in
set_option maxRecDepth 100000 in
theorem laws_markWantS.calls (k : Nat) (P0_ : Nat → Prop) (u0_ : Value) (l0 : List (S74)) (a1 : Int) (r1 : Int) (r2 : List (S74)) (w0 w : World) (hB : Below w0.heap.size w0 w) (ho0 : Kd.S k74 74 w w0.heap.size P0_ u0_ l0) (h : laws_markWantS.f k l0 a1 = some (r1, r2)) :
  Calls Try.prog 81 #[u0_, .int .i64 a1] w fun e w' => e = .returned (.int .i64 r1) ∧ Kd.S k74 74 w' w0.heap.size P0_ u0_ r2 ∧ Below w0.heap.size w0 w' ∧ Kept w w' (fun k_ => P0_ k_) := by
 have HO0 := zK ho0
 have HK := zK (Kept.refl w (fun k_ => P0_ k_))
 have HB := zK hB
 have H' := zK (show laws_markWantS.l0 k l0 a1 0 = some (r1, r2) from h)
 have hu69 := Try.underlying69; have hu74 := Try.underlying74; clear h hB ho0
 go_enter Try.func81, Try.ntmps81
 go_wp2
 go_loopg [1, 5] k (fun kq v1 v5 w' => ∃ (ab : List (S74)) (ac : Int) (aa : Int), v1 = .int .i64 ac ∧ v5 = .int .i64 aa ∧ Aside0 (laws_markWantS.l0 kq ab ac aa = some (r1, r2)) ∧ Aside0 (kq ≤ k) ∧ Aside0 (Kd.S k74 74 w' w0.heap.size P0_ u0_ ab) ∧ Aside0 (Kept w w' (fun k_ => P0_ k_)) ∧ Aside0 (Below w0.heap.size w0 w'))
 case atStart => exact ⟨l0, a1, 0, rfl, rfl, H', ⟨Nat.le_refl _⟩, HO0, HK, HB⟩
 case round =>
  clear H'
  obtain ⟨ab, ac, aa, rfl, rfl, HA, HK1, ad, HK, HB⟩ := hrel
  cases gk with
  | zero => exact absurd HA.out (by simp [laws_markWantS.l0])
  | succ k1 =>
   have H := HA.out; clear HA
   simp only [laws_markWantS.l0] at H
   by_cases c3 : aa < (ab.length : Int)
   · rw [if_pos c3] at H
     have c3b0 : decide (aa < (ab.length : Int)) = true := decide_eq_true c3
     by_cases c4 : 0 ≤ aa
     · rw [if_pos c4] at H
       have c4b0 : decide (0 ≤ aa) = true := decide_eq_true c4
       replace H := Option.bind_eq_some_iff.mp H
       obtain ⟨⟨t1, t2⟩, A50, H⟩ := H
       have A5 := zK A50
       have H' := zK (show laws_markWantS.l0 k1 (ab.set (aa : Int).toNat ⟨ac, t2⟩) t1 (wrap64 (aa + 1)) = some (r1, r2) from H)
       clear A50 H
       obtain ⟨go5, co5, eo5, gb5, gl5, cl5, HG5⟩ := Kd.S_form ad.out (by omega)
       subst eo5; have GB5 := zK gb5
       have HPg := zK (show P0_ go5 from (Kd.S_R ad.out).1 go5 (by simp [Value.ownBlock]))
       clear gb5 gl5 HG5 cl5
       obtain ⟨⟨hx0, hf0, hg0⟩, hS8⟩ := wa_puts ad.out (aa : Int) c4 c3 ac
       obtain ⟨oki5, Ai5, ci5, hx2, hR5, ae, hback⟩ := wa_lend hS8 (aa : Int) c4 c3 ⟨ac, (rd_T74 ab aa).f1⟩ (rdset74 _ _ c4 c3 _)
       have XX := zK (And.intro hx2 (And.intro hR5 (And.intro ae (And.intro hback hg0))))
       clear hx2 hR5 ae hback hg0 hS8; have p5 := eq_true c4
       have q5 : (aa < ((ab.length : Nat) : Int)) = True := eq_true c3
       go_wp2_with (first
        | ((with_reducible refine gate_store (t := 3) (p := 16) rfl ?_); refine store_event (t := 3) (p := 16) (v := ?vo_w8) (w1 := (wr.setCell ⟨go5, (aa : Int).toNat * 2, none⟩ (.int .i64 ac))) ?hg ?ho ?hn ?hr ?_; (case ho => rfl); (case hg => rfl); (case hn => rfl); (case hr => first | (go_simp; done) | (go_simp; rfl)); intro w8 hw8; rw [← hw8] at XX; have HG0 := zK XX.out.2.2.2.2; have hx2 := XX.out.1; clear hx0 hf0 hw8)
        | (go_at_call 43; refine (laws_markIntS.calls k1 oki5 _ (rd_T74 ab aa).f1 (wrap64 (ac + 1)) t1 t2 w0 _ (HB.out.grown HG0.out HB.out.size (fun j hj => by cases hj; exact GB5.out)) XX.out.2.1 A5.out).mono ?_; rintro e w10 ⟨rfl, ho9, hb9, hk9⟩))
       have HB9 := zK hb9
       have HK9 := zK ((Kept.of_grown HG0.out HK.out (fun k_ e_ => by cases e_; exact .inl HPg.out)).then_ hk9 (fun k_ hk_ => .inl (XX.out.2.2.1 k_ hk_).1))
       have ho10 := XX.out.2.2.2.1 w10 t2 _ hk9 ho9
       rw [List.set_set] at ho10
       have HO9 := zK ho10; clear ho9 ho10 hb9 hk9 HK HB
       go_roundg k1
       case measure => have := HK1.out; omega
       case rel => exact ⟨_, t1, (wrap64 (aa + 1)), rfl, rfl, H', ⟨by have := HK1.out; omega⟩, HO9, HK9, HB9⟩
     · rw [if_neg c4] at H
       exact absurd H (by simp)
   · rw [if_neg c3] at H
     have c3b0 : decide (aa < (ab.length : Int)) = false := decide_eq_false c3
     simp only [Option.some.injEq, Prod.mk.injEq] at H
     obtain ⟨rfl, rfl⟩ := H
     obtain ⟨Ao12, co12, eo12⟩ := Kd.S_slice ad.out
     subst eo12
     go_wp2
     go_ret
     exact ⟨rfl, ad.out, HB.out, HK.out⟩
def laws_markLoop.f (k : Nat) (l0_0 : List Int) (a0_1 : Int) (l0_2 : List (S69)) (l0_3 : List (S74)) (a1 : Int) : Option (Int × List Int × List (S69) × List (S74)) := (laws_markIntS.f k l0_0 a1).bind fun p => ((laws_markChuteS.f k l0_2 p.1).bind fun q => ((laws_markWantS.f k l0_3 q.1).bind fun s => (some (s.1, p.2, q.2, s.2))))
set_option maxHeartbeats 8000000 in
set_option maxRecDepth 100000 in
theorem laws_markLoop.calls (k : Nat) (lo hi : Nat) (v0 v2 v3 : Value) (tr : List Int) (T : Int) (ch : List (S69)) (wa : List (S74)) (a1 : Int) (r1 : Int) (r2 : List Int) (r3 : List (S69)) (r4 : List (S74)) (w0 w : World) (hB : Below w0.heap.size w0 w) (hlo : w0.heap.size ≤ lo) (hL : LoopAt w0.heap.size lo hi w v0 tr v2 ch v3 wa) (h : laws_markLoop.f k tr T ch wa a1 = some (r1, r2, r3, r4)) :
  Calls Try.prog 42 #[.agg #[v0, .int .i64 T, v2, v3], .int .i64 a1] w fun e w' => e = .returned (.int .i64 r1) ∧ LoopAt w0.heap.size lo hi w' v0 r2 v2 r3 v3 r4 ∧ Below w0.heap.size w0 w' ∧ Kept w w' (fun k_ => lo ≤ k_ ∧ k_ < hi) := by
 have hu28 := Try.underlying28
 obtain ⟨A0, d0, A2, d2, A3, d3, rfl, rfl, rfl, _, _, _, _, _, _⟩ := hL.reads
 obtain ⟨hz, PW, h0, h2, h3⟩ := hL
 replace H := Option.bind_eq_some_iff.mp h
 obtain ⟨⟨p1, p2⟩, A10, H⟩ := H
 have A1 := zK A10; replace H := Option.bind_eq_some_iff.mp H
 obtain ⟨⟨q1, q2⟩, A20, H⟩ := H
 have A2_ := zK (show laws_markChuteS.f k ch p1 = some (q1, q2) from A20)
 replace H := Option.bind_eq_some_iff.mp H
 obtain ⟨⟨s1, s2⟩, A30, H⟩ := H
 have A3_ := zK (show laws_markWantS.f k wa q1 = some (s1, s2) from A30)
 replace H : some (s1, p2, q2, s2) = some (r1, r2, r3, r4) := H
 simp only [Option.some.injEq, Prod.mk.injEq] at H
 obtain ⟨rfl, rfl, rfl, rfl⟩ := H
 have HZ := zK hz; have HLO := zK hlo; have HB := zK hB; have aa := zK h0; have ab := zK h2; have ac := zK h3
 have HK := zK (Kept.refl w (fun k_ => lo ≤ k_ ∧ k_ < hi))
 clear h hz hlo hB h0 h2 h3 A10 A20 A30
 go_enter Try.func42, Try.ntmps42
 go_wp2_with (first
  | ((with_reducible refine gate_dst (N := 2) rfl ?_); refine zX 2 #[.slice A0 tr.length d0, .int .i64 T, .slice A2 ch.length d2, .slice A3 wa.length d3] 28 ?_; intro g1 hg w1 hbox hb; have GE := zK (show hi ≤ g1 from by rw [hg]; exact HZ.out); have n0 := zK (Kd.R_below aa.out hb); have n2 := zK (Kd.S_below ab.out hb); have n3 := zK (Kd.S_below ac.out hb); have nk := zK (HK.out.below hb); have nb := zK (below_step HB.out hb); clear aa ab ac HK HB; have aa := n0; have ab := n2; have ac := n3; have HK := nk; have HB := nb; clear n0 n2 n3 nk nb; have BK := zK hbox; clear hb hbox hg; have hz0 : w1.cell? ⟨g1, 0, none⟩ = some (.slice A0 tr.length d0) := (blk_cell BK.out 0).trans rfl)
  | (go_at_call 43; refine (laws_markIntS.calls k (fun k_ => some k_ = (Value.slice A0 tr.length d0).ownBlock) _ tr a1 p1 p2 w0 _ HB.out (Kd.R_tight rfl aa.out) A1.out).mono ?_; rintro e w2 ⟨rfl, ho9, hb9, hk9⟩; have n0 := zK (Kd.R_reok rfl ho9 (fun k_ e_ => aa.out.1 k_ e_)); have n2 := zK (Kd.S_kept ab.out hk9 (fun k_ hf_ hs_ => hf_.1.1 hs_)); have n3 := zK (Kd.S_kept ac.out hk9 (fun k_ hf_ hs_ => (aa.out.1 k_ hs_.symm).1 hf_.1)); have nb := zK (blk_kept BK.out hk9 (fun hs_ => Nat.lt_irrefl _ (Nat.lt_of_lt_of_le (aa.out.1 g1 hs_.symm).2.2 GE.out))); have nk := zK (HK.out.then_ hk9 (fun k_ hs_ => .inl (aa.out.1 k_ hs_.symm).2)); clear aa ab ac BK HK HB hz0; have aa := n0; have ab := n2; have ac := n3; have HK := nk; have HB := zK hb9; have BK := nb; clear n0 n2 n3 nk nb hb9 hk9 ho9; have hz2 : w2.cell? ⟨g1, 2, none⟩ = some (.slice A2 ch.length d2) := (blk_cell BK.out 2).trans rfl)
  | (go_at_call 80; refine (laws_markChuteS.calls k _ _ ch p1 q1 q2 w0 _ HB.out ab.out A2_.out).mono ?_; rintro e w3 ⟨rfl, ho9, hb9, hk9⟩; have n0 := zK (Kd.R_reok rfl (Kd.R_kept (Kd.R_tight rfl aa.out) hk9 (fun k_ hf_ hs_ => hs_.1.1 hf_)) (fun k_ e_ => aa.out.1 k_ e_)); have n2 := zK ho9; have n3 := zK (Kd.S_kept ac.out hk9 (fun k_ hf_ hs_ => hs_.1.2 hf_.1)); have nb := zK (blk_kept BK.out hk9 (fun hs_ => Nat.lt_irrefl _ (Nat.lt_of_lt_of_le hs_.2.2 GE.out))); have nk := zK (HK.out.then_ hk9 (fun k_ hs_ => .inl hs_.2)); clear aa ab ac BK HK HB hz2; have aa := n0; have ab := n2; have ac := n3; have HK := nk; have HB := zK hb9; have BK := nb; clear n0 n2 n3 nk nb hb9 hk9 ho9; have hz3 : w3.cell? ⟨g1, 3, none⟩ = some (.slice A3 wa.length d3) := (blk_cell BK.out 3).trans rfl)
  | (go_at_call 81; refine (laws_markWantS.calls k _ _ wa q1 s1 s2 w0 _ HB.out ac.out A3_.out).mono ?_; rintro e w4 ⟨rfl, ho9, hb9, hk9⟩; have n0 := zK (Kd.R_kept aa.out hk9 (fun k_ hf_ hs_ => hf_.1 hs_.1)); have n2 := zK (Kd.S_kept ab.out hk9 (fun k_ hf_ hs_ => hf_.1.2 hs_.1)); have n3 := zK ho9; have nk := zK (HK.out.then_ hk9 (fun k_ hs_ => .inl hs_.2)); clear aa ab ac BK HK HB hz3; have aa := n0; have ab := n2; have ac := n3; have HK := nk; have HB := zK hb9; clear n0 n2 n3 nk hb9 hk9 ho9))
 go_ret
 exact ⟨rfl, ⟨Nat.le_trans HZ.out HK.out.1, PW, aa.out, ab.out, ac.out⟩, HB.out, HK.out⟩
theorem blk_put4 {w : World} {g t : Nat} {c0 c1 c2 c3 : Value} (h : w.heap[g]? = some (.cells #[c0, c1, c2, c3] t (0, 0))) (u0 u1 u2 u3 : Value) : ((((w.setCell ⟨g, 0, none⟩ u0).setCell ⟨g, 1, none⟩ u1).setCell ⟨g, 2, none⟩ u2).setCell ⟨g, 3, none⟩ u3).heap[g]? = some (.cells #[u0, u1, u2, u3] t (0, 0)) :=
 blk_put (blk_put (blk_put (blk_put h 0 u0 rfl) 1 u1 rfl) 2 u2 rfl) 3 u3 rfl
theorem cells4 {w : World} {g t : Nat} {c0 c1 c2 c3 : Value} (h : w.heap[g]? = some (.cells #[c0, c1, c2, c3] t (0, 0))) : w.cell? ⟨g, 0, none⟩ = some c0 ∧ w.cell? ⟨g, 1, none⟩ = some c1 ∧ w.cell? ⟨g, 2, none⟩ = some c2 ∧ w.cell? ⟨g, 3, none⟩ = some c3 :=
 ⟨(blk_cell h 0).trans rfl, (blk_cell h 1).trans rfl, (blk_cell h 2).trans rfl, (blk_cell h 3).trans rfl⟩
theorem below_put4 {w W : World} {g : Nat} (h : Below w.heap.size w W) (hg : w.heap.size ≤ g) (u0 u1 u2 u3 : Value) : Below w.heap.size w ((((W.setCell ⟨g, 0, none⟩ u0).setCell ⟨g, 1, none⟩ u1).setCell ⟨g, 2, none⟩ u2).setCell ⟨g, 3, none⟩ u3) := zS (zS (zS (zS h hg) hg) hg) hg
theorem blk_far4 {w : World} {g g2 : Nat} {o : Obj} (h : w.heap[g]? = some o) (hn : g ≠ g2) (u0 u1 u2 u3 : Value) : ((((w.setCell ⟨g2, 0, none⟩ u0).setCell ⟨g2, 1, none⟩ u1).setCell ⟨g2, 2, none⟩ u2).setCell ⟨g2, 3, none⟩ u3).heap[g]? = some o :=
 (Below.heap_setCell _ ⟨g2, 3, none⟩ u3 g hn).trans ((Below.heap_setCell _ ⟨g2, 2, none⟩ u2 g hn).trans ((Below.heap_setCell _ ⟨g2, 1, none⟩ u1 g hn).trans ((Below.heap_setCell _ ⟨g2, 0, none⟩ u0 g hn).trans h)))
def LoopRd (b lo hi : Nat) (w : World) (v0 : Value) (tr : List Int) (v2 : Value) (ch : List S69) (v3 : Value) (wa : List S74) : Prop :=
 hi ≤ w.heap.size ∧ Kd.R (Kd.int .i64) 3 w b (fun k => lo ≤ k ∧ k < hi) v0 tr ∧ Kd.S k69 69 w b (fun k => lo ≤ k ∧ k < hi) v2 ch ∧ Kd.R k74 74 w b (fun k => lo ≤ k ∧ k < hi) v3 wa
def RowIn (b lo hi : Nat) (w : World) (v : Value) (l : List Int) : Prop := hi ≤ w.heap.size ∧ Kd.R (Kd.int .i64) 3 w b (fun k => lo ≤ k ∧ k < hi) v l
section
variable {b base lo hi lo2 hi2 g : Nat} {w w1 W : World} {PW ok0 ok2 ok3 : Nat → Prop} {v v0 v2 v3 : Value} {tr l : List Int} {ch : List S69} {wa : List S74} {A0 A2 A3 : Option Addr} {c0 c2 c3 n0 n2 n3 : Nat}
theorem LoopAt.put4 (h : LoopAt b lo hi w v0 tr v2 ch v3 wa) (hg : hi ≤ g) (u0 u1 u2 u3 : Value) : LoopAt b lo hi ((((w.setCell ⟨g, 0, none⟩ u0).setCell ⟨g, 1, none⟩ u1).setCell ⟨g, 2, none⟩ u2).setCell ⟨g, 3, none⟩ u3) v0 tr v2 ch v3 wa :=
 (((h.far (p := ⟨g, 0, none⟩) hg u0).far (p := ⟨g, 1, none⟩) hg u1).far (p := ⟨g, 2, none⟩) hg u2).far (p := ⟨g, 3, none⟩) hg u3
theorem LoopAt.rd (h : LoopAt b lo hi w (.slice A0 n0 c0) tr (.slice A2 n2 c2) ch (.slice A3 n3 c3) wa) : n0 ≤ c0 ∧ Kd.C (Kd.int .i64) w A0 n0 tr ∧ n2 ≤ c2 ∧ Kd.C k69 w A2 n2 ch ∧ n3 ≤ c3 ∧ Kd.C k74 w A3 n3 wa := by
 obtain ⟨_, PW, h0, h2, h3⟩ := h
 obtain ⟨e0, l0, r0⟩ := Kd.R_reads' h0
 obtain ⟨e2, l2, r2⟩ := Kd.S_reads' h2
 obtain ⟨e3, l3, r3⟩ := Kd.S_reads' h3
 subst e0 e2 e3
 exact ⟨l0, r0, l2, r2, l3, r3⟩
theorem LoopAt.len (h : LoopAt b lo hi w (.slice A0 n0 c0) tr (.slice A2 n2 c2) ch (.slice A3 n3 c3) wa) : n0 = tr.length ∧ n2 = ch.length ∧ n3 = wa.length := by
 obtain ⟨_, PW, h0, h2, h3⟩ := h
 exact ⟨(Kd.R_reads' h0).1, (Kd.S_reads' h2).1, (Kd.S_reads' h3).1⟩
theorem LoopAt.new (h : ∃ PW, LoopMem W.heap.size w1 PW v0 tr v2 ch v3 wa) (hb : b ≤ W.heap.size) : ∃ lo hi, (lo = W.heap.size ∧ hi = w1.heap.size) ∧ LoopAt b lo hi w1 v0 tr v2 ch v3 wa := by
 obtain ⟨PW, h⟩ := h
 exact ⟨_, _, ⟨rfl, rfl⟩, LoopAt.of h hb⟩
theorem LoopRd.new (h0 : Kd.R (Kd.int .i64) 3 w1 W.heap.size ok0 v0 tr) (h2 : Kd.S k69 69 w1 W.heap.size ok2 v2 ch) (h3 : Kd.R k74 74 w1 W.heap.size ok3 v3 wa) (hb : b ≤ W.heap.size) : ∃ lo hi, (lo = W.heap.size ∧ hi = w1.heap.size) ∧ LoopRd b lo hi w1 v0 tr v2 ch v3 wa :=
 ⟨_, _, ⟨rfl, rfl⟩, Nat.le_refl _, Kd.R_lower (Kd.R_mono (Kd.R_bound h0) (fun k hk => ⟨hk.2.1, hk.2.2.1⟩)) hb, Kd.S_lower (Kd.S_mono (Kd.S_bound h2) (fun k hk => ⟨hk.2.1, hk.2.2.1⟩)) hb, Kd.R_lower (Kd.R_mono (Kd.R_bound h3) (fun k hk => ⟨hk.2.1, hk.2.2.1⟩)) hb⟩
theorem LoopRd.step (h : LoopRd b lo hi w v0 tr v2 ch v3 wa) (hs : w.heap.size ≤ w1.heap.size) (hm : ∀ k, lo ≤ k → k < hi → w1.heap[k]? = w.heap[k]?) : LoopRd b lo hi w1 v0 tr v2 ch v3 wa :=
 ⟨Nat.le_trans h.1 hs, Kd.R_move h.2.1 (fun k hk => hm k hk.1 hk.2), Kd.S_move h.2.2.1 (fun k hk => hm k hk.1 hk.2), Kd.R_move h.2.2.2 (fun k hk => hm k hk.1 hk.2)⟩
theorem LoopRd.later (h : LoopRd b lo hi w v0 tr v2 ch v3 wa) (hb : Below w.heap.size w w1) : LoopRd b lo hi w1 v0 tr v2 ch v3 wa := h.step hb.size (fun k _ h1 => hb.block k (Nat.lt_of_lt_of_le h1 h.1))
theorem LoopRd.kept (h : LoopRd b lo hi w v0 tr v2 ch v3 wa) (hk : Kept w w1 (fun k => lo2 ≤ k ∧ k < hi2)) (hd : hi ≤ lo2 ∨ hi2 ≤ lo) : LoopRd b lo hi w1 v0 tr v2 ch v3 wa :=
 h.step hk.1 (fun k h0 h1 => hk.2 k (Nat.lt_of_lt_of_le h1 h.1) (fun h2 => by omega))
theorem LoopRd.put4 (h : LoopRd b lo hi w v0 tr v2 ch v3 wa) (hg : hi ≤ g) (u0 u1 u2 u3 : Value) : LoopRd b lo hi ((((w.setCell ⟨g, 0, none⟩ u0).setCell ⟨g, 1, none⟩ u1).setCell ⟨g, 2, none⟩ u2).setCell ⟨g, 3, none⟩ u3) v0 tr v2 ch v3 wa :=
 h.step (by simp [World.setCell]) (fun k _ h1 => (Below.heap_setCell _ ⟨g, 3, none⟩ u3 k (by show k ≠ g; omega)).trans ((Below.heap_setCell _ ⟨g, 2, none⟩ u2 k (by show k ≠ g; omega)).trans ((Below.heap_setCell _ ⟨g, 1, none⟩ u1 k (by show k ≠ g; omega)).trans (Below.heap_setCell _ ⟨g, 0, none⟩ u0 k (by show k ≠ g; omega)))))
theorem LoopRd.reads (h : LoopRd b lo hi w v0 tr v2 ch v3 wa) : ∃ A0 c0 A2 c2 A3 c3, v0 = .slice A0 tr.length c0 ∧ v2 = .slice A2 ch.length c2 ∧ v3 = .slice A3 wa.length c3 ∧ tr.length ≤ c0 ∧ ch.length ≤ c2 ∧ wa.length ≤ c3 ∧ Kd.C (Kd.int .i64) w A0 tr.length tr ∧ Kd.C k69 w A2 ch.length ch ∧ Kd.C k74 w A3 wa.length wa := by
 obtain ⟨_, h0, h2, h3⟩ := h
 obtain ⟨A0, c0, e0, l0, r0⟩ := Kd.R_reads h0
 obtain ⟨A2, c2, e2, l2, r2⟩ := Kd.S_reads h2
 obtain ⟨A3, c3, e3, l3, r3⟩ := Kd.R_reads h3
 exact ⟨A0, c0, A2, c2, A3, c3, e0, e2, e3, l0, l2, l3, r0, r2, r3⟩
theorem LoopRd.rd (h : LoopRd b lo hi w (.slice A0 n0 c0) tr (.slice A2 n2 c2) ch (.slice A3 n3 c3) wa) : n0 ≤ c0 ∧ Kd.C (Kd.int .i64) w A0 n0 tr ∧ n2 ≤ c2 ∧ Kd.C k69 w A2 n2 ch ∧ n3 ≤ c3 ∧ Kd.C k74 w A3 n3 wa := by
 obtain ⟨_, h0, h2, h3⟩ := h
 obtain ⟨e0, l0, r0⟩ := Kd.R_reads' h0
 obtain ⟨e2, l2, r2⟩ := Kd.S_reads' h2
 obtain ⟨e3, l3, r3⟩ := Kd.R_reads' h3
 subst e0 e2 e3
 exact ⟨l0, r0, l2, r2, l3, r3⟩
theorem ri_new (h : Kd.R (Kd.int .i64) 3 w1 W.heap.size ok0 v l) (hb : b ≤ W.heap.size) : ∃ lo hi, (lo = W.heap.size ∧ hi = w1.heap.size) ∧ RowIn b lo hi w1 v l :=
 ⟨_, _, ⟨rfl, rfl⟩, Nat.le_refl _, Kd.R_lower (Kd.R_mono (Kd.R_bound h) (fun k hk => ⟨hk.2.1, hk.2.2.1⟩)) hb⟩
theorem ri_step (h : RowIn b lo hi w v l) (hs : w.heap.size ≤ w1.heap.size) (hm : ∀ k, lo ≤ k → k < hi → w1.heap[k]? = w.heap[k]?) : RowIn b lo hi w1 v l := ⟨Nat.le_trans h.1 hs, Kd.R_move h.2 (fun k hk => hm k hk.1 hk.2)⟩
theorem ri_later (h : RowIn b lo hi w v l) (hb : Below w.heap.size w w1) : RowIn b lo hi w1 v l := ri_step h hb.size (fun k _ h1 => hb.block k (Nat.lt_of_lt_of_le h1 h.1))
theorem ri_kept (h : RowIn b lo hi w v l) (hk : Kept w w1 (fun k => lo2 ≤ k ∧ k < hi2)) (hd : hi ≤ lo2 ∨ hi2 ≤ lo) : RowIn b lo hi w1 v l := ri_step h hk.1 (fun k h0 h1 => hk.2 k (Nat.lt_of_lt_of_le h1 h.1) (fun h2 => by omega))
theorem ri_put4 (h : RowIn b lo hi w v l) (hg : hi ≤ g) (u0 u1 u2 u3 : Value) : RowIn b lo hi ((((w.setCell ⟨g, 0, none⟩ u0).setCell ⟨g, 1, none⟩ u1).setCell ⟨g, 2, none⟩ u2).setCell ⟨g, 3, none⟩ u3) v l :=
 ri_step h (by simp [World.setCell]) (fun k _ h1 => (Below.heap_setCell _ ⟨g, 3, none⟩ u3 k (by show k ≠ g; omega)).trans ((Below.heap_setCell _ ⟨g, 2, none⟩ u2 k (by show k ≠ g; omega)).trans ((Below.heap_setCell _ ⟨g, 1, none⟩ u1 k (by show k ≠ g; omega)).trans (Below.heap_setCell _ ⟨g, 0, none⟩ u0 k (by show k ≠ g; omega)))))
theorem ri_R (h : RowIn b lo hi w v l) : Kd.R (Kd.int .i64) 3 w b (fun k => lo ≤ k ∧ k < hi) v l := h.2
theorem ri_rd (h : RowIn b lo hi w (.slice A0 n0 c0) l) : n0 = l.length ∧ n0 ≤ c0 ∧ Kd.C (Kd.int .i64) w A0 n0 l := by
 obtain ⟨e0, l0, r0⟩ := Kd.R_reads' h.2
 subst e0
 exact ⟨rfl, l0, r0⟩
end
def laws_heldIntS.l0 : Nat → List Int → Int → Int → Option (Int)
 | 0, _, _, _ => none
 | k + 1, x0, x1, x5 => if x5 < (x0.length : Int) then (if 0 ≤ x5 then (if (rd x0 x5) = x1 then (laws_heldIntS.l0 k x0 (wrap64 (x1 + 1)) (wrap64 (x5 + 1))) else (some (-1))) else (none)) else (some x1)
def laws_heldIntS.f (k : Nat) (l0 : List Int) (a1 : Int) : Option (Int) := laws_heldIntS.l0 k l0 a1 0
set_option maxHeartbeats 8000000 in
set_option maxRecDepth 100000 in
theorem laws_heldIntS.calls (k : Nat) (A0 : Option Addr) (c0 : Nat) (l0 : List Int) (a1 : Int) (r : Int) (w : World) (hr0 : Kd.C (Kd.int .i64) w A0 l0.length l0) (hc0 : l0.length ≤ c0) (h : laws_heldIntS.f k l0 a1 = some r) :
  Calls Try.prog 45 #[.slice A0 l0.length c0, .int .i64 a1] w fun e w' => e = .returned (.int .i64 r) ∧ Drawn0 w w' := by
 have HR0 := zK hr0; have HC0 := zK hc0; clear hr0 hc0
 have H : (laws_heldIntS.l0 k l0 a1 0) = some r := h
 clear h; have H' := zK H; clear H
 go_enter Try.func45, Try.ntmps45
 go_wp2
 go_loopg [1, 5] k (fun kq v1 v5 w' => ∃ (ab : Int) (aa : Int), v1 = .int .i64 ab ∧ v5 = .int .i64 aa ∧ Aside0 (laws_heldIntS.l0 kq l0 ab aa = some r) ∧ Aside0 (kq ≤ k) ∧ Drawn0 w w')
 case atStart => exact ⟨(a1), (0), zf, zf, H', ⟨Nat.le_refl _⟩, by repeat (first | exact Drawn0.refl _ | apply Drawn0.step)⟩
 case round =>
  clear H'
  try clear p2
  obtain ⟨ab, aa, rfl, rfl, HA, HK1, ⟨m1, rfl⟩⟩ := hrel
  cases gk with
  | zero => exact absurd HA.out (by simp [laws_heldIntS.l0])
  | succ k1 =>
   have H := HA.out; clear HA
   simp only [laws_heldIntS.l0] at H
   by_cases c3 : aa < (l0.length : Int)
   ·rw [if_pos c3] at H
    have c3b0 : decide (aa < (l0.length : Int)) = true := decide_eq_true c3
    clear c3
    by_cases c4 : 0 ≤ aa
    ·rw [if_pos c4] at H
     have c4b0 : decide (0 ≤ aa) = true := decide_eq_true c4
     clear c4
     by_cases c5 : (rd l0 aa) = ab
     ·rw [if_pos c5] at H
      have c5b0 : ((rd l0 aa) == ab) = true := beq_iff_eq.mpr c5
      have c5b1 : ((rd l0 aa) != ab) = false := bne_eq_false_iff_eq.mpr c5
      clear c5; have H' := zK H; clear H
      have ac : 0 ≤ (aa : Int) := zd
      have ad : aa < (l0.length : Int) := zd
      obtain ⟨ag, af, ae⟩ := Kd.at_int HR0.out aa ac ad
      cases af
      replace ac := eq_true ac; replace ad := eq_true ad
      go_wp2
      go_roundg k1
      case measure => have := HK1.out; omega
      case rel => exact ⟨(wrap64 (ab + 1)), (wrap64 (aa + 1)), zf, zf, H', ⟨by have := HK1.out; omega⟩, by repeat (first | exact Drawn0.refl _ | apply Drawn0.step)⟩
     ·rw [if_neg c5] at H
      have c5b0 : ((rd l0 aa) == ab) = false := beq_eq_false_iff_ne.mpr c5
      have c5b1 : ((rd l0 aa) != ab) = true := bne_iff_ne.mpr c5
      obtain rfl := Option.some.inj H
      have ac : 0 ≤ (aa : Int) := zd
      have ad : aa < (l0.length : Int) := zd
      obtain ⟨ag, af, ae⟩ := Kd.at_int HR0.out aa ac ad
      cases af
      replace ac := eq_true ac; replace ad := eq_true ad
      go_wp2
      go_ret
      exact ⟨by first | rfl | (simp; done) | (simp [*]; done), by repeat (first | exact Drawn0.refl _ | apply Drawn0.step)⟩
    ·rw [if_neg c4] at H
     exact absurd H (by simp)
   ·rw [if_neg c3] at H
    have c3b0 : decide (aa < (l0.length : Int)) = false := decide_eq_false c3
    clear c3; obtain rfl := Option.some.inj H
    go_wp2
    go_ret
    exact ⟨by first | rfl | (simp; done) | (simp [*]; done), by repeat (first | exact Drawn0.refl _ | apply Drawn0.step)⟩
end Go.Proofs.Ytmjhbdmicejppaa.Px
