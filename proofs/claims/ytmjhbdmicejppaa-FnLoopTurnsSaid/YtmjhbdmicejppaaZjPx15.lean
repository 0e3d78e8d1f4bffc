import Derived.Test.YtmjhbdmicejppaaZjPx0
import Derived.Test.YtmjhbdmicejppaaZjPx1
import Derived.Test.YtmjhbdmicejppaaZjPx2
import Derived.Test.YtmjhbdmicejppaaZjPx6
import Derived.Test.YtmjhbdmicejppaaZjPx9
import Derived.Test.YtmjhbdmicejppaaZjPx10
namespace Go.Proofs.Ytmjhbdmicejppaa.Px
open Go.RowKit Go.Proofs.YtmjhbdmicejppaaW.PrintWords Go.Proofs.YtmjhbdmicejppaaW.PrintLast Go.Proofs.YtmjhbdmicejppaaW.PrintMore
attribute [local go_sem] max2_int min2_int max_two min_two max_three min_three max_four min_four   
set_option linter.unusedVariables false
set_option linter.unusedSimpArgs false
def impl_Stuck.p (k : Nat) (left : List Int) (x : Int) : Bool := decide (x = 0) || !((slices_Contains_int_int.f k left x).getD false)
def impl_Stuck.f (k : Nat) (l0_0 : List Int) (a0_1 : Int) (l0_2 : List (S69)) (l0_3 : List (S74)) : Option (List Int) := (impl_LoopOk.f k l0_0 a0_1 l0_2 l0_3).bind fun ok => (if ok = true then ((impl_TurnLoop.f k l0_0 a0_1 l0_2 l0_3 600).bind fun q => ((slices_Clone_int_int.f l0_0).bind fun c => (if c.all (fun x => (slices_Contains_int_int.f k q.1 x).isSome) = true then (some (c.filter (fun z_ => !impl_Stuck.p k q.1 z_))) else (none)))) else (some []))
set_option maxHeartbeats 4000000 in
set_option maxRecDepth 100000 in
theorem impl_Stuck.clo (k : Nat) (left : List Int) (x : Int) (b : Bool) (h : slices_Contains_int_int.f k left x = some b) (A : Option Addr) (c : Nat) (g0 : Nat) (w : World) (hb : w.heap[g0]? = some (.cells #[.slice A left.length c] 24 (0, 0))) (hr : Kd.C (Kd.int .i64) w A left.length left) (hc : left.length ≤ c) :
  Calls Try.prog 69 #[.int .i64 x, .pointer (some ⟨g0, 0, none⟩)] w fun e w' => e = .returned (.bool (impl_Stuck.p k left x)) ∧ Below w.heap.size w w' := by
 have hcell : w.cell? ⟨g0, 0, none⟩ = some (.slice A left.length c) := (blk_cell hb 0).trans rfl
 have hp : impl_Stuck.p k left x = (decide (x = 0) || !b) := by
   unfold impl_Stuck.p
   rw [h]
   rfl
 rw [hp]
 have HR := zK hr; have HCl := zK hc; have HF := zK h; clear hb hr hc h hp
 by_cases h1 : x = 0
 · have h1b : (x == 0) = true := beq_iff_eq.mpr h1
   have HX := zK h1; clear h1
   go_enter Try.func69, Try.ntmps69
   go_wp2
   go_ret
   exact ⟨by simp [HX.out], Below.refl _ _⟩
 · have h1b : (x == 0) = false := beq_eq_false_iff_ne.mpr h1
   have HX := zK h1; clear h1
   cases b with
   | false =>
     go_enter Try.func69, Try.ntmps69
     go_wp2_with ((with_reducible refine gate_callee (f := 52) rfl ?_); (try (refine gate_guard (by rfl) ?_; dsimp only)); refine goesL_ (some 9) rfl rfl Try.func52 (by kernel_rfl) rfl #[.slice A left.length c, .int .i64 x] rfl zg ?_; (with_reducible refine (slices_Contains_int_int.calls k A c left x false _ ?side1 HCl.out HF.out).mono ?_); (case side1 => repeat (first | exact HR.out | (with_reducible refine Kd.C_alloc ?_ _) | (with_reducible refine Kd.C_drewN ?_ _) | (with_reducible refine Kd.C_drew ?_))); rintro e w3 ⟨rfl, hd⟩; refine ⟨_, rfl, ?_⟩; have hb := below_step (by repeat (first | exact Below.refl _ _ | apply zB | apply zC | apply zE)) hd.below; clear hd)
     go_ret
     exact ⟨by simp [HX.out], hb⟩
   | true =>
     go_enter Try.func69, Try.ntmps69
     go_wp2_with ((with_reducible refine gate_callee (f := 52) rfl ?_); (try (refine gate_guard (by rfl) ?_; dsimp only)); refine goesL_ (some 9) rfl rfl Try.func52 (by kernel_rfl) rfl #[.slice A left.length c, .int .i64 x] rfl zg ?_; (with_reducible refine (slices_Contains_int_int.calls k A c left x true _ ?side1 HCl.out HF.out).mono ?_); (case side1 => repeat (first | exact HR.out | (with_reducible refine Kd.C_alloc ?_ _) | (with_reducible refine Kd.C_drewN ?_ _) | (with_reducible refine Kd.C_drew ?_))); rintro e w3 ⟨rfl, hd⟩; refine ⟨_, rfl, ?_⟩; have hb := below_step (by repeat (first | exact Below.refl _ _ | apply zB | apply zC | apply zE)) hd.below; clear hd)
     go_ret
     exact ⟨by simp [HX.out], hb⟩
theorem impl_Stuck.fld (a b c d : Value) (w : World) : (Instr.field 28 (.agg #[a, b, c, d]) 0).run Try.prog w = .ok a w := by
 have hu28 := Try.underlying28
 unfold Instr.field
 go_simp
 rfl
set_option maxHeartbeats 8000000 in
set_option maxRecDepth 100000 in
theorem impl_Stuck.calls (k : Nat) (ae : Option Addr) (af : Nat) (aa : List Int) (a0_1 : Int) (ag : Option Addr) (ah : Nat) (ac : List (S69)) (ai : Option Addr) (aj : Nat) (ad : List (S74)) (r : List Int) (w : World) (ak : Kd.C (Kd.int .i64) w ae aa.length aa) (hc0_0 : aa.length ≤ af) (al : Kd.C k69 w ag ac.length ac) (hc0_2 : ac.length ≤ ah) (am : Kd.C k74 w ai ad.length ad) (hc0_3 : ad.length ≤ aj) (h : impl_Stuck.f k aa a0_1 ac ad = some r) :
  Calls Try.prog 29 #[.agg #[.slice ae aa.length af, .int .i64 a0_1, .slice ag ac.length ah, .slice ai ad.length aj]] w fun e w' => ∃ v0_ : Value, e = .returned (v0_) ∧ Kd.R (Kd.int .i64) 3 w' w.heap.size (fun _ => True) v0_ r ∧ Below w.heap.size w w' := by
 have hu28 := Try.underlying28; have hfd := impl_Stuck.fld
 have hmf : ∀ (fn : Fn) (first cap : Array Value) (w : World), (Instr.makeFunc fn first cap).run Try.prog w = .ok (.func fn first cap) w := fun _ _ _ _ => rfl
 have HR0 := zK ak; have HC0 := zK hc0_0; have HR2 := zK al; have HC2 := zK hc0_2; have HR3 := zK am; have HC3 := zK hc0_3; clear ak hc0_0 al hc0_2 am hc0_3; have H := h
 unfold impl_Stuck.f at H
 clear h; replace H := Option.bind_eq_some_iff.mp H
 obtain ⟨ok, A10, H⟩ := H
 have A1 := zK A10; clear A10
 cases ok with
 | false =>
   rw [if_neg (by simp)] at H
   obtain rfl := Option.some.inj H; clear H
   go_enter Try.func29, Try.ntmps29
   go_wp2_with (first | ((with_reducible refine gate_dst (N := 1) rfl ?_); refine zX 1 #[.slice ae aa.length af, .int .i64 a0_1, .slice ag ac.length ah, .slice ai ad.length aj] 28 ?_; intro g1 hg w1 hbox hb; have HB := zK hb; have ab := zK hbox; have GE1 := zK (show w.heap.size ≤ g1 from by rw [hg]; exact Nat.le_refl _); clear hb hbox hg; have hz0 : w1.cell? ⟨g1, 0, none⟩ = some (.slice ae aa.length af) := (blk_cell ab.out 0).trans rfl; have hz1 : w1.cell? ⟨g1, 1, none⟩ = some (.int .i64 a0_1) := (blk_cell ab.out 1).trans rfl; have hz2 : w1.cell? ⟨g1, 2, none⟩ = some (.slice ag ac.length ah) := (blk_cell ab.out 2).trans rfl; have hz3 : w1.cell? ⟨g1, 3, none⟩ = some (.slice ai ad.length aj) := (blk_cell ab.out 3).trans rfl) | ((with_reducible refine gate_callee (f := 24) rfl ?_); refine goesL_ (some 5) rfl rfl Try.func24 (by kernel_rfl) rfl #[.agg #[.slice ae aa.length af, .int .i64 a0_1, .slice ag ac.length ah, .slice ai ad.length aj]] rfl zg ?_; (with_reducible refine (impl_LoopOk.calls k _ _ aa a0_1 _ _ ac _ _ ad false _ ?side1 HC0.out ?side3 HC2.out ?side5 HC3.out A1.out).mono ?_); (case side1 => exact zs (Kd.C_below HR0.out HB.out)); (case side3 => exact zs (Kd.C_below HR2.out HB.out)); (case side5 => exact zs (Kd.C_below HR3.out HB.out)); rintro e w2 ⟨rfl, hb⟩; refine ⟨_, rfl, ?_⟩; have n1 := zK (blk_below (zk ab) hb); have nb := zK (below_step (by repeat (first | exact HB.out | apply zB | apply zC | apply zE)) hb); clear hb ab HB hz0 hz1 hz2 hz3; have ab := n1; have HB := nb; clear n1 nb; have hz0 : w2.cell? ⟨g1, 0, none⟩ = some (.slice ae aa.length af) := (blk_cell ab.out 0).trans rfl; have hz1 : w2.cell? ⟨g1, 1, none⟩ = some (.int .i64 a0_1) := (blk_cell ab.out 1).trans rfl; have hz2 : w2.cell? ⟨g1, 2, none⟩ = some (.slice ag ac.length ah) := (blk_cell ab.out 2).trans rfl; have hz3 : w2.cell? ⟨g1, 3, none⟩ = some (.slice ai ad.length aj) := (blk_cell ab.out 3).trans rfl))
   go_ret
   exact ⟨_, rfl, Kd.R_nil _ _ _ _ _, HB.out⟩
 | true =>
   rw [if_pos rfl] at H
   replace H := Option.bind_eq_some_iff.mp H
   obtain ⟨⟨tr0, tu0, ch0, wa0⟩, A20, H⟩ := H
   have A2 := zK A20; clear A20; replace H := Option.bind_eq_some_iff.mp H
   obtain ⟨cl0, A30, H⟩ := H
   have A3 := zK A30; clear A30
   by_cases hf : cl0.all (fun x => (slices_Contains_int_int.f k tr0 x).isSome) = true
   · replace H : some (cl0.filter (fun z_ => !impl_Stuck.p k tr0 z_)) = some r := by
       rw [if_pos hf] at H
       exact H
     obtain rfl := Option.some.inj H; have HF := zK hf; clear H hf
     go_enter Try.func29, Try.ntmps29
     go_wp2_with (first | ((with_reducible refine gate_dst (N := 1) rfl ?_); refine zX 1 #[.slice ae aa.length af, .int .i64 a0_1, .slice ag ac.length ah, .slice ai ad.length aj] 28 ?_; intro g1 hg w1 hbox hb; have HB := zK hb; have ab := zK hbox; have GE1 := zK (show w.heap.size ≤ g1 from by rw [hg]; exact Nat.le_refl _); clear hb hbox hg; have hz0 : w1.cell? ⟨g1, 0, none⟩ = some (.slice ae aa.length af) := (blk_cell ab.out 0).trans rfl; have hz1 : w1.cell? ⟨g1, 1, none⟩ = some (.int .i64 a0_1) := (blk_cell ab.out 1).trans rfl; have hz2 : w1.cell? ⟨g1, 2, none⟩ = some (.slice ag ac.length ah) := (blk_cell ab.out 2).trans rfl; have hz3 : w1.cell? ⟨g1, 3, none⟩ = some (.slice ai ad.length aj) := (blk_cell ab.out 3).trans rfl) | ((with_reducible refine gate_callee (f := 24) rfl ?_); refine goesL_ (some 5) rfl rfl Try.func24 (by kernel_rfl) rfl #[.agg #[.slice ae aa.length af, .int .i64 a0_1, .slice ag ac.length ah, .slice ai ad.length aj]] rfl zg ?_; (with_reducible refine (impl_LoopOk.calls k _ _ aa a0_1 _ _ ac _ _ ad true _ ?side1 HC0.out ?side3 HC2.out ?side5 HC3.out A1.out).mono ?_); (case side1 => exact zs (Kd.C_below HR0.out HB.out)); (case side3 => exact zs (Kd.C_below HR2.out HB.out)); (case side5 => exact zs (Kd.C_below HR3.out HB.out)); rintro e w2 ⟨rfl, hb⟩; refine ⟨_, rfl, ?_⟩; have n1 := zK (blk_below (zk ab) hb); have nb := zK (below_step (by repeat (first | exact HB.out | apply zB | apply zC | apply zE)) hb); clear hb ab HB hz0 hz1 hz2 hz3; have ab := n1; have HB := nb; clear n1 nb; have hz0 : w2.cell? ⟨g1, 0, none⟩ = some (.slice ae aa.length af) := (blk_cell ab.out 0).trans rfl; have hz1 : w2.cell? ⟨g1, 1, none⟩ = some (.int .i64 a0_1) := (blk_cell ab.out 1).trans rfl; have hz2 : w2.cell? ⟨g1, 2, none⟩ = some (.slice ag ac.length ah) := (blk_cell ab.out 2).trans rfl; have hz3 : w2.cell? ⟨g1, 3, none⟩ = some (.slice ai ad.length aj) := (blk_cell ab.out 3).trans rfl) | ((with_reducible refine gate_callee (f := 19) rfl ?_); refine goesL_ (some 8) rfl rfl Try.func19 (by kernel_rfl) rfl #[.agg #[.slice ae aa.length af, .int .i64 a0_1, .slice ag ac.length ah, .slice ai ad.length aj], .int .i64 600] rfl zg ?_; (with_reducible refine (impl_TurnLoop.calls k _ _ aa a0_1 _ _ ac _ _ ad 600 tr0 tu0 ch0 wa0 _ ?side1 HC0.out ?side3 HC2.out ?side5 HC3.out A2.out).mono ?_); (case side1 => exact zs (Kd.C_below HR0.out HB.out)); (case side3 => exact zs (Kd.C_below HR2.out HB.out)); (case side5 => exact zs (Kd.C_below HR3.out HB.out)); rintro e w3 ⟨v0, v2, v3, rfl, ho0, ho2, ho3, hb⟩; obtain ⟨B2, d2, ev2⟩ := Kd.S_slice ho2; obtain ⟨B3, d3, ev3⟩ := Kd.S_slice ho3; subst ev2; subst ev3; clear ho2 ho3; refine ⟨_, rfl, ?_⟩; have hB_ : Below w.heap.size w _ := (by repeat (first | exact HB.out | apply zB | apply zC | apply zE)); have n1 := zK (blk_below (zk ab) hb); have nb := zK (below_step hB_ hb); have nl := zK (Kd.R_lower ho0 (below_size hB_)); clear hb hB_ ho0 ab HB hz0 hz1 hz2 hz3; have ab := n1; have HB := nb; have HL := nl; clear n1 nb nl; obtain ⟨B0, d0, ev0⟩ := Kd.R_slice HL.out; subst ev0; have hz0 : w3.cell? ⟨g1, 0, none⟩ = some (.slice ae aa.length af) := (blk_cell ab.out 0).trans rfl; have hz1 : w3.cell? ⟨g1, 1, none⟩ = some (.int .i64 a0_1) := (blk_cell ab.out 1).trans rfl; have hz2 : w3.cell? ⟨g1, 2, none⟩ = some (.slice ag ac.length ah) := (blk_cell ab.out 2).trans rfl; have hz3 : w3.cell? ⟨g1, 3, none⟩ = some (.slice ai ad.length aj) := (blk_cell ab.out 3).trans rfl) | ((with_reducible refine gate_dst (N := 3) rfl ?_); refine zX 3 #[.slice none 0 0] 24 ?_; intro g3 hg w4 hbox hb; have hB_ : Below w.heap.size w _ := (by repeat (first | exact HB.out | apply zB | apply zC | apply zE)); have GE3 := zK (show w.heap.size ≤ g3 from by rw [hg]; exact hB_.size); have BK1o := ab; have n1 := zK (blk_below (zk ab) hb); have nb := zK (below_step hB_ hb); have nl := zK (Kd.R_below (by (with_reducible repeat (first | refine Kd.R_alloc ?_ _ | refine Kd.R_drewN ?_ _ | refine Kd.R_drew ?_)); exact HL.out) hb); clear hB_ ab HB HL hz0 hz1 hz2 hz3; have ab := n1; have HB := nb; have HL := nl; clear n1 nb nl; have an := zK hbox; have NE := zK (show g1 ≠ g3 from by rw [hg]; exact Nat.ne_of_lt (blk_lt (zk BK1o))); clear hb hbox hg; have hy0 : w4.cell? ⟨g3, 0, none⟩ = some (.slice none 0 0) := (blk_cell an.out 0).trans rfl; have hf0 := blk_frozen an.out 0; have hz0 : w4.cell? ⟨g1, 0, none⟩ = some (.slice ae aa.length af) := (blk_cell ab.out 0).trans rfl; have hz1 : w4.cell? ⟨g1, 1, none⟩ = some (.int .i64 a0_1) := (blk_cell ab.out 1).trans rfl; have hz2 : w4.cell? ⟨g1, 2, none⟩ = some (.slice ag ac.length ah) := (blk_cell ab.out 2).trans rfl; have hz3 : w4.cell? ⟨g1, 3, none⟩ = some (.slice ai ad.length aj) := (blk_cell ab.out 3).trans rfl; have hs0 : (w4.setCell ⟨g3, 0, none⟩ (.slice B0 tr0.length d0)).cell? ⟨g1, 0, none⟩ = some (.slice ae aa.length af) := (blk_cell ((Below.heap_setCell w4 ⟨g3, 0, none⟩ (.slice B0 tr0.length d0) g1 NE.out).trans ab.out) 0).trans rfl) | (go_at_call 58; refine (slices_Clone_int_int.calls ae af aa cl0 _ (Kd.C_below HR0.out (by repeat (first | exact HB.out | apply zB | apply zC | apply zE | refine zS ?_ GE3.out))) HC0.out A3.out).mono ?_; rintro e w5 ⟨v1, rfl, hR1, hb⟩; have n3 := zK (blk_below (blk_put an.out 0 (.slice B0 tr0.length d0) rfl) hb); have hl_ := Kd.R_set HL.out an.out (by decide) 0 (.slice B0 tr0.length d0); have NV := zK (show ∀ k_, some k_ = (Value.slice B0 tr0.length d0).ownBlock → some k_ ≠ v1.ownBlock from fun k_ hk e_ => Nat.lt_irrefl k_ (Nat.lt_of_lt_of_le (Kd.R_lt hl_ k_ hk.symm) (Kd.R_base hR1 k_ e_.symm))); have nl := zK (Kd.R_below hl_ hb); have no := zK (Kd.R_lower hR1 (below_size (w := w) (by repeat (first | exact HB.out | apply zB | apply zC | apply zE | refine zS ?_ GE3.out)))); have nb := zK (below_step (w := w) (by repeat (first | exact HB.out | apply zB | apply zC | apply zE | refine zS ?_ GE3.out)) hb); clear hb hl_ hR1 ab an HB HL; have an := n3; have HL := nl; have HB := nb; have HO := no; clear n3 nl nb no) | (go_at_call 57; refine (delF57 69 #[.pointer (some ⟨g3, 0, none⟩)] (enters_of Try.func69 (by kernel_rfl) rfl) (impl_Stuck.p k tr0) w _ v1 cl0 ?hp HB.out HO.out).mono ?_; (case hp => intro W x hx hgr; obtain ⟨b_, hb_⟩ := Option.isSome_iff_exists.1 (List.all_eq_true.1 HF.out x hx); exact impl_Stuck.clo k tr0 x b_ hb_ B0 d0 g3 W (blk_grown an.out hgr (Kd.R_ne HO.out an.out (by decide))) (Kd.R_reads' (Kd.R_grown (Kd.R_tight rfl HL.out) hgr (fun k_ hk => NV.out k_ hk))).2.2 (Kd.R_reads' HL.out).2.1); rintro e w6 ⟨v6, rfl, hR6, hB6, _⟩))
     go_ret
     exact ⟨_, rfl, hR6, hB6⟩
   · rw [if_neg hf] at H
     cases H
def spec_Stuck.l0 : Nat → List Int → Int → List Int → Int → List (S69) → List (S74) → List Int → Int → List (S69) → List (S74) → Option (List Int)
 | 0, _, _, _, _, _, _, _, _, _, _ => none
 | k + 1, x3, x5, x503000, x503001, x503002, x503003, x518000, x518001, x518002, x518003 => if x5 < (x503000.length : Int) then (if 0 ≤ x5 then (if x5 < (x518000.length : Int) then (if (rd x518000 x5) = 0 then (spec_Stuck.l0 k x3 (wrap64 (x5 + 1)) x503000 x503001 x503002 x503003 x518000 x518001 x518002 x518003) else (if x3.length < 17592186044416 then (spec_Stuck.l0 k (x3 ++ [rd x518000 x5]) (wrap64 (x5 + 1)) x503000 x503001 x503002 x503003 x518000 x518001 x518002 x518003) else (none))) else (none)) else (none)) else (some x3)
def spec_Stuck.f (k : Nat) (l0_0 : List Int) (a0_1 : Int) (l0_2 : List (S69)) (l0_3 : List (S74)) : Option (List Int) := (some (([] : List Int) : List Int)).bind fun y503 => ((spec_LoopOk.f k l0_0 a0_1 l0_2 l0_3).bind fun t506 => (if t506 = true then ((spec_TurnLoop.f k l0_0 a0_1 l0_2 l0_3 600).bind fun bt507 => (spec_Stuck.l0 k y503 0 l0_0 a0_1 l0_2 l0_3 bt507.1 bt507.2.1 bt507.2.2.1 bt507.2.2.2)) else (some y503)))
set_option maxHeartbeats 8000000 in
set_option maxRecDepth 100000 in
theorem spec_Stuck.calls (k : Nat) (an : Option Addr) (ao : Nat) (ae : List Int) (a0_1 : Int) (ap : Option Addr) (aq : Nat) (af : List (S69)) (ar : Option Addr) (au : Nat) (ag : List (S74)) (r : List Int) (w : World) (br : Kd.C (Kd.int .i64) w an ae.length ae) (hc0_0 : ae.length ≤ ao) (bs : Kd.C k69 w ap af.length af) (hc0_2 : af.length ≤ aq) (bu : Kd.C k74 w ar ag.length ag) (hc0_3 : ag.length ≤ au) (h : spec_Stuck.f k ae a0_1 af ag = some r) :
  Calls Try.prog 30 #[.agg #[.slice an ae.length ao, .int .i64 a0_1, .slice ap af.length aq, .slice ar ag.length au]] w fun e w' => ∃ v0_ : Value, e = .returned (v0_) ∧ Kd.R (Kd.int .i64) 3 w' w.heap.size (fun _ => True) v0_ r ∧ Below w.heap.size w w' := by
 have hu28 := Try.underlying28; have a4 := zK br; have a5 := zK hc0_0; clear br hc0_0; have a6 := zK bs; have a7 := zK hc0_2; clear bs hc0_2; have a8 := zK bu; have a9 := zK hc0_3; clear bu hc0_3
 have HB := zK (Below.refl w.heap.size w)
 have H : ((some (([] : List Int) : List Int)).bind fun aI => ((spec_LoopOk.f k ae a0_1 af ag).bind fun a2 => (if a2 = true then ((spec_TurnLoop.f k ae a0_1 af ag 600).bind fun bt507 => (spec_Stuck.l0 k aI 0 ae a0_1 af ag bt507.1 bt507.2.1 bt507.2.2.1 bt507.2.2.2)) else (some aI)))) = some r := h
 clear h
 obtain ⟨aI, aT⟩ : ∃ y_ : List Int, y_ = (([] : List Int)) := ⟨_, rfl⟩
 replace H : ((spec_LoopOk.f k ae a0_1 af ag).bind fun a2 => (if a2 = true then ((spec_TurnLoop.f k ae a0_1 af ag 600).bind fun bt507 => (spec_Stuck.l0 k aI 0 ae a0_1 af ag bt507.1 bt507.2.1 bt507.2.2.1 bt507.2.2.2)) else (some aI))) = some r := by first | (rw [aT]; with_reducible exact H) | (have H2_ := (Option.bind_some _ _).symm.trans H; rw [aT]; with_reducible exact H2_) | (have H2_ := (Option.bind_some _ _).symm.trans H; with_reducible exact H2_) | with_reducible exact H | (rw [aT]; exact H) | exact H
 have Ny503 := zK aT; clear aT; replace H := Option.bind_eq_some_iff.mp H
 obtain ⟨a2, A20, H⟩ := H
 replace H : (if a2 = true then ((spec_TurnLoop.f k ae a0_1 af ag 600).bind fun bt507 => (spec_Stuck.l0 k aI 0 ae a0_1 af ag bt507.1 bt507.2.1 bt507.2.2.1 bt507.2.2.2)) else (some aI)) = some r := H
 have A2 := zK A20; clear A20
 by_cases c3 : a2 = true
 ·subst c3
  have H1 : ((spec_TurnLoop.f k ae a0_1 af ag 600).bind fun bt507 => (spec_Stuck.l0 k aI 0 ae a0_1 af ag bt507.1 bt507.2.1 bt507.2.2.1 bt507.2.2.2)) = some r := by rw [if_pos rfl] at H; exact H
  clear H; have H := H1; clear H1; replace H := Option.bind_eq_some_iff.mp H
  obtain ⟨⟨ah, aA, az, aC⟩, A40, H⟩ := H
  replace H : (spec_Stuck.l0 k aI 0 ae a0_1 af ag ah aA az aC) = some r := H
  have A4 := zK A40; clear A40; have H' := zK H; clear H
  go_enter Try.func30, Try.ntmps30
  go_wp2_with (first | ((with_reducible refine gate_dst (N := 1) rfl ?_); refine zX 1 #[.slice an ae.length ao, .int .i64 a0_1, .slice ap af.length aq, .slice ar ag.length au] 28 ?_; intro ab hg w5 hbox hb; have aE := zK (below_step (zb HB) hb); have aG := zK (hbox); have aH := zK ((by rw [hg]; exact (below_size (zb HB)) : w.heap.size ≤ ab)); have a1 := zK ((by rw [hg]; exact (below_size (zb HB)) : w.heap.size ≤ ab)); clear HB; have HB := aE; have aa := aG; have bL := aH; have aj := a1; clear aE aG aH a1; clear hb hbox hg) | ((with_reducible refine gate_dst (N := 6) rfl ?_); refine Kd.R_lit (Kd.int .i64) _ 3 ?hg (N := 6) ?hd (xs := ([] : List Int)) (inner := []) (ok := fun _ => True) (okp := fun _ => True) ?hr ?hp (fun _ hk => hk) trivial (Below.refl _ _) (Nat.le_refl _) (by simp) ?_; (case hd => rfl); (case hg => rfl); (case hr => first | (go_simp; done) | (go_simp; rfl)); (case hp => exact (Reps.none _ _)); intro v504 w6 ho7 hb hg_ hnew_; clear hg_ hnew_; (first | rw [← Ny503.out] at ho7 | (simp only [Int.reduceToNat] at ho7; rw [← Ny503.out] at ho7)); have aE := zK (Kd.R_lower ho7 (below_size (zb HB))); have aG := zK (blk_below (g := ab) (o := .cells #[.slice an ae.length ao, .int .i64 a0_1, .slice ap af.length aq, .slice ar ag.length au] 28 (0, 0)) (zk aa) hb); have aH := zK (below_step (zb HB) hb); clear aa; clear HB; have am := aE; have aa := aG; have HB := aH; clear aE aG aH; clear hb ho7; have bx : w6.cell? ⟨ab, 0, none⟩ = some (.slice an ae.length ao) := (blk_cell aa.out 0).trans rfl; have bz : w6.cell? ⟨ab, 1, none⟩ = some (.int .i64 a0_1) := (blk_cell aa.out 1).trans rfl; have bA : w6.cell? ⟨ab, 2, none⟩ = some (.slice ap af.length aq) := (blk_cell aa.out 2).trans rfl; have bB : w6.cell? ⟨ab, 3, none⟩ = some (.slice ar ag.length au) := (blk_cell aa.out 3).trans rfl; have bC := blk_frozen aa.out 0; have bD := blk_frozen aa.out 1; have bE := blk_frozen aa.out 2; have bF := blk_frozen aa.out 3) | ((with_reducible refine gate_callee (f := 23) rfl ?_); refine goesL_ (some 8) rfl rfl Try.func23 (by kernel_rfl) rfl #[.agg #[.slice an ae.length ao, .int .i64 a0_1, .slice ap af.length aq, .slice ar ag.length au]] rfl zg ?_; (with_reducible refine (spec_LoopOk.calls k _ _ ae a0_1 _ _ af _ _ ag true _ ?side1 ?side2 ?side3 ?side4 ?side5 ?side6 A2.out).mono ?_); (case side1 => exact zs (Kd.C_below a4.out HB.out)); (case side2 => exact a5.out); (case side3 => exact zs (Kd.C_below a6.out HB.out)); (case side4 => exact a7.out); (case side5 => exact zs (Kd.C_below a8.out HB.out)); (case side6 => exact a9.out); rintro e w9 ⟨rfl, hb⟩; refine ⟨_, rfl, ?_⟩; have aE := zK (Kd.R_below (zR am) hb); have aG := zK (blk_below (g := ab) (o := .cells #[.slice an ae.length ao, .int .i64 a0_1, .slice ap af.length aq, .slice ar ag.length au] 28 (0, 0)) (zk aa) hb); have aH := zK (below_step (zb HB) hb); clear am; clear aa; clear HB; have am := aE; have aa := aG; have HB := aH; clear aE aG aH; (try clear hb); (try clear hk); have ba : w9.cell? ⟨ab, 0, none⟩ = some (.slice an ae.length ao) := (blk_cell aa.out 0).trans rfl; have bb : w9.cell? ⟨ab, 1, none⟩ = some (.int .i64 a0_1) := (blk_cell aa.out 1).trans rfl; have bc : w9.cell? ⟨ab, 2, none⟩ = some (.slice ap af.length aq) := (blk_cell aa.out 2).trans rfl; have bd : w9.cell? ⟨ab, 3, none⟩ = some (.slice ar ag.length au) := (blk_cell aa.out 3).trans rfl; have be := blk_frozen aa.out 0; have bf := blk_frozen aa.out 1; have bg := blk_frozen aa.out 2; have bh := blk_frozen aa.out 3) | ((with_reducible refine gate_callee (f := 26) rfl ?_); refine goesL_ (some 12) rfl rfl Try.func26 (by kernel_rfl) rfl #[.agg #[.slice an ae.length ao, .int .i64 a0_1, .slice ap af.length aq, .slice ar ag.length au], .int .i64 600] rfl zg ?_; (with_reducible refine (spec_TurnLoop.calls k _ _ ae a0_1 _ _ af _ _ ag 600 ah aA az aC _ ?side1 ?side2 ?side3 ?side4 ?side5 ?side6 A4.out).mono ?_); (case side1 => exact zs (Kd.C_below a4.out HB.out)); (case side2 => exact a5.out); (case side3 => exact zs (Kd.C_below a6.out HB.out)); (case side4 => exact a7.out); (case side5 => exact zs (Kd.C_below a8.out HB.out)); (case side6 => exact a9.out); rintro e w11 ⟨v508, v512, v515, rfl, ho0, ho1, ho2, hb⟩; refine ⟨_, rfl, ?_⟩; have aE := zK (Kd.R_elder' (zR am) (Kd.R_base ho0) hb); have aG := zK (Kd.R_lower (Kd.R_new' ho0 (Kd.R_lt (zR am))) (below_size (zb HB))); have aH := zK (Kd.S_lower (Kd.S_new' ho1 (Kd.R_lt (zR am))) (below_size (zb HB))); have a1 := zK (Kd.S_lower (Kd.S_new' ho2 (Kd.R_lt (zR am))) (below_size (zb HB))); have bv := zK (blk_below (g := ab) (o := .cells #[.slice an ae.length ao, .int .i64 a0_1, .slice ap af.length aq, .slice ar ag.length au] 28 (0, 0)) (zk aa) hb); have bw := zK (below_step (zb HB) hb); clear am; clear aa; clear HB; have am := aE; have aU := aG; have aV := aH; have aW := a1; have aa := bv; have HB := bw; clear aE aG aH a1 bv bw; (try clear hb); (try clear hk); (try clear ho0); (try clear ho1); (try clear ho2)) | ((with_reducible refine gate_dst (N := 4) rfl ?_); refine zX 4 #[.slice none 0 0, .int .i64 0, .slice none 0 0, .slice none 0 0] 28 ?_; intro ad hg w12 hbox hb; have aE := zK (Kd.R_below (zR am) hb); have aG := zK (Kd.R_below (zR aU) hb); have aH := zK (Kd.S_below (zT aV) hb); have a1 := zK (Kd.S_below (zT aW) hb); have bv := zK (blk_below (g := ab) (o := .cells #[.slice an ae.length ao, .int .i64 a0_1, .slice ap af.length aq, .slice ar ag.length au] 28 (0, 0)) (zk aa) hb); have bw := zK (below_step (zb HB) hb); have bM := zK (hbox); have n7_ := zK ((by rw [hg]; exact (below_size (zb HB)) : w.heap.size ≤ ad)); have n8_ := zK ((by rw [hg]; exact (below_size (zb HB)) : w.heap.size ≤ ad)); have n9_ := zK ((by rw [hg]; exact Nat.ne_of_lt (blk_lt (g := ab) (o := .cells #[.slice an ae.length ao, .int .i64 a0_1, .slice ap af.length aq, .slice ar ag.length au] 28 (0, 0)) (zk aa)) : ab ≠ ad)); have bN := zK ((by rw [hg]; exact Nat.ne_of_gt (blk_lt (g := ab) (o := .cells #[.slice an ae.length ao, .int .i64 a0_1, .slice ap af.length aq, .slice ar ag.length au] 28 (0, 0)) (zk aa)) : ad ≠ ab)); clear am; clear aU; clear aV; clear aW; clear aa; clear HB; have am := aE; have aU := aG; have aV := aH; have aW := a1; have aa := bv; have HB := bw; have ac := bM; have GW517 := n7_; have aM := n8_; have ak := n9_; have ay := bN; clear aE aG aH a1 bv bw bM n7_ n8_ n9_ bN; clear hb hbox hg; obtain ⟨aD, ax, eo13⟩ := Kd.R_slice aU.out; subst eo13; have hnb14 := ay.out; have hnc14 := ak.out; have bi : w12.cell? ⟨ad, 0, none⟩ = some (.slice none 0 0) := (blk_cell ac.out 0).trans rfl; have bj : w12.cell? ⟨ad, 1, none⟩ = some (.int .i64 0) := (blk_cell ac.out 1).trans rfl; have bk : w12.cell? ⟨ad, 2, none⟩ = some (.slice none 0 0) := (blk_cell ac.out 2).trans rfl; have bl : w12.cell? ⟨ad, 3, none⟩ = some (.slice none 0 0) := (blk_cell ac.out 3).trans rfl; have bm := blk_frozen ac.out 0; have bn := blk_frozen ac.out 1; have bo := blk_frozen ac.out 2; have bp := blk_frozen ac.out 3; obtain ⟨aJ, aK, eo16⟩ := Kd.S_slice aV.out; subst eo16; obtain ⟨aQ, aR, eo17⟩ := Kd.S_slice aW.out; subst eo17))
  go_loopg [3, 5] k (fun kq v3 v5 w' => ∃ (aY : List Int) (al : Int), v5 = .int .i64 al ∧ Aside0 (spec_Stuck.l0 kq aY al ae a0_1 af ag ah aA az aC = some r) ∧ Aside0 (kq ≤ k) ∧ Aside0 (Kd.R (Kd.int .i64) 3 w' w.heap.size (fun k_ => some k_ ≠ ((.slice aD ah.length ax) : Value).ownBlock) v3 aY) ∧ Aside0 (Kd.R (Kd.int .i64) 3 w' w.heap.size (fun k_ => some k_ ≠ (v3 : Value).ownBlock) (.slice aD ah.length ax) ah) ∧ Aside0 (Kd.S k69 69 w' w.heap.size (fun k_ => some k_ ≠ (v3 : Value).ownBlock ∧ some k_ ≠ ((.slice aD ah.length ax) : Value).ownBlock) (.slice aJ az.length aK) az) ∧ Aside0 (Kd.S k74 74 w' w.heap.size (fun k_ => some k_ ≠ (v3 : Value).ownBlock ∧ some k_ ≠ ((.slice aD ah.length ax) : Value).ownBlock) (.slice aQ aC.length aR) aC) ∧ Aside0 (w'.heap[ab]? = some (.cells #[(.slice an ae.length ao), .int .i64 a0_1, (.slice ap af.length aq), (.slice ar ag.length au)] 28 (0, 0))) ∧ Aside0 (w'.heap[ad]? = some (.cells #[(.slice aD ah.length ax), .int .i64 aA, (.slice aJ az.length aK), (.slice aQ aC.length aR)] 28 (0, 0))) ∧ Aside0 (Below w.heap.size w w'))
  case atStart => exact ⟨(aI), (0), zf, H', ⟨Nat.le_refl _⟩, ⟨by (with_reducible repeat (first | apply Kd.R_alloc | apply Kd.R_drewN | apply Kd.R_drew)); exact Kd.R_mono (Kd.R_far (p := ⟨ad, 3, none⟩) (Kd.R_far (p := ⟨ad, 2, none⟩) (Kd.R_far (p := ⟨ad, 1, none⟩) (Kd.R_far (p := ⟨ad, 0, none⟩) (Kd.R_types am.out ac.out (by decide)) (fun _ hk => hk.2) (.slice aD ah.length ax)) (fun _ hk => hk.2) (.int .i64 aA)) (fun _ hk => hk.2) (.slice aJ az.length aK)) (fun _ hk => hk.2) (.slice aQ aC.length aR)) (fun _ hk => hk.1.2)⟩, ⟨by (with_reducible repeat (first | apply Kd.R_alloc | apply Kd.R_drewN | apply Kd.R_drew)); exact Kd.R_mono (Kd.R_far (p := ⟨ad, 3, none⟩) (Kd.R_far (p := ⟨ad, 2, none⟩) (Kd.R_far (p := ⟨ad, 1, none⟩) (Kd.R_far (p := ⟨ad, 0, none⟩) (Kd.R_types aU.out ac.out (by decide)) (fun _ hk => hk.2) (.slice aD ah.length ax)) (fun _ hk => hk.2) (.int .i64 aA)) (fun _ hk => hk.2) (.slice aJ az.length aK)) (fun _ hk => hk.2) (.slice aQ aC.length aR)) (fun _ hk => hk.1.2)⟩, ⟨by (with_reducible repeat (first | apply Kd.S_alloc | apply Kd.S_drewN | apply Kd.S_drew)); exact Kd.S_mono (Kd.S_far (p := ⟨ad, 3, none⟩) (Kd.S_far (p := ⟨ad, 2, none⟩) (Kd.S_far (p := ⟨ad, 1, none⟩) (Kd.S_far (p := ⟨ad, 0, none⟩) (Kd.S_types aV.out ac.out (by decide)) (fun _ hk => hk.2) (.slice aD ah.length ax)) (fun _ hk => hk.2) (.int .i64 aA)) (fun _ hk => hk.2) (.slice aJ az.length aK)) (fun _ hk => hk.2) (.slice aQ aC.length aR)) (fun _ hk => ⟨hk.1.2, hk.1.1⟩)⟩, ⟨by (with_reducible repeat (first | apply Kd.S_alloc | apply Kd.S_drewN | apply Kd.S_drew)); exact Kd.S_mono (Kd.S_far (p := ⟨ad, 3, none⟩) (Kd.S_far (p := ⟨ad, 2, none⟩) (Kd.S_far (p := ⟨ad, 1, none⟩) (Kd.S_far (p := ⟨ad, 0, none⟩) (Kd.S_types aW.out ac.out (by decide)) (fun _ hk => hk.2) (.slice aD ah.length ax)) (fun _ hk => hk.2) (.int .i64 aA)) (fun _ hk => hk.2) (.slice aJ az.length aK)) (fun _ hk => hk.2) (.slice aQ aC.length aR)) (fun _ hk => ⟨hk.1.2, hk.1.1⟩)⟩, ⟨zh aa ak⟩, ⟨by (with_reducible repeat (first | refine zN ?_ _ | refine zD ?_ | refine zA ?_ _)); refine blk_put (cs := #[.slice aD ah.length ax, .int .i64 aA, .slice aJ az.length aK, .slice none 0 0]) ?_ 3 _ rfl; (with_reducible repeat (first | refine zN ?_ _ | refine zD ?_ | refine zA ?_ _)); refine blk_put (cs := #[.slice aD ah.length ax, .int .i64 aA, .slice none 0 0, .slice none 0 0]) ?_ 2 _ rfl; (with_reducible repeat (first | refine zN ?_ _ | refine zD ?_ | refine zA ?_ _)); refine blk_put (cs := #[.slice aD ah.length ax, .int .i64 0, .slice none 0 0, .slice none 0 0]) ?_ 1 _ rfl; (with_reducible repeat (first | refine zN ?_ _ | refine zD ?_ | refine zA ?_ _)); refine blk_put (cs := #[.slice none 0 0, .int .i64 0, .slice none 0 0, .slice none 0 0]) ?_ 0 _ rfl; (with_reducible repeat (first | refine zN ?_ _ | refine zD ?_ | refine zA ?_ _)); exact ac.out⟩, ⟨zb HB⟩⟩
  case round =>
   clear H' ba bb bc bd bi bj bk bl bx bz bA bB be bf bg bh bm bn bo bp bC bD bE bF
   obtain ⟨aY, al, rfl, HA, HK1, a3, ai, av, aw, aa, ac, HB⟩ := hrel
   cases gk with
   | zero => exact absurd HA.out (by simp [spec_Stuck.l0])
   | succ k1 =>
    have H := HA.out; clear HA
    simp only [spec_Stuck.l0] at H
    by_cases bK : al < (ae.length : Int)
    ·rw [if_pos bK] at H
     have bO : decide (al < (ae.length : Int)) = true := decide_eq_true bK
     clear bK
     by_cases c19 : 0 ≤ al
     ·rw [if_pos c19] at H
      have c19b0 : decide (0 ≤ al) = true := decide_eq_true c19
      clear c19
      by_cases c20 : al < (ah.length : Int)
      ·rw [if_pos c20] at H
       have c20b0 : decide (al < (ah.length : Int)) = true := decide_eq_true c20
       clear c20
       by_cases bG : (rd ah al) = 0
       ·rw [if_pos bG] at H
        have bP : ((rd ah al) == 0) = true := beq_iff_eq.mpr bG
        have bQ : ((rd ah al) != 0) = false := bne_eq_false_iff_eq.mpr bG
        clear bG; have H' := zK H; clear H; have hnb22 := ak.out; have hnc22 := ay.out
        have hcz23_0 : wr.cell? ⟨ab, 0, none⟩ = some (.slice an ae.length ao) := (blk_cell aa.out 0).trans rfl
        have hcz23_1 : wr.cell? ⟨ab, 1, none⟩ = some (.int .i64 a0_1) := (blk_cell aa.out 1).trans rfl
        have hcz23_2 : wr.cell? ⟨ab, 2, none⟩ = some (.slice ap af.length aq) := (blk_cell aa.out 2).trans rfl
        have hcz23_3 : wr.cell? ⟨ab, 3, none⟩ = some (.slice ar ag.length au) := (blk_cell aa.out 3).trans rfl
        have hfz23_0 := blk_frozen aa.out 0; have hfz23_1 := blk_frozen aa.out 1; have hfz23_2 := blk_frozen aa.out 2; have hfz23_3 := blk_frozen aa.out 3
        have hcz24_0 : wr.cell? ⟨ad, 0, none⟩ = some (.slice aD ah.length ax) := (blk_cell ac.out 0).trans rfl
        have hcz24_1 : wr.cell? ⟨ad, 1, none⟩ = some (.int .i64 aA) := (blk_cell ac.out 1).trans rfl
        have hcz24_2 : wr.cell? ⟨ad, 2, none⟩ = some (.slice aJ az.length aK) := (blk_cell ac.out 2).trans rfl
        have hcz24_3 : wr.cell? ⟨ad, 3, none⟩ = some (.slice aQ aC.length aR) := (blk_cell ac.out 3).trans rfl
        have hfz24_0 := blk_frozen ac.out 0; have hfz24_1 := blk_frozen ac.out 1; have hfz24_2 := blk_frozen ac.out 2; have hfz24_3 := blk_frozen ac.out 3
        have aZ : 0 ≤ (al : Int) := zd
        have a0 : al < (ah.length : Int) := zd
        obtain ⟨aN, bH, bq⟩ := Kd.at_int (Kd.R_reads' ai.out).2.2 al aZ a0
        cases bH
        replace aZ := eq_true aZ; replace a0 := eq_true a0
        go_wp2
        go_roundg k1
        case measure => have := HK1.out; omega
        case rel => exact ⟨(aY), (wrap64 (al + 1)), zf, H', ⟨by have := HK1.out; omega⟩, ⟨zR a3⟩, ⟨zR ai⟩, ⟨zT av⟩, ⟨zT aw⟩, ⟨zk aa⟩, ⟨zk ac⟩, ⟨zb HB⟩⟩
       ·rw [if_neg bG] at H
        have bP : ((rd ah al) == 0) = false := beq_eq_false_iff_ne.mpr bG
        have bQ : ((rd ah al) != 0) = true := bne_iff_ne.mpr bG
        by_cases c25 : aY.length < 17592186044416
        ·rw [if_pos c25] at H
         have bR := zK c25; clear c25
         obtain ⟨bS, aX⟩ : ∃ y_ : List Int, y_ = (aY ++ [rd ah al]) := ⟨_, rfl⟩
         replace H : (spec_Stuck.l0 k1 bS (wrap64 (al + 1)) ae a0_1 af ag ah aA az aC) = some r := by first | (rw [aX]; with_reducible exact H) | (have H2_ := (Option.bind_some _ _).symm.trans H; rw [aX]; with_reducible exact H2_) | (have H2_ := (Option.bind_some _ _).symm.trans H; with_reducible exact H2_) | with_reducible exact H | (rw [aX]; exact H) | exact H
         have Ny520 := zK aX; clear aX; have H' := zK H; clear H; have hnb26 := ak.out; have hnc26 := ay.out
         have hcz27_0 : wr.cell? ⟨ab, 0, none⟩ = some (.slice an ae.length ao) := (blk_cell aa.out 0).trans rfl
         have hcz27_1 : wr.cell? ⟨ab, 1, none⟩ = some (.int .i64 a0_1) := (blk_cell aa.out 1).trans rfl
         have hcz27_2 : wr.cell? ⟨ab, 2, none⟩ = some (.slice ap af.length aq) := (blk_cell aa.out 2).trans rfl
         have hcz27_3 : wr.cell? ⟨ab, 3, none⟩ = some (.slice ar ag.length au) := (blk_cell aa.out 3).trans rfl
         have hfz27_0 := blk_frozen aa.out 0; have hfz27_1 := blk_frozen aa.out 1; have hfz27_2 := blk_frozen aa.out 2; have hfz27_3 := blk_frozen aa.out 3
         have hcz28_0 : wr.cell? ⟨ad, 0, none⟩ = some (.slice aD ah.length ax) := (blk_cell ac.out 0).trans rfl
         have hcz28_1 : wr.cell? ⟨ad, 1, none⟩ = some (.int .i64 aA) := (blk_cell ac.out 1).trans rfl
         have hcz28_2 : wr.cell? ⟨ad, 2, none⟩ = some (.slice aJ az.length aK) := (blk_cell ac.out 2).trans rfl
         have hcz28_3 : wr.cell? ⟨ad, 3, none⟩ = some (.slice aQ aC.length aR) := (blk_cell ac.out 3).trans rfl
         have hfz28_0 := blk_frozen ac.out 0; have hfz28_1 := blk_frozen ac.out 1; have hfz28_2 := blk_frozen ac.out 2; have hfz28_3 := blk_frozen ac.out 3
         have aZ : 0 ≤ (al : Int) := zd
         have a0 : al < (ah.length : Int) := zd
         obtain ⟨aN, bH, bq⟩ := Kd.at_int (Kd.R_reads' ai.out).2.2 al aZ a0
         cases bH
         replace aZ := eq_true aZ; replace a0 := eq_true a0
         have bI : 0 ≤ (al : Int) := zd
         have bJ : al < (ah.length : Int) := zd
         obtain ⟨bT, e519, hx519_0⟩ := Kd.at_int (Kd.R_reads' ai.out).2.2 al bI bJ
         obtain rfl : aN = bT := (by injection e519)
         replace bI := eq_true bI; replace bJ := eq_true bJ
         go_wp2_with (first | ((with_reducible refine gate_builtin (b := .append) (xs := #[.tmp 26, .tmp 32]) rfl ?_); at_builtin; refine Kd.R_append (Kd.int .i64) (w0 := w) w.heap.size rfl (.tmp 26) (.tmp 32) 24 3 (.int .i64 0) 8 rfl Try.underlying24 info3 rfl (by decide) (by omega) u3 aY (rd ah al) [.int .i64 (rd ah al)] (fun k_ => some k_ ≠ (.slice (some aN) ah.length ax : Value).ownBlock) (fun _ => False) rfl rfl ?aP (fun _ hk => hk.elim) ?aF ?aO ?aB ?aS ?aL ?_; (case aP => exact rfl); (case aB => exact (zb HB)); (case aF => exact (fun k_ hk => Kd.fresh' (Kd.R_lt (zR ai)) k_ hk)); (case aO => exact (zR a3)); (case aS => exact (below_size (zb HB))); (case aL => have := bR.out; omega); intro v521 w29 ho hb hg hat; rw [← Ny520.out] at ho; have aE := zK (Kd.R_after (ok := (fun _ => True)) (by (with_reducible repeat (first | apply Kd.R_alloc | apply Kd.R_drewN | apply Kd.R_drew)); exact Kd.R_mono ai.out (fun _ hk => ⟨trivial, hk⟩)) hg hat); have aG := zK (Kd.S_after (ok := (fun k_ => some k_ ≠ (.slice (some aN) ah.length ax : Value).ownBlock)) (by (with_reducible repeat (first | apply Kd.S_alloc | apply Kd.S_drewN | apply Kd.S_drew)); exact Kd.S_mono av.out (fun _ hk => ⟨hk.2, hk.1⟩)) hg hat); have aH := zK (Kd.S_after (ok := (fun k_ => some k_ ≠ (.slice (some aN) ah.length ax : Value).ownBlock)) (by (with_reducible repeat (first | apply Kd.S_alloc | apply Kd.S_drewN | apply Kd.S_drew)); exact Kd.S_mono aw.out (fun _ hk => ⟨hk.2, hk.1⟩)) hg hat); have a1 := zK (blk_grown (g := ab) (o := .cells #[.slice an ae.length ao, .int .i64 a0_1, .slice ap af.length aq, .slice ar ag.length au] 28 (0, 0)) (zk aa) hg (Kd.R_ne a3.out aa.out (by decide))); have bv := zK (blk_grown (g := ad) (o := .cells #[.slice (some aN) ah.length ax, .int .i64 aA, .slice aJ az.length aK, .slice aQ aC.length aR] 28 (0, 0)) (zk ac) hg (Kd.R_ne a3.out ac.out (by decide))); have bw := zK (hb); have bM := zK (ho); clear ai; clear av; clear aw; clear aa; clear ac; clear HB; clear a3; have ai := aE; have av := aG; have aw := aH; have aa := a1; have ac := bv; have HB := bw; have bU := bM; clear aE aG aH a1 bv bw bM; clear ho hb hg hat))
         go_roundg k1
         case measure => have := HK1.out; omega
         case rel => exact ⟨(bS), (wrap64 (al + 1)), zf, H', ⟨by have := HK1.out; omega⟩, ⟨zR bU⟩, ⟨by (with_reducible repeat (first | apply Kd.R_alloc | apply Kd.R_drewN | apply Kd.R_drew)); exact Kd.R_mono ai.out (fun _ hk => hk.2)⟩, ⟨by (with_reducible repeat (first | apply Kd.S_alloc | apply Kd.S_drewN | apply Kd.S_drew)); exact Kd.S_mono av.out (fun _ hk => ⟨hk.2, hk.1⟩)⟩, ⟨by (with_reducible repeat (first | apply Kd.S_alloc | apply Kd.S_drewN | apply Kd.S_drew)); exact Kd.S_mono aw.out (fun _ hk => ⟨hk.2, hk.1⟩)⟩, ⟨zk aa⟩, ⟨zk ac⟩, ⟨zb HB⟩⟩
        ·rw [if_neg c25] at H
         exact absurd H (by simp)
      ·rw [if_neg c20] at H
       exact absurd H (by simp)
     ·rw [if_neg c19] at H
      exact absurd H (by simp)
    ·rw [if_neg bK] at H
     have bO : decide (al < (ae.length : Int)) = false := decide_eq_false bK
     clear bK; obtain rfl := Option.some.inj H; have hnb30 := ak.out; have hnc30 := ay.out
     have hcz31_0 : wr.cell? ⟨ab, 0, none⟩ = some (.slice an ae.length ao) := (blk_cell aa.out 0).trans rfl
     have hcz31_1 : wr.cell? ⟨ab, 1, none⟩ = some (.int .i64 a0_1) := (blk_cell aa.out 1).trans rfl
     have hcz31_2 : wr.cell? ⟨ab, 2, none⟩ = some (.slice ap af.length aq) := (blk_cell aa.out 2).trans rfl
     have hcz31_3 : wr.cell? ⟨ab, 3, none⟩ = some (.slice ar ag.length au) := (blk_cell aa.out 3).trans rfl
     have hfz31_0 := blk_frozen aa.out 0; have hfz31_1 := blk_frozen aa.out 1; have hfz31_2 := blk_frozen aa.out 2; have hfz31_3 := blk_frozen aa.out 3
     go_wp2
     go_ret
     exact ⟨_, ze, by (with_reducible repeat (first | apply Kd.R_alloc | apply Kd.R_drewN | apply Kd.R_drew)); exact Kd.R_mono a3.out (fun _ hk => trivial), zb HB⟩
 ·replace c3 := Bool.eq_false_iff.mpr c3
  subst c3
  have H1 : (some aI) = some r := by rw [if_neg (show ¬ (false = true) by decide)] at H; exact H
  clear H; have H := H1; clear H1; obtain rfl := Option.some.inj H
  go_enter Try.func30, Try.ntmps30
  go_wp2_with (first | ((with_reducible refine gate_dst (N := 1) rfl ?_); refine zX 1 #[.slice an ae.length ao, .int .i64 a0_1, .slice ap af.length aq, .slice ar ag.length au] 28 ?_; intro ab hg w32 hbox hb; have aE := zK (below_step (zb HB) hb); have aG := zK (hbox); have aH := zK ((by rw [hg]; exact (below_size (zb HB)) : w.heap.size ≤ ab)); have a1 := zK ((by rw [hg]; exact (below_size (zb HB)) : w.heap.size ≤ ab)); clear HB; have HB := aE; have aa := aG; have bL := aH; have aj := a1; clear aE aG aH a1; clear hb hbox hg) | ((with_reducible refine gate_dst (N := 6) rfl ?_); refine Kd.R_lit (Kd.int .i64) _ 3 ?hg (N := 6) ?hd (xs := ([] : List Int)) (inner := []) (ok := fun _ => True) (okp := fun _ => True) ?hr ?hp (fun _ hk => hk) trivial (Below.refl _ _) (Nat.le_refl _) (by simp) ?_; (case hd => rfl); (case hg => rfl); (case hr => first | (go_simp; done) | (go_simp; rfl)); (case hp => exact (Reps.none _ _)); intro v504 w33 ho34 hb hg_ hnew_; clear hg_ hnew_; (first | rw [← Ny503.out] at ho34 | (simp only [Int.reduceToNat] at ho34; rw [← Ny503.out] at ho34)); have aE := zK (Kd.R_lower ho34 (below_size (zb HB))); have aG := zK (blk_below (g := ab) (o := .cells #[.slice an ae.length ao, .int .i64 a0_1, .slice ap af.length aq, .slice ar ag.length au] 28 (0, 0)) (zk aa) hb); have aH := zK (below_step (zb HB) hb); clear aa; clear HB; have am := aE; have aa := aG; have HB := aH; clear aE aG aH; clear hb ho34; have hcz35_0 : w33.cell? ⟨ab, 0, none⟩ = some (.slice an ae.length ao) := (blk_cell aa.out 0).trans rfl; have hcz35_1 : w33.cell? ⟨ab, 1, none⟩ = some (.int .i64 a0_1) := (blk_cell aa.out 1).trans rfl; have hcz35_2 : w33.cell? ⟨ab, 2, none⟩ = some (.slice ap af.length aq) := (blk_cell aa.out 2).trans rfl; have hcz35_3 : w33.cell? ⟨ab, 3, none⟩ = some (.slice ar ag.length au) := (blk_cell aa.out 3).trans rfl; have hfz35_0 := blk_frozen aa.out 0; have hfz35_1 := blk_frozen aa.out 1; have hfz35_2 := blk_frozen aa.out 2; have hfz35_3 := blk_frozen aa.out 3) | ((with_reducible refine gate_callee (f := 23) rfl ?_); refine goesL_ (some 8) rfl rfl Try.func23 (by kernel_rfl) rfl #[.agg #[.slice an ae.length ao, .int .i64 a0_1, .slice ap af.length aq, .slice ar ag.length au]] rfl zg ?_; (with_reducible refine (spec_LoopOk.calls k _ _ ae a0_1 _ _ af _ _ ag false _ ?side1 ?side2 ?side3 ?side4 ?side5 ?side6 A2.out).mono ?_); (case side1 => exact zs (Kd.C_below a4.out HB.out)); (case side2 => exact a5.out); (case side3 => exact zs (Kd.C_below a6.out HB.out)); (case side4 => exact a7.out); (case side5 => exact zs (Kd.C_below a8.out HB.out)); (case side6 => exact a9.out); rintro e w36 ⟨rfl, hb⟩; refine ⟨_, rfl, ?_⟩; have aE := zK (Kd.R_below (zR am) hb); have aG := zK (blk_below (g := ab) (o := .cells #[.slice an ae.length ao, .int .i64 a0_1, .slice ap af.length aq, .slice ar ag.length au] 28 (0, 0)) (zk aa) hb); have aH := zK (below_step (zb HB) hb); clear am; clear aa; clear HB; have am := aE; have aa := aG; have HB := aH; clear aE aG aH; (try clear hb); (try clear hk)))
  go_ret
  exact ⟨_, ze, by (with_reducible repeat (first | apply Kd.R_alloc | apply Kd.R_drewN | apply Kd.R_drew)); exact am.out, zb HB⟩
end Go.Proofs.Ytmjhbdmicejppaa.Px
