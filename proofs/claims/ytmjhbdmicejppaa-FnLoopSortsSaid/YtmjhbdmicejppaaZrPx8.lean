import Derived.Test.YtmjhbdmicejppaaZrPx0
import Derived.Test.YtmjhbdmicejppaaZrPx3
import Derived.Test.YtmjhbdmicejppaaZrPx6
import Derived.Test.YtmjhbdmicejppaaZrPx7
namespace Go.Proofs.Ytmjhbdmicejppaa.Px
open Go.RowKit Go.Proofs.YtmjhbdmicejppaaW.PrintWords Go.Proofs.YtmjhbdmicejppaaW.PrintLast Go.Proofs.YtmjhbdmicejppaaW.PrintMore
attribute [local go_sem] max2_int min2_int max_two min_two max_three min_three max_four min_four   
set_option linter.unusedVariables false
set_option linter.unusedSimpArgs false
def impl_turn.l0 : Nat → List Int → Int → List (S69) → List (S74) → Int → Option (List Int × Int × (List (S69)))
 | 0, _, _, _, _, _ => none
 | k + 1, tr, tu, ch, wa, i => if i < (ch.length : Int) then (if 0 ≤ i then ((impl_trayAt.f tr tu ch wa (rd_T69 ch i).f0).bind fun t => (if 0 ≤ t then (if t < (tr.length : Int) then ((impl_wantOf.f tr tu ch wa (rd tr t)).bind fun v => (if rd tr t = 0 then (impl_turn.l0 k tr tu ch wa (wrap64 (i + 1))) else (if v < 0 then (impl_turn.l0 k tr tu ch wa (wrap64 (i + 1))) else (if ((rd_T69 ch i).f2.length : Int) ≥ (rd_T69 ch i).f1 then (impl_turn.l0 k tr tu ch wa (wrap64 (i + 1))) else (if v < (wa.length : Int) then ((slices_Contains_int_int.f k (rd_T74 wa v).f1 i).bind fun b => (if b = true then (if (rd_T69 ch i).f2.length < 17592186044416 then (impl_turn.l0 k (tr.set t.toNat 0) tu (ch.set i.toNat ⟨(rd_T69 ch i).f0, (rd_T69 ch i).f1, (rd_T69 ch i).f2 ++ [rd tr t]⟩) wa (wrap64 (i + 1))) else (none)) else (impl_turn.l0 k tr tu ch wa (wrap64 (i + 1))))) else (none)))))) else (none)) else (none))) else (none)) else (some (tr, tu, ch))
def impl_turn.f (k : Nat) (tr : List Int) (tu : Int) (ch : List (S69)) (wa : List (S74)) : Option (List Int × Int × (List (S69))) := if (tr.length : Int) = 0 then (none) else (impl_turn.l0 k tr (Int.tmod (wrap64 (tu + 1)) (tr.length : Int)) ch wa 0)
set_option maxHeartbeats 8000000 in
set_option maxRecDepth 100000 in
theorem impl_turn.calls (k : Nat) (g : Nat) (w0 w : World) (PW : Nat → Prop) (V0 V2 V3 : Value) (tr0 : List Int) (tu : Int) (ch0 : List S69) (wa : List S74) (r1 : List Int) (r2 : Int) (r3 : List S69) (hB : Below w0.heap.size w0 w) (hg : w0.heap.size ≤ g) (hbk : w.heap[g]? = some (.cells #[V0, .int .i64 tu, V2, V3] 28 (0, 0))) (hL : LoopMem w0.heap.size w PW V0 tr0 V2 ch0 V3 wa) (h : impl_turn.f k tr0 tu ch0 wa = some (r1, r2, r3)) :
 Calls Try.prog 54 #[.pointer (some ⟨g, 0, none⟩)] w fun e w' => e = .returned (.tuple #[]) ∧ LoopMem w0.heap.size w' PW V0 r1 V2 r3 V3 wa ∧ w'.heap[g]? = some (.cells #[V0, .int .i64 r2, V2, V3] 28 (0, 0)) ∧ Below w0.heap.size w0 w' ∧ ∀ (gk : Nat) (ck : Array Value), gk ≠ g → w.heap[gk]? = some (.cells ck 28 (0, 0)) → w'.heap[gk]? = some (.cells ck 28 (0, 0)) := by
 have hu28 := Try.underlying28; have hu69 := Try.underlying69; have hu74 := Try.underlying74; have HB0 := zK hB; have HG := zK hg; have ai := zK hbk; have ac := zK hL; clear hB hg hbk hL
 have H : (if (tr0.length : Int) = 0 then (none) else (impl_turn.l0 k tr0 (Int.tmod (wrap64 (tu + 1)) (tr0.length : Int)) ch0 wa 0)) = some (r1, r2, r3) := h
 clear h
 by_cases c3 : (tr0.length : Int) = 0
 ·rw [if_pos c3] at H
  exact absurd H (by simp)
 rw [if_neg c3] at H
 have c3b0 : ((tr0.length : Int) == 0) = false := beq_eq_false_iff_ne.mpr c3
 have c3b1 : ((tr0.length : Int) != 0) = true := bne_iff_ne.mpr c3
 have c3b2 : ¬ (tr0 = []) := fun h_ => c3 (by rw [h_]; rfl)
 have H' := zK H; clear H
 obtain ⟨B0, d0, B2, d2, B3, d3, e0, e2, e3, l0_, l2_, l3_, C0_, C2_, C3_⟩ := ac.out.reads
 subst e0 e2 e3
 clear l0_ l2_ l3_ C0_ C2_ C3_
 have hd : Below w.heap.size w w.drew := below_drew (Below.refl _ _)
 have bkd := zK (blk_below ai.out hd)
 have hld := zK (ac.out.below hd)
 have hbd := zK (below_drew HB0.out)
 have hz0 : w.drew.cell? ⟨g, 0, none⟩ = some (.slice B0 tr0.length d0) := (blk_cell bkd.out 0).trans rfl
 have hz1 : w.drew.cell? ⟨g, 1, none⟩ = some (.int .i64 tu) := (blk_cell bkd.out 1).trans rfl
 have hz2 : w.drew.cell? ⟨g, 2, none⟩ = some (.slice B2 ch0.length d2) := (blk_cell bkd.out 2).trans rfl
 have hfz := blk_frozen bkd.out 1; have hcz := hz1
 go_enter Try.func54, Try.ntmps54
 go_wp2
 refine start_ (n := 15) (S := fun w' => w'.cell? ⟨g, 0, none⟩ = some (.slice B0 tr0.length d0) ∧ w'.cell? ⟨g, 1, none⟩ = some (.int .i64 tu)) (ds := [14]) #[ff, ff, ff, ff, ff, ff, ff, ff, ff, ff, ff, ff, ff, ff, ff] (by kernel_rfl) rfl rfl ⟨hz0, hz1⟩ (fun hHeld => ?_)
 refine zu 0 (some 7) #[tt, ff, ff, ff, ff, ff, ff, ff, ff, ff, ff, ff, ff, ff, ff] (by kernel_rfl) ?_
 refine zu 1 (some 8) #[tt, tt, ff, ff, ff, ff, ff, ff, ff, ff, ff, ff, ff, ff, ff] (by kernel_rfl) ?_
 refine zu 2 (some 9) #[tt, tt, tt, ff, ff, ff, ff, ff, ff, ff, ff, ff, ff, ff, ff] (by kernel_rfl) ?_
 refine zu 3 (some 10) #[tt, tt, tt, tt, ff, ff, ff, ff, ff, ff, ff, ff, ff, ff, ff] (by kernel_rfl) ?_
 refine zu 6 (some 13) #[tt, tt, tt, tt, ff, ff, tt, ff, ff, ff, ff, ff, ff, ff, ff] (by kernel_rfl) ?_
 refine zu 7 (some 14) #[tt, tt, tt, tt, ff, ff, tt, tt, ff, ff, ff, ff, ff, ff, ff] (by kernel_rfl) ?_
 refine zu 8 (some 15) #[tt, tt, tt, tt, ff, ff, tt, tt, tt, ff, ff, ff, ff, ff, ff] (by kernel_rfl) ?_
 refine zt 4 (some 11) #[tt, tt, tt, tt, tt, ff, tt, tt, tt, ff, ff, ff, ff, ff, ff] (by kernel_rfl) hHeld ?_
 refine zu 5 (some 12) #[tt, tt, tt, tt, tt, tt, tt, tt, tt, ff, ff, ff, ff, ff, ff] (by kernel_rfl) ?_
 refine zt 9 (some 16) #[tt, tt, tt, tt, tt, tt, tt, tt, tt, tt, ff, ff, ff, ff, ff] (by kernel_rfl) hHeld ?_
 refine zu 10 (some 17) #[tt, tt, tt, tt, tt, tt, tt, tt, tt, tt, tt, ff, ff, ff, ff] (by kernel_rfl) ?_
 refine zu 11 (some 18) #[tt, tt, tt, tt, tt, tt, tt, tt, tt, tt, tt, tt, ff, ff, ff] (by kernel_rfl) ?_
 refine zu 12 (some 19) #[tt, tt, tt, tt, tt, tt, tt, tt, tt, tt, tt, tt, tt, ff, ff] (by kernel_rfl) ?_
 refine zu 13 (some 20) #[tt, tt, tt, tt, tt, tt, tt, tt, tt, tt, tt, tt, tt, tt, ff] (by kernel_rfl) ?_
 refine last_ (i := 14) (N := none) #[tt, tt, tt, tt, tt, tt, tt, tt, tt, tt, tt, tt, tt, tt, tt] rfl rfl (by kernel_rfl) (by decide) (fun K hK => ?_)
 refine skip_ (w1 := ?_) (by rfl) rfl ?_ ?_
 rotate_left
 ·go_simp
  rfl
 refine hK.out _ _ ?_
 clear hK K
 refine done_ (by kernel_rfl) ?_
 have n1 := zK ((ac.out.box ai.out 1 (.int .i64 (Int.tmod (wrap64 (tu + 1)) (tr0.length : Int)))).below (below_drew (Below.refl _ _)))
 have n2' : (w.setCell ⟨g, 1, none⟩ (.int .i64 (Int.tmod (wrap64 (tu + 1)) (tr0.length : Int)))).heap[g]? = some (.cells #[.slice B0 tr0.length d0, .int .i64 (Int.tmod (wrap64 (tu + 1)) (tr0.length : Int)), .slice B2 ch0.length d2, .slice B3 wa.length d3] 28 (0, 0)) := blk_put ai.out 1 _ rfl
 have n2 := zK (blk_below n2' (below_drew (Below.refl _ _)))
 have n3 := zK (below_drew (zS (g := g) (j := 1) (v := .int .i64 (Int.tmod (wrap64 (tu + 1)) (tr0.length : Int))) HB0.out HG.out))
 have n4 := zK (show ∀ (gk : Nat) (ck : Array Value), gk ≠ g → w.heap[gk]? = some (.cells ck 28 (0, 0)) → (w.setCell ⟨g, 1, none⟩ (.int .i64 (Int.tmod (wrap64 (tu + 1)) (tr0.length : Int)))).drew.heap[gk]? = some (.cells ck 28 (0, 0)) from fun gk ck hne_ h_ => blk_below (blk_far (p := ⟨g, 1, none⟩) h_ hne_ (.int .i64 (Int.tmod (wrap64 (tu + 1)) (tr0.length : Int)))) (below_drew (Below.refl _ _)))
 have hzw : w.cell? ⟨g, 2, none⟩ = some (.slice B2 ch0.length d2) := (blk_cell ai.out 2).trans rfl
 clear hz0 hz1 hfz hcz hd bkd hld hbd ac ai HB0 n2' c3b0 c3b1 c3b2
 go_wp2
 clear hz2 hzw
 generalize Int.tmod (wrap64 (tu + 1)) (tr0.length : Int) = T at H' n1 n2 n3 n4 ⊢
 generalize hV0 : Value.slice B0 tr0.length d0 = V0 at n1 n2 n3 ⊢
 generalize hV2 : Value.slice B2 ch0.length d2 = V2 at n1 n2 n3 ⊢
 go_loopg [26] k (fun kq v26 w' => ∃ (i : Int) (tr : List Int) (ch : List S69), v26 = .int .i64 i ∧ ch.length = ch0.length ∧ Aside0 (impl_turn.l0 kq tr T ch wa i = some (r1, r2, r3)) ∧ Aside0 (kq ≤ k) ∧ Aside0 (LoopMem w0.heap.size w' PW V0 tr V2 ch (.slice B3 wa.length d3) wa) ∧ Aside0 (w'.heap[g]? = some (.cells #[V0, .int .i64 T, V2, .slice B3 wa.length d3] 28 (0, 0))) ∧ Aside0 (Below w0.heap.size w0 w') ∧ Aside0 (∀ (gk : Nat) (ck : Array Value), gk ≠ g → w.heap[gk]? = some (.cells ck 28 (0, 0)) → w'.heap[gk]? = some (.cells ck 28 (0, 0))))
 case atStart => exact ⟨0, tr0, ch0, rfl, rfl, H', ⟨Nat.le_refl _⟩, n1, n2, n3, n4⟩
 case round =>
 clear H' n1 n2 n3 n4
 obtain ⟨i, tr, ch, rfl, hlen, HA, ab, HL, ae, HB, HK⟩ := hrel
 cases gk with
 | zero => exact absurd HA.out (by simp [impl_turn.l0])
 | succ k1 =>
  have H := HA.out; clear HA
  simp only [impl_turn.l0] at H
  obtain ⟨B0', d0', B2', d2', B3x, d3x, e0, e2, e3, L0, L2, L3, C0, C2, C3⟩ := HL.out.reads
  subst e0 e2
  injection e3 with e31 _ e33
  subst e31 e33
  have hz0 : wr.cell? ⟨g, 0, none⟩ = some (.slice B0' tr.length d0') := (blk_cell ae.out 0).trans rfl
  have hz1 : wr.cell? ⟨g, 1, none⟩ = some (.int .i64 T) := (blk_cell ae.out 1).trans rfl
  have hz2 : wr.cell? ⟨g, 2, none⟩ = some (.slice B2' ch.length d2') := (blk_cell ae.out 2).trans rfl
  have hz3 : wr.cell? ⟨g, 3, none⟩ = some (.slice B3 wa.length d3) := (blk_cell ae.out 3).trans rfl
  have HLEN := zK hlen; clear hlen
  by_cases c1 : i < (ch.length : Int)
  ·rw [if_pos c1] at H
   have c1b : decide (i < (ch0.length : Int)) = true := decide_eq_true (by rw [← HLEN.out]; exact c1)
   by_cases c2 : 0 ≤ i
   ·rw [if_pos c2] at H
    replace H := Option.bind_eq_some_iff.mp H
    obtain ⟨t, A60, H⟩ := H
    have A6 := zK A60; clear A60; have H' := zK H; clear H; have HC0 := zK C0; have HC2 := zK C2; have HC3 := zK C3; have ac := zK L0; have HL2 := zK L2; have HL3 := zK L3; clear C0 C2 C3 L0 L2 L3
    obtain ⟨ad, A5, c5, e, hx0, hx1, hx2, hl5, hi5⟩ := at_T69 HC2.out i c2 c1
    cases e
    have p1 := eq_true c2
    have q1 : (i < ((ch.length : Nat) : Int)) = True := eq_true c1
    go_wp2
    refine start_ (n := 9) (S := fun w' => w'.cell? ⟨g, 0, none⟩ = some (.slice B0' tr.length d0') ∧ w'.cell? ⟨g, 1, none⟩ = some (.int .i64 T) ∧ w'.cell? ⟨g, 2, none⟩ = some (.slice (some ad) ch.length d2') ∧ w'.cell? ⟨g, 3, none⟩ = some (.slice B3 wa.length d3) ∧ w'.cell? (ad.add (i.toNat * 3)) = some (.int .i64 (rd_T69 ch i).f0)) (ds := []) #[ff, ff, ff, ff, ff, ff, ff, ff, ff] (by kernel_rfl) rfl rfl ⟨hz0, hz1, hz2, hz3, hx0⟩ (fun hHeld => ?_)
    refine zu 0 (some 35) #[tt, ff, ff, ff, ff, ff, ff, ff, ff] (by kernel_rfl) ?_
    refine zu 1 (some 36) #[tt, tt, ff, ff, ff, ff, ff, ff, ff] (by kernel_rfl) ?_
    refine zu 3 (some 38) #[tt, tt, ff, tt, ff, ff, ff, ff, ff] (by kernel_rfl) ?_
    refine zu 4 (some 39) #[tt, tt, ff, tt, tt, ff, ff, ff, ff] (by kernel_rfl) ?_
    refine zu 5 (some 40) #[tt, tt, ff, tt, tt, tt, ff, ff, ff] (by kernel_rfl) ?_
    refine zt 2 (some 37) #[tt, tt, tt, tt, tt, tt, ff, ff, ff] (by kernel_rfl) hHeld ?_
    refine zt 6 (some 41) #[tt, tt, tt, tt, tt, tt, tt, ff, ff] (by kernel_rfl) hHeld ?_
    refine one_ (i := 7) (N := some 42) #[tt, tt, tt, tt, tt, tt, tt, tt, ff] rfl rfl (by kernel_rfl) (by decide) (fun K hK => ?_)
    refine goes_ Try.func78 (by kernel_rfl) rfl #[.agg #[.slice B0' tr.length d0', .int .i64 T, .slice (some ad) ch.length d2', .slice B3 wa.length d3], .int .i64 (rd_T69 ch i).f0] (by rfl) rfl rfl (by simp only [List.map_toArray, List.map_cons, List.map_nil]; rfl) ?_
    with_reducible refine (impl_trayAt.calls B0' d0' tr T (some ad) d2' ch B3 d3 wa (rd_T69 ch i).f0 t _ (Kd.C_drew HC0.out) ac.out (Kd.C_drew HC2.out) HL2.out (Kd.C_drew HC3.out) HL3.out A6.out).mono ?_
    rintro e w5 ⟨rfl, hb5⟩
    refine ⟨_, rfl, ?_⟩
    refine hK.out _ _ ⟨pw_cell_below hb5 hHeld.1, pw_cell_below hb5 hHeld.2.1, pw_cell_below hb5 hHeld.2.2.1, pw_cell_below hb5 hHeld.2.2.2.1, pw_cell_below hb5 hHeld.2.2.2.2⟩ (fun hHeld => ?_)
    clear hK K
    refine norm_ (a' := ?_) ?_ ?_
    rotate_left
    ·show Act.put _ (some 42) _ = _
     simp only [Act.put, zp, zq, zr, i64_w, i32_w]
     rfl
    refine zu 8 (some 4) #[tt, tt, tt, tt, tt, tt, tt, tt, tt] (by kernel_rfl) ?_
    refine done_ (by kernel_rfl) ?_
    have hbr : Below wr.heap.size wr w5 := below_then (below_drew (Below.refl _ _)) (Nat.le_refl _) hb5
    have HL5 := zK (HL.out.below hbr)
    have aa := zK (blk_below ae.out hbr)
    have HB5 := zK (Below.trans HB.out ⟨hbr.os, hbr.tape, hbr.output, hbr.size, fun k_ hk_ => hbr.block k_ (Nat.lt_of_lt_of_le hk_ HB.out.size)⟩)
    have HK5 := zK (show ∀ (gk : Nat) (ck : Array Value), gk ≠ g → w.heap[gk]? = some (.cells ck 28 (0, 0)) → w5.heap[gk]? = some (.cells ck 28 (0, 0)) from fun gk ck hne_ h_ => blk_below (HK.out gk ck hne_ h_) hbr)
    have C05 := zK (Kd.C_below HC0.out hbr)
    have C25 := zK (Kd.C_below HC2.out hbr)
    have C35 := zK (Kd.C_below HC3.out hbr)
    have hy0 : w5.cell? ⟨g, 0, none⟩ = some (.slice B0' tr.length d0') := (blk_cell aa.out 0).trans rfl
    have hy1 : w5.cell? ⟨g, 1, none⟩ = some (.int .i64 T) := (blk_cell aa.out 1).trans rfl
    have hy2 : w5.cell? ⟨g, 2, none⟩ = some (.slice (some ad) ch.length d2') := (blk_cell aa.out 2).trans rfl
    have hy3 : w5.cell? ⟨g, 3, none⟩ = some (.slice B3 wa.length d3) := (blk_cell aa.out 3).trans rfl
    have aj := zK (pw_cell_below hbr hx1)
    have ak := zK (pw_cell_below hbr hx2)
    have H := H'.out; clear H' hb5 hbr hz0 hz1 hz2 hz3 hx0 hx1 hx2 HL ae HB HK HC0 HC2 HC3
    by_cases c4 : 0 ≤ t
    ·rw [if_pos c4] at H
     by_cases c5h : t < (tr.length : Int)
     ·rw [if_pos c5h] at H
      replace H := Option.bind_eq_some_iff.mp H
      obtain ⟨v, A70, H⟩ := H
      have A7 := zK A70; clear A70; have H' := zK H; clear H
      obtain ⟨gT, eT, hbT, _, hcT, hfT, hLT⟩ := HL5.out.tray t c4 c5h 0
      cases eT
      have HBT := zK hbT; clear hbT hfT hLT; have p5 := eq_true c4
      have q5 : (t < ((tr.length : Nat) : Int)) = True := eq_true c5h
      go_wp2_with (first | ((with_reducible refine gate_callee (f := 79) rfl ?_); refine goesL_ (some 54) rfl rfl Try.func79 (by kernel_rfl) rfl #[.agg #[.slice (some ⟨gT, 0, none⟩) tr.length d0', .int .i64 T, .slice (some ad) ch.length d2', .slice B3 wa.length d3], .int .i64 (rd tr t)] rfl zg ?_; (with_reducible refine (impl_wantOf.calls (some ⟨gT, 0, none⟩) d0' tr T (some ad) d2' ch B3 d3 wa (rd tr t) v _ ?side1 ac.out ?side3 HL2.out ?side5 HL3.out A7.out).mono ?_); (case side1 => repeat (first | exact C05.out | (with_reducible refine Kd.C_alloc ?_ _) | (with_reducible refine Kd.C_drewN ?_ _) | (with_reducible refine Kd.C_drew ?_))); (case side3 => repeat (first | exact C25.out | (with_reducible refine Kd.C_alloc ?_ _) | (with_reducible refine Kd.C_drewN ?_ _) | (with_reducible refine Kd.C_drew ?_))); (case side5 => repeat (first | exact C35.out | (with_reducible refine Kd.C_alloc ?_ _) | (with_reducible refine Kd.C_drewN ?_ _) | (with_reducible refine Kd.C_drew ?_))); rintro e w7 ⟨rfl, hb7_⟩; refine ⟨_, rfl, ?_⟩; have hb7 : Below w5.heap.size w5 w7 := below_step (by repeat (first | exact Below.refl _ _ | apply zB | apply zC | apply zE)) hb7_; clear hb7_))
      have al := zK (HL5.out.below hb7)
      have af := zK (blk_below aa.out hb7)
      have HB7 := zK (Below.trans HB5.out ⟨hb7.os, hb7.tape, hb7.output, hb7.size, fun k_ hk_ => hb7.block k_ (Nat.lt_of_lt_of_le hk_ HB5.out.size)⟩)
      have am := zK (show ∀ (gk : Nat) (ck : Array Value), gk ≠ g → w.heap[gk]? = some (.cells ck 28 (0, 0)) → w7.heap[gk]? = some (.cells ck 28 (0, 0)) from fun gk ck hne_ h_ => blk_below (HK5.out gk ck hne_ h_) hb7)
      have C37 := zK (Kd.C_below C35.out hb7)
      have an : w7.cell? ⟨g, 3, none⟩ = some (.slice B3 wa.length d3) := (blk_cell af.out 3).trans rfl
      have ao := pw_cell_below hb7 aj.out; have ap := pw_cell_below hb7 ak.out; have H := H'.out; clear H' hb7 hy0 hy1 hy2 hy3 hcT HL5 aa HB5 HK5 C05 C25 C35 aj ak
      by_cases c6 : rd tr t = 0
      ·rw [if_pos c6] at H
       have c6a : (rd tr t == 0) = true := beq_iff_eq.mpr c6
       have H' := zK H; clear H
       refine start_ (n := 31) (S := fun w' => w'.cell? ⟨g, 3, none⟩ = some (.slice B3 wa.length d3) ∧ w'.cell? ⟨(ad.add (i.toNat * 3)).block, (ad.add (i.toNat * 3)).off + 1, none⟩ = some (.int .i64 (rd_T69 ch i).f1) ∧ w'.cell? ⟨(ad.add (i.toNat * 3)).block, (ad.add (i.toNat * 3)).off + 2, none⟩ = some (.slice A5 (rd_T69 ch i).f2.length c5)) (ds := []) #[ff, ff, ff, ff, ff, ff, ff, ff, ff, ff, ff, ff, ff, ff, ff, ff, ff, ff, ff, ff, ff, ff, ff, ff, ff, ff, ff, ff, ff, ff, ff] (by kernel_rfl) rfl rfl ⟨an, ao, ap⟩ (fun hHeld => ?_)
       refine zu 0 (some 55) #[tt, ff, ff, ff, ff, ff, ff, ff, ff, ff, ff, ff, ff, ff, ff, ff, ff, ff, ff, ff, ff, ff, ff, ff, ff, ff, ff, ff, ff, ff, ff] (by kernel_rfl) ?_
       refine zu 1 (some 56) #[tt, tt, ff, ff, ff, ff, ff, ff, ff, ff, ff, ff, ff, ff, ff, ff, ff, ff, ff, ff, ff, ff, ff, ff, ff, ff, ff, ff, ff, ff, ff] (by kernel_rfl) ?_
       refine zu 2 (some 57) #[tt, tt, tt, ff, ff, ff, ff, ff, ff, ff, ff, ff, ff, ff, ff, ff, ff, ff, ff, ff, ff, ff, ff, ff, ff, ff, ff, ff, ff, ff, ff] (by kernel_rfl) ?_
       refine pure_ (i := 3) (N := some 58) (v := undef) (a' := ?_) #[tt, tt, tt, tt, ff, ff, ff, ff, ff, ff, ff, ff, ff, ff, ff, ff, ff, ff, ff, ff, ff, ff, ff, ff, ff, ff, ff, ff, ff, ff, ff] rfl rfl (by kernel_rfl) (fun _ _ _ h => h) (Or.inr ⟨by rfl, rfl⟩) ?_ ?_
       rotate_left
       ·simp only [Act.put, zp, zq, zr, i64_w, i32_w]
        rfl
       refine pure_ (i := 4) (N := some 59) (v := undef) (a' := ?_) #[tt, tt, tt, tt, tt, ff, ff, ff, ff, ff, ff, ff, ff, ff, ff, ff, ff, ff, ff, ff, ff, ff, ff, ff, ff, ff, ff, ff, ff, ff, ff] rfl rfl (by kernel_rfl) (fun _ _ _ h => h) (Or.inr ⟨by rfl, rfl⟩) ?_ ?_
       rotate_left
       ·simp only [Act.put, zp, zq, zr, i64_w, i32_w]
        rfl
       refine zu 5 (some 60) #[tt, tt, tt, tt, tt, tt, ff, ff, ff, ff, ff, ff, ff, ff, ff, ff, ff, ff, ff, ff, ff, ff, ff, ff, ff, ff, ff, ff, ff, ff, ff] (by kernel_rfl) ?_
       refine zu 6 (some 61) #[tt, tt, tt, tt, tt, tt, tt, ff, ff, ff, ff, ff, ff, ff, ff, ff, ff, ff, ff, ff, ff, ff, ff, ff, ff, ff, ff, ff, ff, ff, ff] (by kernel_rfl) ?_
       refine pure_ (i := 7) (N := some 62) (v := undef) (a' := ?_) #[tt, tt, tt, tt, tt, tt, tt, tt, ff, ff, ff, ff, ff, ff, ff, ff, ff, ff, ff, ff, ff, ff, ff, ff, ff, ff, ff, ff, ff, ff, ff] rfl rfl (by kernel_rfl) (fun _ _ _ h => h) (Or.inr ⟨by rfl, rfl⟩) ?_ ?_
       rotate_left
       ·simp only [Act.put, zp, zq, zr, i64_w, i32_w]
        rfl
       refine pure_ (i := 8) (N := some 63) (v := undef) (a' := ?_) #[tt, tt, tt, tt, tt, tt, tt, tt, tt, ff, ff, ff, ff, ff, ff, ff, ff, ff, ff, ff, ff, ff, ff, ff, ff, ff, ff, ff, ff, ff, ff] rfl rfl (by kernel_rfl) (fun _ _ _ h => h) (Or.inr ⟨by rfl, rfl⟩) ?_ ?_
       rotate_left
       ·simp only [Act.put, zp, zq, zr, i64_w, i32_w]
        rfl
       refine pure_ (i := 9) (N := some 64) (v := undef) (a' := ?_) #[tt, tt, tt, tt, tt, tt, tt, tt, tt, tt, ff, ff, ff, ff, ff, ff, ff, ff, ff, ff, ff, ff, ff, ff, ff, ff, ff, ff, ff, ff, ff] rfl rfl (by kernel_rfl) (fun _ _ _ h => h) (Or.inr ⟨by rfl, rfl⟩) ?_ ?_
       rotate_left
       ·simp only [Act.put, zp, zq, zr, i64_w, i32_w]
        rfl
       refine pure_ (i := 10) (N := some 65) (v := undef) (a' := ?_) #[tt, tt, tt, tt, tt, tt, tt, tt, tt, tt, tt, ff, ff, ff, ff, ff, ff, ff, ff, ff, ff, ff, ff, ff, ff, ff, ff, ff, ff, ff, ff] rfl rfl (by kernel_rfl) (fun _ _ _ h => h) (Or.inr ⟨by rfl, rfl⟩) ?_ ?_
       rotate_left
       ·simp only [Act.put, zp, zq, zr, i64_w, i32_w]
        rfl
       refine pure_ (i := 11) (N := some 66) (v := undef) (a' := ?_) #[tt, tt, tt, tt, tt, tt, tt, tt, tt, tt, tt, tt, ff, ff, ff, ff, ff, ff, ff, ff, ff, ff, ff, ff, ff, ff, ff, ff, ff, ff, ff] rfl rfl (by kernel_rfl) (fun _ _ _ h => h) (Or.inr ⟨by rfl, rfl⟩) ?_ ?_
       rotate_left
       ·simp only [Act.put, zp, zq, zr, i64_w, i32_w]
        rfl
       refine pure_ (i := 12) (N := some 67) (v := undef) (a' := ?_) #[tt, tt, tt, tt, tt, tt, tt, tt, tt, tt, tt, tt, tt, ff, ff, ff, ff, ff, ff, ff, ff, ff, ff, ff, ff, ff, ff, ff, ff, ff, ff] rfl rfl (by kernel_rfl) (fun _ _ _ h => h) (Or.inr ⟨by rfl, rfl⟩) ?_ ?_
       rotate_left
       ·simp only [Act.put, zp, zq, zr, i64_w, i32_w]
        rfl
       refine pure_ (i := 13) (N := some 68) (v := undef) (a' := ?_) #[tt, tt, tt, tt, tt, tt, tt, tt, tt, tt, tt, tt, tt, tt, ff, ff, ff, ff, ff, ff, ff, ff, ff, ff, ff, ff, ff, ff, ff, ff, ff] rfl rfl (by kernel_rfl) (fun _ _ _ h => h) (Or.inr ⟨by rfl, rfl⟩) ?_ ?_
       rotate_left
       ·simp only [Act.put, zp, zq, zr, i64_w, i32_w]
        rfl
       refine pure_ (i := 14) (N := some 69) (v := undef) (a' := ?_) #[tt, tt, tt, tt, tt, tt, tt, tt, tt, tt, tt, tt, tt, tt, tt, ff, ff, ff, ff, ff, ff, ff, ff, ff, ff, ff, ff, ff, ff, ff, ff] rfl rfl (by kernel_rfl) (fun _ _ _ h => h) (Or.inr ⟨by rfl, rfl⟩) ?_ ?_
       rotate_left
       ·simp only [Act.put, zp, zq, zr, i64_w, i32_w]
        rfl
       refine pure_ (i := 15) (N := some 70) (v := undef) (a' := ?_) #[tt, tt, tt, tt, tt, tt, tt, tt, tt, tt, tt, tt, tt, tt, tt, tt, ff, ff, ff, ff, ff, ff, ff, ff, ff, ff, ff, ff, ff, ff, ff] rfl rfl (by kernel_rfl) (fun _ _ _ h => h) (Or.inr ⟨by rfl, rfl⟩) ?_ ?_
       rotate_left
       ·simp only [Act.put, zp, zq, zr, i64_w, i32_w]
        rfl
       refine pure_ (i := 16) (N := some 71) (v := undef) (a' := ?_) #[tt, tt, tt, tt, tt, tt, tt, tt, tt, tt, tt, tt, tt, tt, tt, tt, tt, ff, ff, ff, ff, ff, ff, ff, ff, ff, ff, ff, ff, ff, ff] rfl rfl (by kernel_rfl) (fun _ _ _ h => h) (Or.inr ⟨by rfl, rfl⟩) ?_ ?_
       rotate_left
       ·simp only [Act.put, zp, zq, zr, i64_w, i32_w]
        rfl
       refine zu 17 (some 72) #[tt, tt, tt, tt, tt, tt, tt, tt, tt, tt, tt, tt, tt, tt, tt, tt, tt, tt, ff, ff, ff, ff, ff, ff, ff, ff, ff, ff, ff, ff, ff] (by kernel_rfl) ?_
       refine zu 18 (some 73) #[tt, tt, tt, tt, tt, tt, tt, tt, tt, tt, tt, tt, tt, tt, tt, tt, tt, tt, tt, ff, ff, ff, ff, ff, ff, ff, ff, ff, ff, ff, ff] (by kernel_rfl) ?_
       refine pure_ (i := 19) (N := some 74) (v := undef) (a' := ?_) #[tt, tt, tt, tt, tt, tt, tt, tt, tt, tt, tt, tt, tt, tt, tt, tt, tt, tt, tt, tt, ff, ff, ff, ff, ff, ff, ff, ff, ff, ff, ff] rfl rfl (by kernel_rfl) (fun _ _ _ h => h) (Or.inr ⟨by rfl, rfl⟩) ?_ ?_
       rotate_left
       ·simp only [Act.put, zp, zq, zr, i64_w, i32_w]
        rfl
       refine pure_ (i := 20) (N := some 75) (v := undef) (a' := ?_) #[tt, tt, tt, tt, tt, tt, tt, tt, tt, tt, tt, tt, tt, tt, tt, tt, tt, tt, tt, tt, tt, ff, ff, ff, ff, ff, ff, ff, ff, ff, ff] rfl rfl (by kernel_rfl) (fun _ _ _ h => h) (Or.inr ⟨by rfl, rfl⟩) ?_ ?_
       rotate_left
       ·simp only [Act.put, zp, zq, zr, i64_w, i32_w]
        rfl
       refine pure_ (i := 21) (N := some 76) (v := undef) (a' := ?_) #[tt, tt, tt, tt, tt, tt, tt, tt, tt, tt, tt, tt, tt, tt, tt, tt, tt, tt, tt, tt, tt, tt, ff, ff, ff, ff, ff, ff, ff, ff, ff] rfl rfl (by kernel_rfl) (fun _ _ _ h => h) (Or.inr ⟨by rfl, rfl⟩) ?_ ?_
       rotate_left
       ·simp only [Act.put, zp, zq, zr, i64_w, i32_w]
        rfl
       refine pure_ (i := 22) (N := some 77) (v := undef) (a' := ?_) #[tt, tt, tt, tt, tt, tt, tt, tt, tt, tt, tt, tt, tt, tt, tt, tt, tt, tt, tt, tt, tt, tt, tt, ff, ff, ff, ff, ff, ff, ff, ff] rfl rfl (by kernel_rfl) (fun _ _ _ h => h) (Or.inr ⟨by rfl, rfl⟩) ?_ ?_
       rotate_left
       ·simp only [Act.put, zp, zq, zr, i64_w, i32_w]
        rfl
       refine pure_ (i := 23) (N := some 78) (v := undef) (a' := ?_) #[tt, tt, tt, tt, tt, tt, tt, tt, tt, tt, tt, tt, tt, tt, tt, tt, tt, tt, tt, tt, tt, tt, tt, tt, ff, ff, ff, ff, ff, ff, ff] rfl rfl (by kernel_rfl) (fun _ _ _ h => h) (Or.inr ⟨by rfl, rfl⟩) ?_ ?_
       rotate_left
       ·simp only [Act.put, zp, zq, zr, i64_w, i32_w]
        rfl
       refine pure_ (i := 24) (N := some 79) (v := undef) (a' := ?_) #[tt, tt, tt, tt, tt, tt, tt, tt, tt, tt, tt, tt, tt, tt, tt, tt, tt, tt, tt, tt, tt, tt, tt, tt, tt, ff, ff, ff, ff, ff, ff] rfl rfl (by kernel_rfl) (fun _ _ _ h => h) (Or.inr ⟨by rfl, rfl⟩) ?_ ?_
       rotate_left
       ·simp only [Act.put, zp, zq, zr, i64_w, i32_w]
        rfl
       refine pure_ (i := 25) (N := some 80) (v := undef) (a' := ?_) #[tt, tt, tt, tt, tt, tt, tt, tt, tt, tt, tt, tt, tt, tt, tt, tt, tt, tt, tt, tt, tt, tt, tt, tt, tt, tt, ff, ff, ff, ff, ff] rfl rfl (by kernel_rfl) (fun _ _ _ h => h) (Or.inr ⟨by rfl, rfl⟩) ?_ ?_
       rotate_left
       ·simp only [Act.put, zp, zq, zr, i64_w, i32_w]
        rfl
       refine pure_ (i := 26) (N := some 81) (v := undef) (a' := ?_) #[tt, tt, tt, tt, tt, tt, tt, tt, tt, tt, tt, tt, tt, tt, tt, tt, tt, tt, tt, tt, tt, tt, tt, tt, tt, tt, tt, ff, ff, ff, ff] rfl rfl (by kernel_rfl) (fun _ _ _ h => h) (Or.inr ⟨by rfl, rfl⟩) ?_ ?_
       rotate_left
       ·simp only [Act.put, zp, zq, zr, i64_w, i32_w]
        rfl
       refine pure_ (i := 27) (N := some 82) (v := undef) (a' := ?_) #[tt, tt, tt, tt, tt, tt, tt, tt, tt, tt, tt, tt, tt, tt, tt, tt, tt, tt, tt, tt, tt, tt, tt, tt, tt, tt, tt, tt, ff, ff, ff] rfl rfl (by kernel_rfl) (fun _ _ _ h => h) (Or.inr ⟨by rfl, rfl⟩) ?_ ?_
       rotate_left
       ·simp only [Act.put, zp, zq, zr, i64_w, i32_w]
        rfl
       refine pure_ (i := 28) (N := some 83) (v := undef) (a' := ?_) #[tt, tt, tt, tt, tt, tt, tt, tt, tt, tt, tt, tt, tt, tt, tt, tt, tt, tt, tt, tt, tt, tt, tt, tt, tt, tt, tt, tt, tt, ff, ff] rfl rfl (by kernel_rfl) (fun _ _ _ h => h) (Or.inr ⟨by rfl, rfl⟩) ?_ ?_
       rotate_left
       ·simp only [Act.put, zp, zq, zr, i64_w, i32_w]
        rfl
       refine pure_ (i := 29) (N := some 84) (v := undef) (a' := ?_) #[tt, tt, tt, tt, tt, tt, tt, tt, tt, tt, tt, tt, tt, tt, tt, tt, tt, tt, tt, tt, tt, tt, tt, tt, tt, tt, tt, tt, tt, tt, ff] rfl rfl (by kernel_rfl) (fun _ _ _ h => h) (Or.inr ⟨by rfl, rfl⟩) ?_ ?_
       rotate_left
       ·simp only [Act.put, zp, zq, zr, i64_w, i32_w]
        rfl
       refine zu 30 (some 85) #[tt, tt, tt, tt, tt, tt, tt, tt, tt, tt, tt, tt, tt, tt, tt, tt, tt, tt, tt, tt, tt, tt, tt, tt, tt, tt, tt, tt, tt, tt, tt] (by kernel_rfl) ?_
       refine done_ (by kernel_rfl) ?_
       have hbr : Below w7.heap.size w7 w7.drew := below_drew (Below.refl _ _)
       have n1 := zK (al.out.below hbr)
       have n3 := zK (blk_below af.out hbr)
       have n4 := zK (Below.trans HB7.out ⟨hbr.os, hbr.tape, hbr.output, hbr.size, fun k_ hk_ => hbr.block k_ (Nat.lt_of_lt_of_le hk_ HB7.out.size)⟩)
       have n5 := zK (show ∀ (gk : Nat) (ck : Array Value), gk ≠ g → w.heap[gk]? = some (.cells ck 28 (0, 0)) → w7.drew.heap[gk]? = some (.cells ck 28 (0, 0)) from fun gk ck hne_ h_ => blk_below (am.out gk ck hne_ h_) hbr)
       go_wp2
       go_roundg k1
       case measure => have := ab.out; omega
       case rel => exact ⟨wrap64 (i + 1), tr, ch, rfl, by first | rfl | exact HLEN.out | (rw [List.length_set]; first | rfl | exact HLEN.out), H', ⟨by have := ab.out; omega⟩, n1, n3, n4, n5⟩
      ·rw [if_neg c6] at H
       have c6a : (rd tr t == 0) = false := beq_eq_false_iff_ne.mpr c6
       by_cases c7h : v < 0
       ·rw [if_pos c7h] at H
        have c7b : decide (v < 0) = true := decide_eq_true c7h
        have H' := zK H; clear H
        refine start_ (n := 31) (S := fun w' => w'.cell? ⟨g, 3, none⟩ = some (.slice B3 wa.length d3) ∧ w'.cell? ⟨(ad.add (i.toNat * 3)).block, (ad.add (i.toNat * 3)).off + 1, none⟩ = some (.int .i64 (rd_T69 ch i).f1) ∧ w'.cell? ⟨(ad.add (i.toNat * 3)).block, (ad.add (i.toNat * 3)).off + 2, none⟩ = some (.slice A5 (rd_T69 ch i).f2.length c5)) (ds := []) #[ff, ff, ff, ff, ff, ff, ff, ff, ff, ff, ff, ff, ff, ff, ff, ff, ff, ff, ff, ff, ff, ff, ff, ff, ff, ff, ff, ff, ff, ff, ff] (by kernel_rfl) rfl rfl ⟨an, ao, ap⟩ (fun hHeld => ?_)
        refine zu 0 (some 55) #[tt, ff, ff, ff, ff, ff, ff, ff, ff, ff, ff, ff, ff, ff, ff, ff, ff, ff, ff, ff, ff, ff, ff, ff, ff, ff, ff, ff, ff, ff, ff] (by kernel_rfl) ?_
        refine zu 1 (some 56) #[tt, tt, ff, ff, ff, ff, ff, ff, ff, ff, ff, ff, ff, ff, ff, ff, ff, ff, ff, ff, ff, ff, ff, ff, ff, ff, ff, ff, ff, ff, ff] (by kernel_rfl) ?_
        refine zu 2 (some 57) #[tt, tt, tt, ff, ff, ff, ff, ff, ff, ff, ff, ff, ff, ff, ff, ff, ff, ff, ff, ff, ff, ff, ff, ff, ff, ff, ff, ff, ff, ff, ff] (by kernel_rfl) ?_
        refine zu 3 (some 58) #[tt, tt, tt, tt, ff, ff, ff, ff, ff, ff, ff, ff, ff, ff, ff, ff, ff, ff, ff, ff, ff, ff, ff, ff, ff, ff, ff, ff, ff, ff, ff] (by kernel_rfl) ?_
        refine zu 4 (some 59) #[tt, tt, tt, tt, tt, ff, ff, ff, ff, ff, ff, ff, ff, ff, ff, ff, ff, ff, ff, ff, ff, ff, ff, ff, ff, ff, ff, ff, ff, ff, ff] (by kernel_rfl) ?_
        refine zu 5 (some 60) #[tt, tt, tt, tt, tt, tt, ff, ff, ff, ff, ff, ff, ff, ff, ff, ff, ff, ff, ff, ff, ff, ff, ff, ff, ff, ff, ff, ff, ff, ff, ff] (by kernel_rfl) ?_
        refine zu 6 (some 61) #[tt, tt, tt, tt, tt, tt, tt, ff, ff, ff, ff, ff, ff, ff, ff, ff, ff, ff, ff, ff, ff, ff, ff, ff, ff, ff, ff, ff, ff, ff, ff] (by kernel_rfl) ?_
        refine pure_ (i := 7) (N := some 62) (v := undef) (a' := ?_) #[tt, tt, tt, tt, tt, tt, tt, tt, ff, ff, ff, ff, ff, ff, ff, ff, ff, ff, ff, ff, ff, ff, ff, ff, ff, ff, ff, ff, ff, ff, ff] rfl rfl (by kernel_rfl) (fun _ _ _ h => h) (Or.inr ⟨by rfl, rfl⟩) ?_ ?_
        rotate_left
        ·simp only [Act.put, zp, zq, zr, i64_w, i32_w]
         rfl
        refine pure_ (i := 8) (N := some 63) (v := undef) (a' := ?_) #[tt, tt, tt, tt, tt, tt, tt, tt, tt, ff, ff, ff, ff, ff, ff, ff, ff, ff, ff, ff, ff, ff, ff, ff, ff, ff, ff, ff, ff, ff, ff] rfl rfl (by kernel_rfl) (fun _ _ _ h => h) (Or.inr ⟨by rfl, rfl⟩) ?_ ?_
        rotate_left
        ·simp only [Act.put, zp, zq, zr, i64_w, i32_w]
         rfl
        refine pure_ (i := 9) (N := some 64) (v := undef) (a' := ?_) #[tt, tt, tt, tt, tt, tt, tt, tt, tt, tt, ff, ff, ff, ff, ff, ff, ff, ff, ff, ff, ff, ff, ff, ff, ff, ff, ff, ff, ff, ff, ff] rfl rfl (by kernel_rfl) (fun _ _ _ h => h) (Or.inr ⟨by rfl, rfl⟩) ?_ ?_
        rotate_left
        ·simp only [Act.put, zp, zq, zr, i64_w, i32_w]
         rfl
        refine pure_ (i := 10) (N := some 65) (v := undef) (a' := ?_) #[tt, tt, tt, tt, tt, tt, tt, tt, tt, tt, tt, ff, ff, ff, ff, ff, ff, ff, ff, ff, ff, ff, ff, ff, ff, ff, ff, ff, ff, ff, ff] rfl rfl (by kernel_rfl) (fun _ _ _ h => h) (Or.inr ⟨by rfl, rfl⟩) ?_ ?_
        rotate_left
        ·simp only [Act.put, zp, zq, zr, i64_w, i32_w]
         rfl
        refine pure_ (i := 11) (N := some 66) (v := undef) (a' := ?_) #[tt, tt, tt, tt, tt, tt, tt, tt, tt, tt, tt, tt, ff, ff, ff, ff, ff, ff, ff, ff, ff, ff, ff, ff, ff, ff, ff, ff, ff, ff, ff] rfl rfl (by kernel_rfl) (fun _ _ _ h => h) (Or.inr ⟨by rfl, rfl⟩) ?_ ?_
        rotate_left
        ·simp only [Act.put, zp, zq, zr, i64_w, i32_w]
         rfl
        refine pure_ (i := 12) (N := some 67) (v := undef) (a' := ?_) #[tt, tt, tt, tt, tt, tt, tt, tt, tt, tt, tt, tt, tt, ff, ff, ff, ff, ff, ff, ff, ff, ff, ff, ff, ff, ff, ff, ff, ff, ff, ff] rfl rfl (by kernel_rfl) (fun _ _ _ h => h) (Or.inr ⟨by rfl, rfl⟩) ?_ ?_
        rotate_left
        ·simp only [Act.put, zp, zq, zr, i64_w, i32_w]
         rfl
        refine pure_ (i := 13) (N := some 68) (v := undef) (a' := ?_) #[tt, tt, tt, tt, tt, tt, tt, tt, tt, tt, tt, tt, tt, tt, ff, ff, ff, ff, ff, ff, ff, ff, ff, ff, ff, ff, ff, ff, ff, ff, ff] rfl rfl (by kernel_rfl) (fun _ _ _ h => h) (Or.inr ⟨by rfl, rfl⟩) ?_ ?_
        rotate_left
        ·simp only [Act.put, zp, zq, zr, i64_w, i32_w]
         rfl
        refine pure_ (i := 14) (N := some 69) (v := undef) (a' := ?_) #[tt, tt, tt, tt, tt, tt, tt, tt, tt, tt, tt, tt, tt, tt, tt, ff, ff, ff, ff, ff, ff, ff, ff, ff, ff, ff, ff, ff, ff, ff, ff] rfl rfl (by kernel_rfl) (fun _ _ _ h => h) (Or.inr ⟨by rfl, rfl⟩) ?_ ?_
        rotate_left
        ·simp only [Act.put, zp, zq, zr, i64_w, i32_w]
         rfl
        refine pure_ (i := 15) (N := some 70) (v := undef) (a' := ?_) #[tt, tt, tt, tt, tt, tt, tt, tt, tt, tt, tt, tt, tt, tt, tt, tt, ff, ff, ff, ff, ff, ff, ff, ff, ff, ff, ff, ff, ff, ff, ff] rfl rfl (by kernel_rfl) (fun _ _ _ h => h) (Or.inr ⟨by rfl, rfl⟩) ?_ ?_
        rotate_left
        ·simp only [Act.put, zp, zq, zr, i64_w, i32_w]
         rfl
        refine pure_ (i := 16) (N := some 71) (v := undef) (a' := ?_) #[tt, tt, tt, tt, tt, tt, tt, tt, tt, tt, tt, tt, tt, tt, tt, tt, tt, ff, ff, ff, ff, ff, ff, ff, ff, ff, ff, ff, ff, ff, ff] rfl rfl (by kernel_rfl) (fun _ _ _ h => h) (Or.inr ⟨by rfl, rfl⟩) ?_ ?_
        rotate_left
        ·simp only [Act.put, zp, zq, zr, i64_w, i32_w]
         rfl
        refine zu 17 (some 72) #[tt, tt, tt, tt, tt, tt, tt, tt, tt, tt, tt, tt, tt, tt, tt, tt, tt, tt, ff, ff, ff, ff, ff, ff, ff, ff, ff, ff, ff, ff, ff] (by kernel_rfl) ?_
        refine zu 18 (some 73) #[tt, tt, tt, tt, tt, tt, tt, tt, tt, tt, tt, tt, tt, tt, tt, tt, tt, tt, tt, ff, ff, ff, ff, ff, ff, ff, ff, ff, ff, ff, ff] (by kernel_rfl) ?_
        refine pure_ (i := 19) (N := some 74) (v := undef) (a' := ?_) #[tt, tt, tt, tt, tt, tt, tt, tt, tt, tt, tt, tt, tt, tt, tt, tt, tt, tt, tt, tt, ff, ff, ff, ff, ff, ff, ff, ff, ff, ff, ff] rfl rfl (by kernel_rfl) (fun _ _ _ h => h) (Or.inr ⟨by rfl, rfl⟩) ?_ ?_
        rotate_left
        ·simp only [Act.put, zp, zq, zr, i64_w, i32_w]
         rfl
        refine pure_ (i := 20) (N := some 75) (v := undef) (a' := ?_) #[tt, tt, tt, tt, tt, tt, tt, tt, tt, tt, tt, tt, tt, tt, tt, tt, tt, tt, tt, tt, tt, ff, ff, ff, ff, ff, ff, ff, ff, ff, ff] rfl rfl (by kernel_rfl) (fun _ _ _ h => h) (Or.inr ⟨by rfl, rfl⟩) ?_ ?_
        rotate_left
        ·simp only [Act.put, zp, zq, zr, i64_w, i32_w]
         rfl
        refine pure_ (i := 21) (N := some 76) (v := undef) (a' := ?_) #[tt, tt, tt, tt, tt, tt, tt, tt, tt, tt, tt, tt, tt, tt, tt, tt, tt, tt, tt, tt, tt, tt, ff, ff, ff, ff, ff, ff, ff, ff, ff] rfl rfl (by kernel_rfl) (fun _ _ _ h => h) (Or.inr ⟨by rfl, rfl⟩) ?_ ?_
        rotate_left
        ·simp only [Act.put, zp, zq, zr, i64_w, i32_w]
         rfl
        refine pure_ (i := 22) (N := some 77) (v := undef) (a' := ?_) #[tt, tt, tt, tt, tt, tt, tt, tt, tt, tt, tt, tt, tt, tt, tt, tt, tt, tt, tt, tt, tt, tt, tt, ff, ff, ff, ff, ff, ff, ff, ff] rfl rfl (by kernel_rfl) (fun _ _ _ h => h) (Or.inr ⟨by rfl, rfl⟩) ?_ ?_
        rotate_left
        ·simp only [Act.put, zp, zq, zr, i64_w, i32_w]
         rfl
        refine pure_ (i := 23) (N := some 78) (v := undef) (a' := ?_) #[tt, tt, tt, tt, tt, tt, tt, tt, tt, tt, tt, tt, tt, tt, tt, tt, tt, tt, tt, tt, tt, tt, tt, tt, ff, ff, ff, ff, ff, ff, ff] rfl rfl (by kernel_rfl) (fun _ _ _ h => h) (Or.inr ⟨by rfl, rfl⟩) ?_ ?_
        rotate_left
        ·simp only [Act.put, zp, zq, zr, i64_w, i32_w]
         rfl
        refine pure_ (i := 24) (N := some 79) (v := undef) (a' := ?_) #[tt, tt, tt, tt, tt, tt, tt, tt, tt, tt, tt, tt, tt, tt, tt, tt, tt, tt, tt, tt, tt, tt, tt, tt, tt, ff, ff, ff, ff, ff, ff] rfl rfl (by kernel_rfl) (fun _ _ _ h => h) (Or.inr ⟨by rfl, rfl⟩) ?_ ?_
        rotate_left
        ·simp only [Act.put, zp, zq, zr, i64_w, i32_w]
         rfl
        refine pure_ (i := 25) (N := some 80) (v := undef) (a' := ?_) #[tt, tt, tt, tt, tt, tt, tt, tt, tt, tt, tt, tt, tt, tt, tt, tt, tt, tt, tt, tt, tt, tt, tt, tt, tt, tt, ff, ff, ff, ff, ff] rfl rfl (by kernel_rfl) (fun _ _ _ h => h) (Or.inr ⟨by rfl, rfl⟩) ?_ ?_
        rotate_left
        ·simp only [Act.put, zp, zq, zr, i64_w, i32_w]
         rfl
        refine pure_ (i := 26) (N := some 81) (v := undef) (a' := ?_) #[tt, tt, tt, tt, tt, tt, tt, tt, tt, tt, tt, tt, tt, tt, tt, tt, tt, tt, tt, tt, tt, tt, tt, tt, tt, tt, tt, ff, ff, ff, ff] rfl rfl (by kernel_rfl) (fun _ _ _ h => h) (Or.inr ⟨by rfl, rfl⟩) ?_ ?_
        rotate_left
        ·simp only [Act.put, zp, zq, zr, i64_w, i32_w]
         rfl
        refine pure_ (i := 27) (N := some 82) (v := undef) (a' := ?_) #[tt, tt, tt, tt, tt, tt, tt, tt, tt, tt, tt, tt, tt, tt, tt, tt, tt, tt, tt, tt, tt, tt, tt, tt, tt, tt, tt, tt, ff, ff, ff] rfl rfl (by kernel_rfl) (fun _ _ _ h => h) (Or.inr ⟨by rfl, rfl⟩) ?_ ?_
        rotate_left
        ·simp only [Act.put, zp, zq, zr, i64_w, i32_w]
         rfl
        refine pure_ (i := 28) (N := some 83) (v := undef) (a' := ?_) #[tt, tt, tt, tt, tt, tt, tt, tt, tt, tt, tt, tt, tt, tt, tt, tt, tt, tt, tt, tt, tt, tt, tt, tt, tt, tt, tt, tt, tt, ff, ff] rfl rfl (by kernel_rfl) (fun _ _ _ h => h) (Or.inr ⟨by rfl, rfl⟩) ?_ ?_
        rotate_left
        ·simp only [Act.put, zp, zq, zr, i64_w, i32_w]
         rfl
        refine pure_ (i := 29) (N := some 84) (v := undef) (a' := ?_) #[tt, tt, tt, tt, tt, tt, tt, tt, tt, tt, tt, tt, tt, tt, tt, tt, tt, tt, tt, tt, tt, tt, tt, tt, tt, tt, tt, tt, tt, tt, ff] rfl rfl (by kernel_rfl) (fun _ _ _ h => h) (Or.inr ⟨by rfl, rfl⟩) ?_ ?_
        rotate_left
        ·simp only [Act.put, zp, zq, zr, i64_w, i32_w]
         rfl
        refine zu 30 (some 85) #[tt, tt, tt, tt, tt, tt, tt, tt, tt, tt, tt, tt, tt, tt, tt, tt, tt, tt, tt, tt, tt, tt, tt, tt, tt, tt, tt, tt, tt, tt, tt] (by kernel_rfl) ?_
        refine done_ (by kernel_rfl) ?_
        have hbr : Below w7.heap.size w7 w7.drew := below_drew (Below.refl _ _)
        have n1 := zK (al.out.below hbr)
        have n3 := zK (blk_below af.out hbr)
        have n4 := zK (Below.trans HB7.out ⟨hbr.os, hbr.tape, hbr.output, hbr.size, fun k_ hk_ => hbr.block k_ (Nat.lt_of_lt_of_le hk_ HB7.out.size)⟩)
        have n5 := zK (show ∀ (gk : Nat) (ck : Array Value), gk ≠ g → w.heap[gk]? = some (.cells ck 28 (0, 0)) → w7.drew.heap[gk]? = some (.cells ck 28 (0, 0)) from fun gk ck hne_ h_ => blk_below (am.out gk ck hne_ h_) hbr)
        go_wp2
        go_roundg k1
        case measure => have := ab.out; omega
        case rel => exact ⟨wrap64 (i + 1), tr, ch, rfl, by first | rfl | exact HLEN.out | (rw [List.length_set]; first | rfl | exact HLEN.out), H', ⟨by have := ab.out; omega⟩, n1, n3, n4, n5⟩
       ·rw [if_neg c7h] at H
        have c7b : decide (v < 0) = false := decide_eq_false c7h
        by_cases c8 : ((rd_T69 ch i).f2.length : Int) ≥ (rd_T69 ch i).f1
        ·rw [if_pos c8] at H
         have c8b : decide (((rd_T69 ch i).f2.length : Int) ≥ (rd_T69 ch i).f1) = true := decide_eq_true c8
         have H' := zK H; clear H
         refine start_ (n := 31) (S := fun w' => w'.cell? ⟨g, 3, none⟩ = some (.slice B3 wa.length d3) ∧ w'.cell? ⟨(ad.add (i.toNat * 3)).block, (ad.add (i.toNat * 3)).off + 1, none⟩ = some (.int .i64 (rd_T69 ch i).f1) ∧ w'.cell? ⟨(ad.add (i.toNat * 3)).block, (ad.add (i.toNat * 3)).off + 2, none⟩ = some (.slice A5 (rd_T69 ch i).f2.length c5)) (ds := []) #[ff, ff, ff, ff, ff, ff, ff, ff, ff, ff, ff, ff, ff, ff, ff, ff, ff, ff, ff, ff, ff, ff, ff, ff, ff, ff, ff, ff, ff, ff, ff] (by kernel_rfl) rfl rfl ⟨an, ao, ap⟩ (fun hHeld => ?_)
         refine zu 0 (some 55) #[tt, ff, ff, ff, ff, ff, ff, ff, ff, ff, ff, ff, ff, ff, ff, ff, ff, ff, ff, ff, ff, ff, ff, ff, ff, ff, ff, ff, ff, ff, ff] (by kernel_rfl) ?_
         refine zu 1 (some 56) #[tt, tt, ff, ff, ff, ff, ff, ff, ff, ff, ff, ff, ff, ff, ff, ff, ff, ff, ff, ff, ff, ff, ff, ff, ff, ff, ff, ff, ff, ff, ff] (by kernel_rfl) ?_
         refine zu 2 (some 57) #[tt, tt, tt, ff, ff, ff, ff, ff, ff, ff, ff, ff, ff, ff, ff, ff, ff, ff, ff, ff, ff, ff, ff, ff, ff, ff, ff, ff, ff, ff, ff] (by kernel_rfl) ?_
         refine zu 3 (some 58) #[tt, tt, tt, tt, ff, ff, ff, ff, ff, ff, ff, ff, ff, ff, ff, ff, ff, ff, ff, ff, ff, ff, ff, ff, ff, ff, ff, ff, ff, ff, ff] (by kernel_rfl) ?_
         refine zu 4 (some 59) #[tt, tt, tt, tt, tt, ff, ff, ff, ff, ff, ff, ff, ff, ff, ff, ff, ff, ff, ff, ff, ff, ff, ff, ff, ff, ff, ff, ff, ff, ff, ff] (by kernel_rfl) ?_
         refine zu 5 (some 60) #[tt, tt, tt, tt, tt, tt, ff, ff, ff, ff, ff, ff, ff, ff, ff, ff, ff, ff, ff, ff, ff, ff, ff, ff, ff, ff, ff, ff, ff, ff, ff] (by kernel_rfl) ?_
         refine zu 6 (some 61) #[tt, tt, tt, tt, tt, tt, tt, ff, ff, ff, ff, ff, ff, ff, ff, ff, ff, ff, ff, ff, ff, ff, ff, ff, ff, ff, ff, ff, ff, ff, ff] (by kernel_rfl) ?_
         refine zu 7 (some 62) #[tt, tt, tt, tt, tt, tt, tt, tt, ff, ff, ff, ff, ff, ff, ff, ff, ff, ff, ff, ff, ff, ff, ff, ff, ff, ff, ff, ff, ff, ff, ff] (by kernel_rfl) ?_
         refine zu 8 (some 63) #[tt, tt, tt, tt, tt, tt, tt, tt, tt, ff, ff, ff, ff, ff, ff, ff, ff, ff, ff, ff, ff, ff, ff, ff, ff, ff, ff, ff, ff, ff, ff] (by kernel_rfl) ?_
         refine zu 9 (some 64) #[tt, tt, tt, tt, tt, tt, tt, tt, tt, tt, ff, ff, ff, ff, ff, ff, ff, ff, ff, ff, ff, ff, ff, ff, ff, ff, ff, ff, ff, ff, ff] (by kernel_rfl) ?_
         refine zu 12 (some 67) #[tt, tt, tt, tt, tt, tt, tt, tt, tt, tt, ff, ff, tt, ff, ff, ff, ff, ff, ff, ff, ff, ff, ff, ff, ff, ff, ff, ff, ff, ff, ff] (by kernel_rfl) ?_
         refine zu 13 (some 68) #[tt, tt, tt, tt, tt, tt, tt, tt, tt, tt, ff, ff, tt, tt, ff, ff, ff, ff, ff, ff, ff, ff, ff, ff, ff, ff, ff, ff, ff, ff, ff] (by kernel_rfl) ?_
         refine zu 14 (some 69) #[tt, tt, tt, tt, tt, tt, tt, tt, tt, tt, ff, ff, tt, tt, tt, ff, ff, ff, ff, ff, ff, ff, ff, ff, ff, ff, ff, ff, ff, ff, ff] (by kernel_rfl) ?_
         refine zt 10 (some 65) #[tt, tt, tt, tt, tt, tt, tt, tt, tt, tt, tt, ff, tt, tt, tt, ff, ff, ff, ff, ff, ff, ff, ff, ff, ff, ff, ff, ff, ff, ff, ff] (by kernel_rfl) hHeld ?_
         refine zu 11 (some 66) #[tt, tt, tt, tt, tt, tt, tt, tt, tt, tt, tt, tt, tt, tt, tt, ff, ff, ff, ff, ff, ff, ff, ff, ff, ff, ff, ff, ff, ff, ff, ff] (by kernel_rfl) ?_
         refine zt 15 (some 70) #[tt, tt, tt, tt, tt, tt, tt, tt, tt, tt, tt, tt, tt, tt, tt, tt, ff, ff, ff, ff, ff, ff, ff, ff, ff, ff, ff, ff, ff, ff, ff] (by kernel_rfl) hHeld ?_
         refine zu 16 (some 71) #[tt, tt, tt, tt, tt, tt, tt, tt, tt, tt, tt, tt, tt, tt, tt, tt, tt, ff, ff, ff, ff, ff, ff, ff, ff, ff, ff, ff, ff, ff, ff] (by kernel_rfl) ?_
         refine zu 17 (some 72) #[tt, tt, tt, tt, tt, tt, tt, tt, tt, tt, tt, tt, tt, tt, tt, tt, tt, tt, ff, ff, ff, ff, ff, ff, ff, ff, ff, ff, ff, ff, ff] (by kernel_rfl) ?_
         refine zu 18 (some 73) #[tt, tt, tt, tt, tt, tt, tt, tt, tt, tt, tt, tt, tt, tt, tt, tt, tt, tt, tt, ff, ff, ff, ff, ff, ff, ff, ff, ff, ff, ff, ff] (by kernel_rfl) ?_
         refine pure_ (i := 19) (N := some 74) (v := undef) (a' := ?_) #[tt, tt, tt, tt, tt, tt, tt, tt, tt, tt, tt, tt, tt, tt, tt, tt, tt, tt, tt, tt, ff, ff, ff, ff, ff, ff, ff, ff, ff, ff, ff] rfl rfl (by kernel_rfl) (fun _ _ _ h => h) (Or.inr ⟨by rfl, rfl⟩) ?_ ?_
         rotate_left
         ·simp only [Act.put, zp, zq, zr, i64_w, i32_w]
          rfl
         refine pure_ (i := 20) (N := some 75) (v := undef) (a' := ?_) #[tt, tt, tt, tt, tt, tt, tt, tt, tt, tt, tt, tt, tt, tt, tt, tt, tt, tt, tt, tt, tt, ff, ff, ff, ff, ff, ff, ff, ff, ff, ff] rfl rfl (by kernel_rfl) (fun _ _ _ h => h) (Or.inr ⟨by rfl, rfl⟩) ?_ ?_
         rotate_left
         ·simp only [Act.put, zp, zq, zr, i64_w, i32_w]
          rfl
         refine pure_ (i := 21) (N := some 76) (v := undef) (a' := ?_) #[tt, tt, tt, tt, tt, tt, tt, tt, tt, tt, tt, tt, tt, tt, tt, tt, tt, tt, tt, tt, tt, tt, ff, ff, ff, ff, ff, ff, ff, ff, ff] rfl rfl (by kernel_rfl) (fun _ _ _ h => h) (Or.inr ⟨by rfl, rfl⟩) ?_ ?_
         rotate_left
         ·simp only [Act.put, zp, zq, zr, i64_w, i32_w]
          rfl
         refine pure_ (i := 22) (N := some 77) (v := undef) (a' := ?_) #[tt, tt, tt, tt, tt, tt, tt, tt, tt, tt, tt, tt, tt, tt, tt, tt, tt, tt, tt, tt, tt, tt, tt, ff, ff, ff, ff, ff, ff, ff, ff] rfl rfl (by kernel_rfl) (fun _ _ _ h => h) (Or.inr ⟨by rfl, rfl⟩) ?_ ?_
         rotate_left
         ·simp only [Act.put, zp, zq, zr, i64_w, i32_w]
          rfl
         refine pure_ (i := 23) (N := some 78) (v := undef) (a' := ?_) #[tt, tt, tt, tt, tt, tt, tt, tt, tt, tt, tt, tt, tt, tt, tt, tt, tt, tt, tt, tt, tt, tt, tt, tt, ff, ff, ff, ff, ff, ff, ff] rfl rfl (by kernel_rfl) (fun _ _ _ h => h) (Or.inr ⟨by rfl, rfl⟩) ?_ ?_
         rotate_left
         ·simp only [Act.put, zp, zq, zr, i64_w, i32_w]
          rfl
         refine pure_ (i := 24) (N := some 79) (v := undef) (a' := ?_) #[tt, tt, tt, tt, tt, tt, tt, tt, tt, tt, tt, tt, tt, tt, tt, tt, tt, tt, tt, tt, tt, tt, tt, tt, tt, ff, ff, ff, ff, ff, ff] rfl rfl (by kernel_rfl) (fun _ _ _ h => h) (Or.inr ⟨by rfl, rfl⟩) ?_ ?_
         rotate_left
         ·simp only [Act.put, zp, zq, zr, i64_w, i32_w]
          rfl
         refine pure_ (i := 25) (N := some 80) (v := undef) (a' := ?_) #[tt, tt, tt, tt, tt, tt, tt, tt, tt, tt, tt, tt, tt, tt, tt, tt, tt, tt, tt, tt, tt, tt, tt, tt, tt, tt, ff, ff, ff, ff, ff] rfl rfl (by kernel_rfl) (fun _ _ _ h => h) (Or.inr ⟨by rfl, rfl⟩) ?_ ?_
         rotate_left
         ·simp only [Act.put, zp, zq, zr, i64_w, i32_w]
          rfl
         refine pure_ (i := 26) (N := some 81) (v := undef) (a' := ?_) #[tt, tt, tt, tt, tt, tt, tt, tt, tt, tt, tt, tt, tt, tt, tt, tt, tt, tt, tt, tt, tt, tt, tt, tt, tt, tt, tt, ff, ff, ff, ff] rfl rfl (by kernel_rfl) (fun _ _ _ h => h) (Or.inr ⟨by rfl, rfl⟩) ?_ ?_
         rotate_left
         ·simp only [Act.put, zp, zq, zr, i64_w, i32_w]
          rfl
         refine pure_ (i := 27) (N := some 82) (v := undef) (a' := ?_) #[tt, tt, tt, tt, tt, tt, tt, tt, tt, tt, tt, tt, tt, tt, tt, tt, tt, tt, tt, tt, tt, tt, tt, tt, tt, tt, tt, tt, ff, ff, ff] rfl rfl (by kernel_rfl) (fun _ _ _ h => h) (Or.inr ⟨by rfl, rfl⟩) ?_ ?_
         rotate_left
         ·simp only [Act.put, zp, zq, zr, i64_w, i32_w]
          rfl
         refine pure_ (i := 28) (N := some 83) (v := undef) (a' := ?_) #[tt, tt, tt, tt, tt, tt, tt, tt, tt, tt, tt, tt, tt, tt, tt, tt, tt, tt, tt, tt, tt, tt, tt, tt, tt, tt, tt, tt, tt, ff, ff] rfl rfl (by kernel_rfl) (fun _ _ _ h => h) (Or.inr ⟨by rfl, rfl⟩) ?_ ?_
         rotate_left
         ·simp only [Act.put, zp, zq, zr, i64_w, i32_w]
          rfl
         refine pure_ (i := 29) (N := some 84) (v := undef) (a' := ?_) #[tt, tt, tt, tt, tt, tt, tt, tt, tt, tt, tt, tt, tt, tt, tt, tt, tt, tt, tt, tt, tt, tt, tt, tt, tt, tt, tt, tt, tt, tt, ff] rfl rfl (by kernel_rfl) (fun _ _ _ h => h) (Or.inr ⟨by rfl, rfl⟩) ?_ ?_
         rotate_left
         ·simp only [Act.put, zp, zq, zr, i64_w, i32_w]
          rfl
         refine zu 30 (some 85) #[tt, tt, tt, tt, tt, tt, tt, tt, tt, tt, tt, tt, tt, tt, tt, tt, tt, tt, tt, tt, tt, tt, tt, tt, tt, tt, tt, tt, tt, tt, tt] (by kernel_rfl) ?_
         refine done_ (by kernel_rfl) ?_
         have hbr : Below w7.heap.size w7 w7.drew := below_drew (Below.refl _ _)
         have n1 := zK (al.out.below hbr)
         have n3 := zK (blk_below af.out hbr)
         have n4 := zK (Below.trans HB7.out ⟨hbr.os, hbr.tape, hbr.output, hbr.size, fun k_ hk_ => hbr.block k_ (Nat.lt_of_lt_of_le hk_ HB7.out.size)⟩)
         have n5 := zK (show ∀ (gk : Nat) (ck : Array Value), gk ≠ g → w.heap[gk]? = some (.cells ck 28 (0, 0)) → w7.drew.heap[gk]? = some (.cells ck 28 (0, 0)) from fun gk ck hne_ h_ => blk_below (am.out gk ck hne_ h_) hbr)
         go_wp2
         go_roundg k1
         case measure => have := ab.out; omega
         case rel => exact ⟨wrap64 (i + 1), tr, ch, rfl, by first | rfl | exact HLEN.out | (rw [List.length_set]; first | rfl | exact HLEN.out), H', ⟨by have := ab.out; omega⟩, n1, n3, n4, n5⟩
        ·rw [if_neg c8] at H
         have c8b : decide (((rd_T69 ch i).f2.length : Int) ≥ (rd_T69 ch i).f1) = false := decide_eq_false c8
         by_cases c9 : v < (wa.length : Int)
         ·rw [if_pos c9] at H
          replace H := Option.bind_eq_some_iff.mp H
          obtain ⟨b, A80, H⟩ := H
          have A8 := zK A80; clear A80; have H' := zK H; clear H
          have c7c : 0 ≤ v := by omega
          obtain ⟨ag, A9, ah, e9, _, hv6, hl9, hi9⟩ := at_T74 C37.out v c7c c9
          cases e9
          have HI9 := zK hi9; have HN9 := zK hl9; clear hi9 hl9; have p9 := eq_true c7c
          have q9 : (v < ((wa.length : Nat) : Int)) = True := eq_true c9
          cases b with
          | false =>
           refine start_ (n := 31) (S := fun w' => w'.cell? ⟨g, 3, none⟩ = some (.slice (some ag) wa.length d3) ∧ w'.cell? ⟨(ad.add (i.toNat * 3)).block, (ad.add (i.toNat * 3)).off + 1, none⟩ = some (.int .i64 (rd_T69 ch i).f1) ∧ w'.cell? ⟨(ad.add (i.toNat * 3)).block, (ad.add (i.toNat * 3)).off + 2, none⟩ = some (.slice A5 (rd_T69 ch i).f2.length c5) ∧ w'.cell? ⟨(ag.add (v.toNat * 2)).block, (ag.add (v.toNat * 2)).off + 1, none⟩ = some (.slice A9 (rd_T74 wa v).f1.length ah)) (ds := []) #[ff, ff, ff, ff, ff, ff, ff, ff, ff, ff, ff, ff, ff, ff, ff, ff, ff, ff, ff, ff, ff, ff, ff, ff, ff, ff, ff, ff, ff, ff, ff] (by kernel_rfl) rfl rfl ⟨an, ao, ap, hv6⟩ (fun hHeld => ?_)
           refine zu 0 (some 55) #[tt, ff, ff, ff, ff, ff, ff, ff, ff, ff, ff, ff, ff, ff, ff, ff, ff, ff, ff, ff, ff, ff, ff, ff, ff, ff, ff, ff, ff, ff, ff] (by kernel_rfl) ?_
           refine zu 1 (some 56) #[tt, tt, ff, ff, ff, ff, ff, ff, ff, ff, ff, ff, ff, ff, ff, ff, ff, ff, ff, ff, ff, ff, ff, ff, ff, ff, ff, ff, ff, ff, ff] (by kernel_rfl) ?_
           refine zu 2 (some 57) #[tt, tt, tt, ff, ff, ff, ff, ff, ff, ff, ff, ff, ff, ff, ff, ff, ff, ff, ff, ff, ff, ff, ff, ff, ff, ff, ff, ff, ff, ff, ff] (by kernel_rfl) ?_
           refine zu 3 (some 58) #[tt, tt, tt, tt, ff, ff, ff, ff, ff, ff, ff, ff, ff, ff, ff, ff, ff, ff, ff, ff, ff, ff, ff, ff, ff, ff, ff, ff, ff, ff, ff] (by kernel_rfl) ?_
           refine zu 4 (some 59) #[tt, tt, tt, tt, tt, ff, ff, ff, ff, ff, ff, ff, ff, ff, ff, ff, ff, ff, ff, ff, ff, ff, ff, ff, ff, ff, ff, ff, ff, ff, ff] (by kernel_rfl) ?_
           refine zu 5 (some 60) #[tt, tt, tt, tt, tt, tt, ff, ff, ff, ff, ff, ff, ff, ff, ff, ff, ff, ff, ff, ff, ff, ff, ff, ff, ff, ff, ff, ff, ff, ff, ff] (by kernel_rfl) ?_
           refine zu 6 (some 61) #[tt, tt, tt, tt, tt, tt, tt, ff, ff, ff, ff, ff, ff, ff, ff, ff, ff, ff, ff, ff, ff, ff, ff, ff, ff, ff, ff, ff, ff, ff, ff] (by kernel_rfl) ?_
           refine zu 7 (some 62) #[tt, tt, tt, tt, tt, tt, tt, tt, ff, ff, ff, ff, ff, ff, ff, ff, ff, ff, ff, ff, ff, ff, ff, ff, ff, ff, ff, ff, ff, ff, ff] (by kernel_rfl) ?_
           refine zu 8 (some 63) #[tt, tt, tt, tt, tt, tt, tt, tt, tt, ff, ff, ff, ff, ff, ff, ff, ff, ff, ff, ff, ff, ff, ff, ff, ff, ff, ff, ff, ff, ff, ff] (by kernel_rfl) ?_
           refine zu 9 (some 64) #[tt, tt, tt, tt, tt, tt, tt, tt, tt, tt, ff, ff, ff, ff, ff, ff, ff, ff, ff, ff, ff, ff, ff, ff, ff, ff, ff, ff, ff, ff, ff] (by kernel_rfl) ?_
           refine zu 12 (some 67) #[tt, tt, tt, tt, tt, tt, tt, tt, tt, tt, ff, ff, tt, ff, ff, ff, ff, ff, ff, ff, ff, ff, ff, ff, ff, ff, ff, ff, ff, ff, ff] (by kernel_rfl) ?_
           refine zu 13 (some 68) #[tt, tt, tt, tt, tt, tt, tt, tt, tt, tt, ff, ff, tt, tt, ff, ff, ff, ff, ff, ff, ff, ff, ff, ff, ff, ff, ff, ff, ff, ff, ff] (by kernel_rfl) ?_
           refine zu 14 (some 69) #[tt, tt, tt, tt, tt, tt, tt, tt, tt, tt, ff, ff, tt, tt, tt, ff, ff, ff, ff, ff, ff, ff, ff, ff, ff, ff, ff, ff, ff, ff, ff] (by kernel_rfl) ?_
           refine zt 10 (some 65) #[tt, tt, tt, tt, tt, tt, tt, tt, tt, tt, tt, ff, tt, tt, tt, ff, ff, ff, ff, ff, ff, ff, ff, ff, ff, ff, ff, ff, ff, ff, ff] (by kernel_rfl) hHeld ?_
           refine zu 11 (some 66) #[tt, tt, tt, tt, tt, tt, tt, tt, tt, tt, tt, tt, tt, tt, tt, ff, ff, ff, ff, ff, ff, ff, ff, ff, ff, ff, ff, ff, ff, ff, ff] (by kernel_rfl) ?_
           refine zt 15 (some 70) #[tt, tt, tt, tt, tt, tt, tt, tt, tt, tt, tt, tt, tt, tt, tt, tt, ff, ff, ff, ff, ff, ff, ff, ff, ff, ff, ff, ff, ff, ff, ff] (by kernel_rfl) hHeld ?_
           refine zu 16 (some 71) #[tt, tt, tt, tt, tt, tt, tt, tt, tt, tt, tt, tt, tt, tt, tt, tt, tt, ff, ff, ff, ff, ff, ff, ff, ff, ff, ff, ff, ff, ff, ff] (by kernel_rfl) ?_
           refine zu 17 (some 72) #[tt, tt, tt, tt, tt, tt, tt, tt, tt, tt, tt, tt, tt, tt, tt, tt, tt, tt, ff, ff, ff, ff, ff, ff, ff, ff, ff, ff, ff, ff, ff] (by kernel_rfl) ?_
           refine zu 18 (some 73) #[tt, tt, tt, tt, tt, tt, tt, tt, tt, tt, tt, tt, tt, tt, tt, tt, tt, tt, tt, ff, ff, ff, ff, ff, ff, ff, ff, ff, ff, ff, ff] (by kernel_rfl) ?_
           refine zu 19 (some 74) #[tt, tt, tt, tt, tt, tt, tt, tt, tt, tt, tt, tt, tt, tt, tt, tt, tt, tt, tt, tt, ff, ff, ff, ff, ff, ff, ff, ff, ff, ff, ff] (by kernel_rfl) ?_
           refine zu 20 (some 75) #[tt, tt, tt, tt, tt, tt, tt, tt, tt, tt, tt, tt, tt, tt, tt, tt, tt, tt, tt, tt, tt, ff, ff, ff, ff, ff, ff, ff, ff, ff, ff] (by kernel_rfl) ?_
           refine zu 21 (some 76) #[tt, tt, tt, tt, tt, tt, tt, tt, tt, tt, tt, tt, tt, tt, tt, tt, tt, tt, tt, tt, tt, tt, ff, ff, ff, ff, ff, ff, ff, ff, ff] (by kernel_rfl) ?_
           refine zu 23 (some 78) #[tt, tt, tt, tt, tt, tt, tt, tt, tt, tt, tt, tt, tt, tt, tt, tt, tt, tt, tt, tt, tt, tt, ff, tt, ff, ff, ff, ff, ff, ff, ff] (by kernel_rfl) ?_
           refine zu 27 (some 82) #[tt, tt, tt, tt, tt, tt, tt, tt, tt, tt, tt, tt, tt, tt, tt, tt, tt, tt, tt, tt, tt, tt, ff, tt, ff, ff, ff, tt, ff, ff, ff] (by kernel_rfl) ?_
           refine zt 22 (some 77) #[tt, tt, tt, tt, tt, tt, tt, tt, tt, tt, tt, tt, tt, tt, tt, tt, tt, tt, tt, tt, tt, tt, tt, tt, ff, ff, ff, tt, ff, ff, ff] (by kernel_rfl) hHeld ?_
           refine zu 24 (some 79) #[tt, tt, tt, tt, tt, tt, tt, tt, tt, tt, tt, tt, tt, tt, tt, tt, tt, tt, tt, tt, tt, tt, tt, tt, tt, ff, ff, tt, ff, ff, ff] (by kernel_rfl) ?_
           refine zu 25 (some 80) #[tt, tt, tt, tt, tt, tt, tt, tt, tt, tt, tt, tt, tt, tt, tt, tt, tt, tt, tt, tt, tt, tt, tt, tt, tt, tt, ff, tt, ff, ff, ff] (by kernel_rfl) ?_
           refine zt 26 (some 81) #[tt, tt, tt, tt, tt, tt, tt, tt, tt, tt, tt, tt, tt, tt, tt, tt, tt, tt, tt, tt, tt, tt, tt, tt, tt, tt, tt, tt, ff, ff, ff] (by kernel_rfl) hHeld ?_
           refine one_ (i := 28) (N := some 83) #[tt, tt, tt, tt, tt, tt, tt, tt, tt, tt, tt, tt, tt, tt, tt, tt, tt, tt, tt, tt, tt, tt, tt, tt, tt, tt, tt, tt, tt, ff, ff] rfl rfl (by kernel_rfl) (by decide) (fun K hK => ?_)
           refine goes_ Try.func52 (by kernel_rfl) rfl #[.slice A9 (rd_T74 wa v).f1.length ah, .int .i64 i] (by rfl) rfl rfl (by simp only [List.map_toArray, List.map_cons, List.map_nil]; rfl) ?_
           with_reducible refine (slices_Contains_int_int.calls k1 A9 ah (rd_T74 wa v).f1 i false _ (Kd.C_drew HI9.out) HN9.out A8.out).mono ?_
           rintro e w8 ⟨rfl, hd8⟩
           refine ⟨_, rfl, ?_⟩
           refine hK.out _ _ ⟨pw_cell_below hd8.below hHeld.1, pw_cell_below hd8.below hHeld.2.1, pw_cell_below hd8.below hHeld.2.2.1, pw_cell_below hd8.below hHeld.2.2.2⟩ (fun hHeld => ?_)
           clear hK K
           refine norm_ (a' := ?_) ?_ ?_
           rotate_left
           ·show Act.put _ (some 83) _ = _
            simp only [Act.put, zp, zq, zr, i64_w, i32_w]
            rfl
           refine zu 29 (some 84) #[tt, tt, tt, tt, tt, tt, tt, tt, tt, tt, tt, tt, tt, tt, tt, tt, tt, tt, tt, tt, tt, tt, tt, tt, tt, tt, tt, tt, tt, tt, ff] (by kernel_rfl) ?_
           refine zu 30 (some 85) #[tt, tt, tt, tt, tt, tt, tt, tt, tt, tt, tt, tt, tt, tt, tt, tt, tt, tt, tt, tt, tt, tt, tt, tt, tt, tt, tt, tt, tt, tt, tt] (by kernel_rfl) ?_
           refine done_ (by kernel_rfl) ?_
           have hbr : Below w7.heap.size w7 w8 := below_then (below_drew (Below.refl _ _)) (Nat.le_refl _) hd8.below
           have n1 := zK (al.out.below hbr)
           have n3 := zK (blk_below af.out hbr)
           have n4 := zK (Below.trans HB7.out ⟨hbr.os, hbr.tape, hbr.output, hbr.size, fun k_ hk_ => hbr.block k_ (Nat.lt_of_lt_of_le hk_ HB7.out.size)⟩)
           have n5 := zK (show ∀ (gk : Nat) (ck : Array Value), gk ≠ g → w.heap[gk]? = some (.cells ck 28 (0, 0)) → w8.heap[gk]? = some (.cells ck 28 (0, 0)) from fun gk ck hne_ h_ => blk_below (am.out gk ck hne_ h_) hbr)
           have H2 := zK (show impl_turn.l0 k1 tr T ch wa (wrap64 (i + 1)) = some (r1, r2, r3) from by have h_ := H'.out; rwa [if_neg (by simp)] at h_)
           clear hd8
           go_wp2
           go_roundg k1
           case measure => have := ab.out; omega
           case rel => exact ⟨wrap64 (i + 1), tr, ch, rfl, by first | rfl | exact HLEN.out | (rw [List.length_set]; first | rfl | exact HLEN.out), H2, ⟨by have := ab.out; omega⟩, n1, n3, n4, n5⟩
          | true =>
           have H := H'.out; clear H'
           rw [if_pos rfl] at H
           by_cases c10 : (rd_T69 ch i).f2.length < 17592186044416
           ·rw [if_pos c10] at H
            have H' := zK H; clear H
            refine start_ (n := 31) (S := fun w' => w'.cell? ⟨g, 3, none⟩ = some (.slice (some ag) wa.length d3) ∧ w'.cell? ⟨(ad.add (i.toNat * 3)).block, (ad.add (i.toNat * 3)).off + 1, none⟩ = some (.int .i64 (rd_T69 ch i).f1) ∧ w'.cell? ⟨(ad.add (i.toNat * 3)).block, (ad.add (i.toNat * 3)).off + 2, none⟩ = some (.slice A5 (rd_T69 ch i).f2.length c5) ∧ w'.cell? ⟨(ag.add (v.toNat * 2)).block, (ag.add (v.toNat * 2)).off + 1, none⟩ = some (.slice A9 (rd_T74 wa v).f1.length ah)) (ds := []) #[ff, ff, ff, ff, ff, ff, ff, ff, ff, ff, ff, ff, ff, ff, ff, ff, ff, ff, ff, ff, ff, ff, ff, ff, ff, ff, ff, ff, ff, ff, ff] (by kernel_rfl) rfl rfl ⟨an, ao, ap, hv6⟩ (fun hHeld => ?_)
            refine zu 0 (some 55) #[tt, ff, ff, ff, ff, ff, ff, ff, ff, ff, ff, ff, ff, ff, ff, ff, ff, ff, ff, ff, ff, ff, ff, ff, ff, ff, ff, ff, ff, ff, ff] (by kernel_rfl) ?_
            refine zu 1 (some 56) #[tt, tt, ff, ff, ff, ff, ff, ff, ff, ff, ff, ff, ff, ff, ff, ff, ff, ff, ff, ff, ff, ff, ff, ff, ff, ff, ff, ff, ff, ff, ff] (by kernel_rfl) ?_
            refine zu 2 (some 57) #[tt, tt, tt, ff, ff, ff, ff, ff, ff, ff, ff, ff, ff, ff, ff, ff, ff, ff, ff, ff, ff, ff, ff, ff, ff, ff, ff, ff, ff, ff, ff] (by kernel_rfl) ?_
            refine zu 3 (some 58) #[tt, tt, tt, tt, ff, ff, ff, ff, ff, ff, ff, ff, ff, ff, ff, ff, ff, ff, ff, ff, ff, ff, ff, ff, ff, ff, ff, ff, ff, ff, ff] (by kernel_rfl) ?_
            refine zu 4 (some 59) #[tt, tt, tt, tt, tt, ff, ff, ff, ff, ff, ff, ff, ff, ff, ff, ff, ff, ff, ff, ff, ff, ff, ff, ff, ff, ff, ff, ff, ff, ff, ff] (by kernel_rfl) ?_
            refine zu 5 (some 60) #[tt, tt, tt, tt, tt, tt, ff, ff, ff, ff, ff, ff, ff, ff, ff, ff, ff, ff, ff, ff, ff, ff, ff, ff, ff, ff, ff, ff, ff, ff, ff] (by kernel_rfl) ?_
            refine zu 6 (some 61) #[tt, tt, tt, tt, tt, tt, tt, ff, ff, ff, ff, ff, ff, ff, ff, ff, ff, ff, ff, ff, ff, ff, ff, ff, ff, ff, ff, ff, ff, ff, ff] (by kernel_rfl) ?_
            refine zu 7 (some 62) #[tt, tt, tt, tt, tt, tt, tt, tt, ff, ff, ff, ff, ff, ff, ff, ff, ff, ff, ff, ff, ff, ff, ff, ff, ff, ff, ff, ff, ff, ff, ff] (by kernel_rfl) ?_
            refine zu 8 (some 63) #[tt, tt, tt, tt, tt, tt, tt, tt, tt, ff, ff, ff, ff, ff, ff, ff, ff, ff, ff, ff, ff, ff, ff, ff, ff, ff, ff, ff, ff, ff, ff] (by kernel_rfl) ?_
            refine zu 9 (some 64) #[tt, tt, tt, tt, tt, tt, tt, tt, tt, tt, ff, ff, ff, ff, ff, ff, ff, ff, ff, ff, ff, ff, ff, ff, ff, ff, ff, ff, ff, ff, ff] (by kernel_rfl) ?_
            refine zu 12 (some 67) #[tt, tt, tt, tt, tt, tt, tt, tt, tt, tt, ff, ff, tt, ff, ff, ff, ff, ff, ff, ff, ff, ff, ff, ff, ff, ff, ff, ff, ff, ff, ff] (by kernel_rfl) ?_
            refine zu 13 (some 68) #[tt, tt, tt, tt, tt, tt, tt, tt, tt, tt, ff, ff, tt, tt, ff, ff, ff, ff, ff, ff, ff, ff, ff, ff, ff, ff, ff, ff, ff, ff, ff] (by kernel_rfl) ?_
            refine zu 14 (some 69) #[tt, tt, tt, tt, tt, tt, tt, tt, tt, tt, ff, ff, tt, tt, tt, ff, ff, ff, ff, ff, ff, ff, ff, ff, ff, ff, ff, ff, ff, ff, ff] (by kernel_rfl) ?_
            refine zt 10 (some 65) #[tt, tt, tt, tt, tt, tt, tt, tt, tt, tt, tt, ff, tt, tt, tt, ff, ff, ff, ff, ff, ff, ff, ff, ff, ff, ff, ff, ff, ff, ff, ff] (by kernel_rfl) hHeld ?_
            refine zu 11 (some 66) #[tt, tt, tt, tt, tt, tt, tt, tt, tt, tt, tt, tt, tt, tt, tt, ff, ff, ff, ff, ff, ff, ff, ff, ff, ff, ff, ff, ff, ff, ff, ff] (by kernel_rfl) ?_
            refine zt 15 (some 70) #[tt, tt, tt, tt, tt, tt, tt, tt, tt, tt, tt, tt, tt, tt, tt, tt, ff, ff, ff, ff, ff, ff, ff, ff, ff, ff, ff, ff, ff, ff, ff] (by kernel_rfl) hHeld ?_
            refine zu 16 (some 71) #[tt, tt, tt, tt, tt, tt, tt, tt, tt, tt, tt, tt, tt, tt, tt, tt, tt, ff, ff, ff, ff, ff, ff, ff, ff, ff, ff, ff, ff, ff, ff] (by kernel_rfl) ?_
            refine zu 17 (some 72) #[tt, tt, tt, tt, tt, tt, tt, tt, tt, tt, tt, tt, tt, tt, tt, tt, tt, tt, ff, ff, ff, ff, ff, ff, ff, ff, ff, ff, ff, ff, ff] (by kernel_rfl) ?_
            refine zu 18 (some 73) #[tt, tt, tt, tt, tt, tt, tt, tt, tt, tt, tt, tt, tt, tt, tt, tt, tt, tt, tt, ff, ff, ff, ff, ff, ff, ff, ff, ff, ff, ff, ff] (by kernel_rfl) ?_
            refine zu 19 (some 74) #[tt, tt, tt, tt, tt, tt, tt, tt, tt, tt, tt, tt, tt, tt, tt, tt, tt, tt, tt, tt, ff, ff, ff, ff, ff, ff, ff, ff, ff, ff, ff] (by kernel_rfl) ?_
            refine zu 20 (some 75) #[tt, tt, tt, tt, tt, tt, tt, tt, tt, tt, tt, tt, tt, tt, tt, tt, tt, tt, tt, tt, tt, ff, ff, ff, ff, ff, ff, ff, ff, ff, ff] (by kernel_rfl) ?_
            refine zu 21 (some 76) #[tt, tt, tt, tt, tt, tt, tt, tt, tt, tt, tt, tt, tt, tt, tt, tt, tt, tt, tt, tt, tt, tt, ff, ff, ff, ff, ff, ff, ff, ff, ff] (by kernel_rfl) ?_
            refine zu 23 (some 78) #[tt, tt, tt, tt, tt, tt, tt, tt, tt, tt, tt, tt, tt, tt, tt, tt, tt, tt, tt, tt, tt, tt, ff, tt, ff, ff, ff, ff, ff, ff, ff] (by kernel_rfl) ?_
            refine zu 27 (some 82) #[tt, tt, tt, tt, tt, tt, tt, tt, tt, tt, tt, tt, tt, tt, tt, tt, tt, tt, tt, tt, tt, tt, ff, tt, ff, ff, ff, tt, ff, ff, ff] (by kernel_rfl) ?_
            refine zt 22 (some 77) #[tt, tt, tt, tt, tt, tt, tt, tt, tt, tt, tt, tt, tt, tt, tt, tt, tt, tt, tt, tt, tt, tt, tt, tt, ff, ff, ff, tt, ff, ff, ff] (by kernel_rfl) hHeld ?_
            refine zu 24 (some 79) #[tt, tt, tt, tt, tt, tt, tt, tt, tt, tt, tt, tt, tt, tt, tt, tt, tt, tt, tt, tt, tt, tt, tt, tt, tt, ff, ff, tt, ff, ff, ff] (by kernel_rfl) ?_
            refine zu 25 (some 80) #[tt, tt, tt, tt, tt, tt, tt, tt, tt, tt, tt, tt, tt, tt, tt, tt, tt, tt, tt, tt, tt, tt, tt, tt, tt, tt, ff, tt, ff, ff, ff] (by kernel_rfl) ?_
            refine zt 26 (some 81) #[tt, tt, tt, tt, tt, tt, tt, tt, tt, tt, tt, tt, tt, tt, tt, tt, tt, tt, tt, tt, tt, tt, tt, tt, tt, tt, tt, tt, ff, ff, ff] (by kernel_rfl) hHeld ?_
            refine one_ (i := 28) (N := some 83) #[tt, tt, tt, tt, tt, tt, tt, tt, tt, tt, tt, tt, tt, tt, tt, tt, tt, tt, tt, tt, tt, tt, tt, tt, tt, tt, tt, tt, tt, ff, ff] rfl rfl (by kernel_rfl) (by decide) (fun K hK => ?_)
            refine goes_ Try.func52 (by kernel_rfl) rfl #[.slice A9 (rd_T74 wa v).f1.length ah, .int .i64 i] (by rfl) rfl rfl (by simp only [List.map_toArray, List.map_cons, List.map_nil]; rfl) ?_
            with_reducible refine (slices_Contains_int_int.calls k1 A9 ah (rd_T74 wa v).f1 i true _ (Kd.C_drew HI9.out) HN9.out A8.out).mono ?_
            rintro e w8 ⟨rfl, hd8⟩
            refine ⟨_, rfl, ?_⟩
            refine hK.out _ _ ⟨pw_cell_below hd8.below hHeld.1, pw_cell_below hd8.below hHeld.2.1, pw_cell_below hd8.below hHeld.2.2.1, pw_cell_below hd8.below hHeld.2.2.2⟩ (fun hHeld => ?_)
            clear hK K
            refine norm_ (a' := ?_) ?_ ?_
            rotate_left
            ·show Act.put _ (some 83) _ = _
             simp only [Act.put, zp, zq, zr, i64_w, i32_w]
             rfl
            refine zu 29 (some 84) #[tt, tt, tt, tt, tt, tt, tt, tt, tt, tt, tt, tt, tt, tt, tt, tt, tt, tt, tt, tt, tt, tt, tt, tt, tt, tt, tt, tt, tt, tt, ff] (by kernel_rfl) ?_
            refine zu 30 (some 85) #[tt, tt, tt, tt, tt, tt, tt, tt, tt, tt, tt, tt, tt, tt, tt, tt, tt, tt, tt, tt, tt, tt, tt, tt, tt, tt, tt, tt, tt, tt, tt] (by kernel_rfl) ?_
            refine done_ (by kernel_rfl) ?_
            have hbr : Below w7.heap.size w7 w8 := below_then (below_drew (Below.refl _ _)) (Nat.le_refl _) hd8.below
            have n1 := zK (al.out.below hbr)
            have n3 := zK (blk_below af.out hbr)
            have n4 := zK (Below.trans HB7.out ⟨hbr.os, hbr.tape, hbr.output, hbr.size, fun k_ hk_ => hbr.block k_ (Nat.lt_of_lt_of_le hk_ HB7.out.size)⟩)
            have n5 := zK (show ∀ (gk : Nat) (ck : Array Value), gk ≠ g → w.heap[gk]? = some (.cells ck 28 (0, 0)) → w8.heap[gk]? = some (.cells ck 28 (0, 0)) from fun gk ck hne_ h_ => blk_below (am.out gk ck hne_ h_) hbr)
            clear hd8
            go_wp2
            have hd : Below w8.heap.size w8 w8.drew := below_drew (Below.refl _ _)
            have hLd := n1.out.below hd
            obtain ⟨gC, AB, cB, oki, eC, hbC, htC, hgC, hR8, aq, hok8, hH8⟩ := hLd.lend i c2 c1
            cases eC
            have HLd := zK hLd; have HBC := zK hbC; have HTC := zK htC; have HGC := zK hgC; have ar := zK hR8; have HFR8 := zK aq; have HOK8 := zK hok8; have HH8 := zK hH8; have HL9 := zK c10
            have hu0 : w8.cell? ⟨g, 0, none⟩ = some (.slice (some ⟨gT, 0, none⟩) tr.length d0') := (blk_cell n3.out 0).trans rfl
            have hu1 : w8.cell? ⟨gC, i.toNat * 3 + 2, none⟩ = some (.slice AB (rd_T69 ch i).f2.length cB) := (Kd.H_at hH8 c2 c1).1 2 _ rfl
            have info3 : (Try.prog.info? 3).map (fun i => (i.zero, i.size, i.bytes)) = some (some (.int .i64 0), 1, 8) := by kernel_rfl
            clear hd hLd hbC htC hgC hR8 aq hok8 hH8 c10
            refine start_ (n := 18) (S := fun w' => w'.cell? ⟨g, 0, none⟩ = some (.slice (some ⟨gT, 0, none⟩) tr.length d0') ∧ w'.cell? ⟨gC, i.toNat * 3 + 2, none⟩ = some (.slice AB (rd_T69 ch i).f2.length cB)) (ds := [15, 17]) #[ff, ff, ff, ff, ff, ff, ff, ff, ff, ff, ff, ff, ff, ff, ff, ff, ff, ff] (by kernel_rfl) rfl rfl ⟨hu0, hu1⟩ (fun hHeld => ?_)
            refine zu 0 (some 86) #[tt, ff, ff, ff, ff, ff, ff, ff, ff, ff, ff, ff, ff, ff, ff, ff, ff, ff] (by kernel_rfl) ?_
            refine zu 1 (some 87) #[tt, tt, ff, ff, ff, ff, ff, ff, ff, ff, ff, ff, ff, ff, ff, ff, ff, ff] (by kernel_rfl) ?_
            refine zu 2 (some 88) #[tt, tt, tt, ff, ff, ff, ff, ff, ff, ff, ff, ff, ff, ff, ff, ff, ff, ff] (by kernel_rfl) ?_
            refine zu 3 (some 89) #[tt, tt, tt, tt, ff, ff, ff, ff, ff, ff, ff, ff, ff, ff, ff, ff, ff, ff] (by kernel_rfl) ?_
            refine zu 5 (some 91) #[tt, tt, tt, tt, ff, tt, ff, ff, ff, ff, ff, ff, ff, ff, ff, ff, ff, ff] (by kernel_rfl) ?_
            refine zu 6 (some 92) #[tt, tt, tt, tt, ff, tt, tt, ff, ff, ff, ff, ff, ff, ff, ff, ff, ff, ff] (by kernel_rfl) ?_
            refine zu 7 (some 93) #[tt, tt, tt, tt, ff, tt, tt, tt, ff, ff, ff, ff, ff, ff, ff, ff, ff, ff] (by kernel_rfl) ?_
            refine zu 8 (some 94) #[tt, tt, tt, tt, ff, tt, tt, tt, tt, ff, ff, ff, ff, ff, ff, ff, ff, ff] (by kernel_rfl) ?_
            refine zu 10 (some 96) #[tt, tt, tt, tt, ff, tt, tt, tt, tt, ff, tt, ff, ff, ff, ff, ff, ff, ff] (by kernel_rfl) ?_
            refine zt 4 (some 90) #[tt, tt, tt, tt, tt, tt, tt, tt, tt, ff, tt, ff, ff, ff, ff, ff, ff, ff] (by kernel_rfl) hHeld ?_
            refine zt 9 (some 95) #[tt, tt, tt, tt, tt, tt, tt, tt, tt, tt, tt, ff, ff, ff, ff, ff, ff, ff] (by kernel_rfl) hHeld ?_
            refine one_ (i := 11) (N := some 97) #[tt, tt, tt, tt, tt, tt, tt, tt, tt, tt, tt, tt, ff, ff, ff, ff, ff, ff] rfl rfl (by kernel_rfl) (by decide) (fun K hK => ?_)
            refine value_ (w1 := ?_) (v := ?_) (by rfl) rfl ?_ ?_
            rotate_left 2
            ·go_simp
             constructor
             ·rfl
             ·rfl
            refine hK.out _ _ ⟨pw_cell_below (zB (Below.refl _ _) _) hHeld.1, pw_cell_below (zB (Below.refl _ _) _) hHeld.2⟩ (fun hHeld => ?_)
            clear hK K
            refine norm_ (a' := ?_) ?_ ?_
            rotate_left
            ·show Act.put _ (some 97) _ = _
             simp only [Act.put, zp, zq, zr, i64_w, i32_w]
             rfl
            refine one_ (i := 12) (N := some 98) #[tt, tt, tt, tt, tt, tt, tt, tt, tt, tt, tt, tt, tt, ff, ff, ff, ff, ff] rfl rfl (by kernel_rfl) (by decide) (fun K hK => ?_)
            refine Kd.R_append_step (Kd.int .i64) (w0 := w0) (W := w8.drew) w0.heap.size (by rfl) (.tmp 95) (.tmp 97) 24 3 (.int .i64 0) 8 rfl Try.underlying24 info3 rfl (by decide) (by omega) (.slice AB (rd_T69 ch i).f2.length cB) (rd_T69 ch i).f2 (rd tr t) [.int .i64 (rd tr t)] oki (fun _ => False) rfl rfl ?aP (fun _ hk => hk.elim) ?aF ?aO ?aB ?aS ?aL ?_
            (case aP => exact rfl)
            (case aF => exact fun k hk => HFR8.out k hk)
            (case aO => exact ar.out)
            (case aB => exact below_drew n4.out)
            (case aS => exact n4.out.size)
            (case aL => have := HL9.out; omega)
            intro v9 w9 ho9 hb9 hg9 hat9
            obtain ⟨AC, kC, rfl⟩ := Kd.R_slice ho9
            rw [show ((rd_T69 ch i).f2 ++ [rd tr t]).length = (rd_T69 ch i).f2.length + 1 from by simp] at ho9 hat9
            obtain ⟨hcz, hfz, hLp⟩ := HLd.out.put i c2 c1 HOK8.out HGC.out ar.out HH8.out hg9 ho9
            have b3_ := blk_grown (w := w8.drew) (blk_below n3.out (below_drew (Below.refl _ _))) hg9 (Kd.R_ne ar.out (blk_below n3.out (below_drew (Below.refl _ _))) (by decide))
            obtain ⟨gT', eT', hbT', ⟨cT, htT⟩, hcT', hfT', hLT'⟩ := hLp.tray t c4 c5h 0
            cases eT'
            refine hK.out _ _ ⟨(blk_cell b3_ 0).trans rfl, hcz⟩ (fun hHeld => ?_)
            clear hK K
            refine norm_ (a' := ?_) ?_ ?_
            rotate_left
            ·show Act.put _ (some 98) _ = _
             simp only [Act.put, zp, zq, zr, i64_w, i32_w]
             rfl
            refine zu 13 (some 99) #[tt, tt, tt, tt, tt, tt, tt, tt, tt, tt, tt, tt, tt, tt, ff, ff, ff, ff] (by kernel_rfl) ?_
            refine zu 14 (some 100) #[tt, tt, tt, tt, tt, tt, tt, tt, tt, tt, tt, tt, tt, tt, tt, ff, ff, ff] (by kernel_rfl) ?_
            refine last_ (i := 15) (N := none) #[tt, tt, tt, tt, tt, tt, tt, tt, tt, tt, tt, tt, tt, tt, tt, tt, ff, ff] rfl rfl (by kernel_rfl) (by decide) (fun K hK => ?_)
            refine skip_ (w1 := ?_) (by rfl) rfl ?_ ?_
            rotate_left
            ·go_simp
             rfl
            refine hK.out _ _ ?_
            clear hK K
            refine zu 16 (some 101) #[tt, tt, tt, tt, tt, tt, tt, tt, tt, tt, tt, tt, tt, tt, tt, tt, tt, ff] (by kernel_rfl) ?_
            refine last_ (i := 17) (N := none) #[tt, tt, tt, tt, tt, tt, tt, tt, tt, tt, tt, tt, tt, tt, tt, tt, tt, tt] rfl rfl (by kernel_rfl) (by decide) (fun K hK => ?_)
            refine skip_ (w1 := ?_) (by rfl) rfl ?_ ?_
            rotate_left
            ·go_simp
             rfl
            refine hK.out _ _ ?_
            clear hK K
            refine done_ (by kernel_rfl) ?_
            obtain ⟨cC, hcC⟩ := HTC.out
            have hc9 := blk_grown hcC hg9 (fun e_ => (HOK8.out gC (ar.out.1 gC e_.symm)).2 rfl)
            have n3C : g ≠ gC := blk_ne b3_ hc9 (by decide)
            have b3' := blk_far (p := ⟨gC, i.toNat * 3 + 2, none⟩) b3_ n3C (.slice AC ((rd_T69 ch i).f2.length + 1) kC)
            have n3T : g ≠ gT := blk_ne b3' htT (by decide)
            have B3e := zK (blk_far (p := ⟨gT, t.toNat, none⟩) b3' n3T (.int .i64 0))
            have HLe := zK hLT'
            have HBe := zK (zS (g := gT) (j := t.toNat) (v := .int .i64 0) (zS (g := gC) (j := i.toNat * 3 + 2) (v := .slice AC ((rd_T69 ch i).f2.length + 1) kC) hb9 HBC.out) HBT.out)
            have HKe := zK (show ∀ (gk : Nat) (ck : Array Value), gk ≠ g → w.heap[gk]? = some (.cells ck 28 (0, 0)) → ((w9.setCell ⟨gC, i.toNat * 3 + 2, none⟩ (.slice AC ((rd_T69 ch i).f2.length + 1) kC)).setCell ⟨gT, t.toNat, none⟩ (.int .i64 0)).heap[gk]? = some (.cells ck 28 (0, 0)) from fun gk ck hne_ h_ => by
            have q1_ := blk_grown (w := w8.drew) (blk_below (n5.out gk ck hne_ h_) (below_drew (Below.refl _ _))) hg9 (Kd.R_ne ar.out (blk_below (n5.out gk ck hne_ h_) (below_drew (Below.refl _ _))) (by decide))
            have q2_ := blk_far (p := ⟨gC, i.toNat * 3 + 2, none⟩) q1_ (blk_ne q1_ hc9 (by decide)) (.slice AC ((rd_T69 ch i).f2.length + 1) kC)
            exact blk_far (p := ⟨gT, t.toNat, none⟩) q2_ (blk_ne q2_ htT (by decide)) (.int .i64 0))
            clear b3_ b3' hc9 hLT' hb9 hg9 hat9 ho9 hbT' hLp
            go_wp2
            go_roundg k1
            case measure => have := ab.out; omega
            case rel => exact ⟨wrap64 (i + 1), tr.set t.toNat 0, ch.set i.toNat ⟨(rd_T69 ch i).f0, (rd_T69 ch i).f1, (rd_T69 ch i).f2 ++ [rd tr t]⟩, rfl, by rw [List.length_set]; exact HLEN.out, H', ⟨by have := ab.out; omega⟩, HLe, B3e, HBe, HKe⟩
           ·rw [if_neg c10] at H
            exact absurd H (by simp)
         ·rw [if_neg c9] at H
          exact absurd H (by simp)
     ·rw [if_neg c5h] at H
      exact absurd H (by simp)
    ·rw [if_neg c4] at H
     exact absurd H (by simp)
   ·rw [if_neg c2] at H
    exact absurd H (by simp)
  ·rw [if_neg c1] at H
   have c1b : decide (i < (ch0.length : Int)) = false := decide_eq_false (by rw [← HLEN.out]; exact c1)
   simp only [Option.some.injEq, Prod.mk.injEq] at H
   obtain ⟨rfl, rfl, rfl⟩ := H
   go_wp2
   go_end0
   exact ⟨rfl, HL.out, ae.out, HB.out, HK.out⟩
def spec_l05Step.l0 : Nat → List Int → Int → List (S69) → List (S74) → Int → Option (List Int × Int × (List (S69)) × (List (S74)))
 | 0, _, _, _, _, _ => none
 | k + 1, tr, tu, ch, wa, i => if i < (ch.length : Int) then (if 0 ≤ i then ((spec_l05Tray.f tr tu ch wa (rd_T69 ch i).f0).bind fun t => (if 0 ≤ t then (if t < (tr.length : Int) then (if rd tr t = 0 then (spec_l05Step.l0 k tr tu ch wa (wrap64 (i + 1))) else ((spec_l05Wants.f k tr tu ch wa (rd tr t) i).bind fun b => (if b = true then (if ((rd_T69 ch i).f2.length : Int) < (rd_T69 ch i).f1 then (if (rd_T69 ch i).f2.length < 17592186044416 then (spec_l05Step.l0 k (tr.set t.toNat 0) tu (ch.set i.toNat ⟨(rd_T69 ch i).f0, (rd_T69 ch i).f1, (rd_T69 ch i).f2 ++ [rd tr t]⟩) wa (wrap64 (i + 1))) else (none)) else (spec_l05Step.l0 k tr tu ch wa (wrap64 (i + 1)))) else (spec_l05Step.l0 k tr tu ch wa (wrap64 (i + 1)))))) else (none)) else (none))) else (none)) else (some (tr, tu, ch, wa))
def spec_l05Step.f (k : Nat) (l0_0 : List Int) (a0_1 : Int) (l0_2 : List (S69)) (l0_3 : List (S74)) : Option (List Int × Int × (List (S69)) × (List (S74))) := (spec_l05Copy.f k l0_0 a0_1 l0_2 l0_3).bind fun bt => (if (bt.1.length : Int) = 0 then (none) else (spec_l05Step.l0 k bt.1 (Int.tmod (wrap64 (bt.2.1 + 1)) (bt.1.length : Int)) bt.2.2.1 bt.2.2.2 0))
set_option maxHeartbeats 8000000 in
set_option maxRecDepth 100000 in
theorem spec_l05Step.calls (k : Nat) (ah : Option Addr) (ai : Nat) (ac : List Int) (a0_1 : Int) (aj : Option Addr) (ak : Nat) (ae : List (S69)) (al : Option Addr) (am : Nat) (af : List (S74)) (r1 : List Int) (r2 : Int) (r3 : List (S69)) (r4 : List (S74)) (w : World) (ao : Kd.C (Kd.int .i64) w ah ac.length ac) (hc0_0 : ac.length ≤ ai) (ap : Kd.C k69 w aj ae.length ae) (hc0_2 : ae.length ≤ ak) (aq : Kd.C k74 w al af.length af) (hc0_3 : af.length ≤ am) (h : spec_l05Step.f k ac a0_1 ae af = some (r1, r2, r3, r4)) :
 Calls Try.prog 56 #[.agg #[.slice ah ac.length ai, .int .i64 a0_1, .slice aj ae.length ak, .slice al af.length am]] w fun e w' => ∃ v0_ v2_ v3_ : Value, e = .returned (.agg #[v0_, .int .i64 r2, v2_, v3_]) ∧ Kd.R (Kd.int .i64) 3 w' w.heap.size (fun _ => True) v0_ r1 ∧ Kd.S k69 69 w' w.heap.size (fun k_ => some k_ ≠ (v0_ : Value).ownBlock) v2_ r3 ∧ Kd.S k74 74 w' w.heap.size (fun k_ => some k_ ≠ (v0_ : Value).ownBlock) v3_ r4 ∧ Below w.heap.size w w' := by
 have hu28 := Try.underlying28; have hu69 := Try.underlying69; have HR0 := zK ao; have aC := zK hc0_0; have HR2 := zK ap; have az := zK hc0_2; have HR3 := zK aq; have aD := zK hc0_3; clear ao hc0_0 ap hc0_2 aq hc0_3
 have H : ((spec_l05Copy.f k ac a0_1 ae af).bind fun bt => (if (bt.1.length : Int) = 0 then (none) else (spec_l05Step.l0 k bt.1 (Int.tmod (wrap64 (bt.2.1 + 1)) (bt.1.length : Int)) bt.2.2.1 bt.2.2.2 0))) = some (r1, r2, r3, r4) := h
 clear h; replace H := Option.bind_eq_some_iff.mp H
 obtain ⟨⟨tr0, tu0, ch0, wa0⟩, A10, H⟩ := H
 have A1 := zK A10; clear A10
 replace H : (if (tr0.length : Int) = 0 then (none) else (spec_l05Step.l0 k tr0 (Int.tmod (wrap64 (tu0 + 1)) (tr0.length : Int)) ch0 wa0 0)) = some (r1, r2, r3, r4) := H
 by_cases c3 : (tr0.length : Int) = 0
 ·rw [if_pos c3] at H
  exact absurd H (by simp)
 rw [if_neg c3] at H
 have c3b0 : ((tr0.length : Int) == 0) = false := beq_eq_false_iff_ne.mpr c3
 have c3b1 : ((tr0.length : Int) != 0) = true := bne_iff_ne.mpr c3
 have c3b2 : ¬ (tr0 = []) := fun h_ => c3 (by rw [h_]; rfl)
 have H' := zK H; clear H
 go_enter Try.func56, Try.ntmps56
 go_wp2_with (first | ((with_reducible refine gate_dst (N := 1) rfl ?_); refine zX 1 #[.slice ah ac.length ai, .int .i64 a0_1, .slice aj ae.length ak, .slice al af.length am] 28 ?_; intro g1 hg w1 hbox hb; have HB := zK hb; have ar := zK hbox; clear hb hbox hg) | ((with_reducible refine gate_dst (N := 2) rfl ?_); refine zX 2 #[.slice none 0 0, .int .i64 0, .slice none 0 0, .slice none 0 0] 28 ?_; intro g2 hg w2 hbox hb; have n1 := zK (blk_below ar.out hb); have n2 := zK (below_step HB.out hb); have GE2 := zK (show w.heap.size ≤ g2 from by rw [hg]; exact HB.out.size); clear HB ar; have HB := n2; have ar := n1; clear n1 n2; have aa := zK hbox; clear hb hbox hg; have hz0 : w2.cell? ⟨g1, 0, none⟩ = some (.slice ah ac.length ai) := (blk_cell ar.out 0).trans rfl; have hz1 : w2.cell? ⟨g1, 1, none⟩ = some (.int .i64 a0_1) := (blk_cell ar.out 1).trans rfl; have hz2 : w2.cell? ⟨g1, 2, none⟩ = some (.slice aj ae.length ak) := (blk_cell ar.out 2).trans rfl; have hz3 : w2.cell? ⟨g1, 3, none⟩ = some (.slice al af.length am) := (blk_cell ar.out 3).trans rfl) | ((with_reducible refine gate_callee (f := 68) rfl ?_); refine goesL_ (some 8) rfl rfl Try.func68 (by kernel_rfl) rfl #[.agg #[.slice ah ac.length ai, .int .i64 a0_1, .slice aj ae.length ak, .slice al af.length am]] rfl zg ?_; (with_reducible refine (spec_l05Copy.calls2 k _ _ ac a0_1 _ _ ae _ _ af tr0 tu0 ch0 wa0 _ ?side1 aC.out ?side3 az.out ?side5 aD.out A1.out).mono ?_); (case side1 => exact zs (Kd.C_below HR0.out HB.out)); (case side3 => exact zs (Kd.C_below HR2.out HB.out)); (case side5 => exact zs (Kd.C_below HR3.out HB.out)); rintro e w3 ⟨v0, v2, v3, N_, rfl, ho0, ho2, ho3, hN, hb⟩; refine ⟨_, rfl, ?_⟩; have hB_ : Below w.heap.size w _ := (by repeat (first | exact HB.out | apply zB | apply zC | apply zE)); obtain ⟨PW, hL⟩ := LoopMem.mk (Kd.R_lower ho0 (below_size hB_)) (Kd.S_lower ho2 (below_size hB_)) ho3 (Nat.le_trans (below_size hB_) hN); have HL := zK hL; have n2 := zK (blk_below (zk aa) hb); have nb := zK (below_step hB_ hb); clear HB aa ar; have HB := nb; have aa := n2; clear nb n2 hb ho0 ho2 ho3 hN hB_ hL; obtain ⟨B0, d0, B2, d2, B3, d3, rfl, rfl, rfl, l0_, l2_, l3_, _, _, _⟩ := HL.out.reads; clear l0_ l2_ l3_) | ((with_reducible refine gate_dst (N := 3) rfl ?_); refine zX 3 #[.slice none 0 0, .int .i64 0, .slice none 0 0, .slice none 0 0] 28 ?_; intro g3 hg w4 hbox hb; have hB_ : Below w.heap.size w _ := (by repeat (first | exact HB.out | apply zB | apply zC | apply zE)); have n1 := zK (blk_below (zk aa) hb); have NB := zK (show g2 ≠ g3 from by rw [hg]; exact Nat.ne_of_lt (blk_lt (zk aa))); have n2 := zK (below_step hB_ hb); have aE := zK (show w.heap.size ≤ g3 from by rw [hg]; exact hB_.size); have n3 := zK (LoopMem.below (by repeat (first | exact HL.out | refine LoopMem.below ?_ (zB (Below.refl _ _) _) | refine LoopMem.below ?_ (zC (Below.refl _ _) _) | refine LoopMem.below ?_ (below_drew (Below.refl _ _)))) hb); clear HB aa HL; have HB := n2; have aa := n1; have HL := n3; clear n1 n2 n3 hB_; have ab := zK hbox; clear hb hbox hg; have av : w4.cell? ⟨g3, 0, none⟩ = some (.slice none 0 0) := (blk_cell ab.out 0).trans rfl; have aw : w4.cell? ⟨g3, 1, none⟩ = some (.int .i64 0) := (blk_cell ab.out 1).trans rfl; have ax : w4.cell? ⟨g3, 2, none⟩ = some (.slice none 0 0) := (blk_cell ab.out 2).trans rfl; have ay : w4.cell? ⟨g3, 3, none⟩ = some (.slice none 0 0) := (blk_cell ab.out 3).trans rfl; have hf0 := blk_frozen ab.out 0; have hf1 := blk_frozen ab.out 1; have hf2 := blk_frozen ab.out 2; have hf3 := blk_frozen ab.out 3))
 have BK3' : ((((((w4.setCell ⟨g3, 0, none⟩ (.slice B0 tr0.length d0)).setCell ⟨g3, 1, none⟩ (.int .i64 tu0)).setCell ⟨g3, 2, none⟩ (.slice B2 ch0.length d2)).setCell ⟨g3, 3, none⟩ (.slice B3 wa0.length d3)).setCell ⟨g3, 1, none⟩ (.int .i64 (Int.tmod (wrap64 (tu0 + 1)) (tr0.length : Int))))).heap[g3]? = some (.cells #[.slice B0 tr0.length d0, .int .i64 (Int.tmod (wrap64 (tu0 + 1)) (tr0.length : Int)), .slice B2 ch0.length d2, .slice B3 wa0.length d3] 28 (0, 0)) := blk_put (blk_put (blk_put (blk_put (blk_put ab.out 0 _ rfl) 1 _ rfl) 2 _ rfl) 3 _ rfl) 1 _ rfl
 have b0 := blk_put ab.out 0 (.slice B0 tr0.length d0) rfl
 have b1 := blk_put b0 1 (.int .i64 tu0) rfl
 have b2 := blk_put b1 2 (.slice B2 ch0.length d2) rfl
 have b3 := blk_put b2 3 (.slice B3 wa0.length d3) rfl
 have n1 := zK (((((HL.out.box ab.out 0 (.slice B0 tr0.length d0)).box b0 1 (.int .i64 tu0)).box b1 2 (.slice B2 ch0.length d2)).box b2 3 (.slice B3 wa0.length d3)).box b3 1 (.int .i64 (Int.tmod (wrap64 (tu0 + 1)) (tr0.length : Int))))
 have n2 := zK (blk_far (p := ⟨g3, 1, none⟩) (blk_far (p := ⟨g3, 3, none⟩) (blk_far (p := ⟨g3, 2, none⟩) (blk_far (p := ⟨g3, 1, none⟩) (blk_far (p := ⟨g3, 0, none⟩) aa.out NB.out (.slice B0 tr0.length d0)) NB.out (.int .i64 tu0)) NB.out (.slice B2 ch0.length d2)) NB.out (.slice B3 wa0.length d3)) NB.out (.int .i64 (Int.tmod (wrap64 (tu0 + 1)) (tr0.length : Int))))
 have n3 := zK (zS (j := 1) (v := .int .i64 (Int.tmod (wrap64 (tu0 + 1)) (tr0.length : Int))) (zS (j := 3) (v := .slice B3 wa0.length d3) (zS (j := 2) (v := .slice B2 ch0.length d2) (zS (j := 1) (v := .int .i64 tu0) (zS (j := 0) (v := .slice B0 tr0.length d0) HB.out aE.out) aE.out) aE.out) aE.out) aE.out)
 clear HL aa HB b0 b1 b2 b3 hz0 hz1 hz2 hz3 av aw ax ay hf0 hf1 hf2 hf3 c3b0 c3b1 c3b2; have HL := n1; have aa := n2; have HB := n3; clear n1 n2 n3 ab; have ab := zK BK3'; clear BK3'
 generalize Int.tmod (wrap64 (tu0 + 1)) (tr0.length : Int) = T at H' HL aa ab HB ⊢
 generalize Value.slice B0 tr0.length d0 = V0 at HL aa ab HB ⊢
 generalize Value.slice B2 ch0.length d2 = V2 at HL aa ab HB ⊢
 generalize Value.slice B3 wa0.length d3 = V3 at HL aa ab HB ⊢
 go_loopg [4] k (fun kq v4 w' => ∃ (i : Int) (tr : List Int) (ch : List S69), v4 = .int .i64 i ∧ Aside0 (spec_l05Step.l0 kq tr T ch wa0 i = some (r1, r2, r3, r4)) ∧ Aside0 (kq ≤ k) ∧ Aside0 (LoopMem w.heap.size w' PW V0 tr V2 ch V3 wa0) ∧ Aside0 (w'.heap[g2]? = some (.cells #[.slice none 0 0, .int .i64 0, .slice none 0 0, .slice none 0 0] 28 (0, 0))) ∧ Aside0 (w'.heap[g3]? = some (.cells #[V0, .int .i64 T, V2, V3] 28 (0, 0))) ∧ Aside0 (Below w.heap.size w w'))
 case atStart => exact ⟨0, tr0, ch0, rfl, H', ⟨Nat.le_refl _⟩, HL, aa, ab, HB⟩
 case round =>
 clear H' HL aa ab HB
 obtain ⟨i, tr, ch, rfl, HA, au, HL, aa, ab, HB⟩ := hrel
 cases gk with
 | zero => exact absurd HA.out (by simp [spec_l05Step.l0])
 | succ k1 =>
  have H := HA.out; clear HA
  simp only [spec_l05Step.l0] at H
  obtain ⟨B0', d0', B2', d2', B3', d3', e0, e2, e3, L0, L2, L3, C0, C2, C3⟩ := HL.out.reads
  subst e0 e2 e3
  have hz0 : wr.cell? ⟨g3, 0, none⟩ = some (.slice B0' tr.length d0') := (blk_cell ab.out 0).trans rfl
  have hz1 : wr.cell? ⟨g3, 1, none⟩ = some (.int .i64 T) := (blk_cell ab.out 1).trans rfl
  have hz2 : wr.cell? ⟨g3, 2, none⟩ = some (.slice B2' ch.length d2') := (blk_cell ab.out 2).trans rfl
  have hz3 : wr.cell? ⟨g3, 3, none⟩ = some (.slice B3' wa0.length d3') := (blk_cell ab.out 3).trans rfl
  by_cases c1 : i < (ch.length : Int)
  ·rw [if_pos c1] at H
   have c1b : decide (i < (ch.length : Int)) = true := decide_eq_true c1
   by_cases c2 : 0 ≤ i
   ·rw [if_pos c2] at H
    replace H := Option.bind_eq_some_iff.mp H
    obtain ⟨t, A60, H⟩ := H
    have A6 := zK A60; clear A60; have H' := zK H; clear H; have aC := zK C0; have az := zK C2; have aD := zK C3; have HL0 := zK L0; have HL2 := zK L2; have HL3 := zK L3; clear C0 C2 C3 L0 L2 L3
    obtain ⟨ad, A5, c5, e, hx0, hx1, hx2, hl5, hi5⟩ := at_T69 az.out i c2 c1
    cases e
    have p1 := eq_true c2
    have q1 : (i < ((ch.length : Nat) : Int)) = True := eq_true c1
    go_wp2
    refine start_ (n := 9) (S := fun w' => w'.cell? ⟨g3, 0, none⟩ = some (.slice B0' tr.length d0') ∧ w'.cell? ⟨g3, 1, none⟩ = some (.int .i64 T) ∧ w'.cell? ⟨g3, 2, none⟩ = some (.slice (some ad) ch.length d2') ∧ w'.cell? ⟨g3, 3, none⟩ = some (.slice B3' wa0.length d3') ∧ w'.cell? (ad.add (i.toNat * 3)) = some (.int .i64 (rd_T69 ch i).f0)) (ds := []) #[ff, ff, ff, ff, ff, ff, ff, ff, ff] (by kernel_rfl) rfl rfl ⟨hz0, hz1, hz2, hz3, hx0⟩ (fun hHeld => ?_)
    refine zu 1 (some 25) #[ff, tt, ff, ff, ff, ff, ff, ff, ff] (by kernel_rfl) ?_
    refine zu 3 (some 27) #[ff, tt, ff, tt, ff, ff, ff, ff, ff] (by kernel_rfl) ?_
    refine zt 0 (some 24) #[tt, tt, ff, tt, ff, ff, ff, ff, ff] (by kernel_rfl) hHeld ?_
    refine zt 2 (some 26) #[tt, tt, tt, tt, ff, ff, ff, ff, ff] (by kernel_rfl) hHeld ?_
    refine zu 4 (some 28) #[tt, tt, tt, tt, tt, ff, ff, ff, ff] (by kernel_rfl) ?_
    refine zu 5 (some 29) #[tt, tt, tt, tt, tt, tt, ff, ff, ff] (by kernel_rfl) ?_
    refine zt 6 (some 30) #[tt, tt, tt, tt, tt, tt, tt, ff, ff] (by kernel_rfl) hHeld ?_
    refine one_ (i := 7) (N := some 31) #[tt, tt, tt, tt, tt, tt, tt, tt, ff] rfl rfl (by kernel_rfl) (by decide) (fun K hK => ?_)
    refine goes_ Try.func77 (by kernel_rfl) rfl #[.agg #[.slice B0' tr.length d0', .int .i64 T, .slice (some ad) ch.length d2', .slice B3' wa0.length d3'], .int .i64 (rd_T69 ch i).f0] (by rfl) rfl rfl (by simp only [List.map_toArray, List.map_cons, List.map_nil]; rfl) ?_
    with_reducible refine (spec_l05Tray.calls B0' d0' tr T (some ad) d2' ch B3' d3' wa0 (rd_T69 ch i).f0 t _ (Kd.C_drew aC.out) HL0.out (Kd.C_drew az.out) HL2.out (Kd.C_drew aD.out) HL3.out A6.out).mono ?_
    rintro e w5 ⟨rfl, hb5⟩
    refine ⟨_, rfl, ?_⟩
    refine hK.out _ _ ⟨pw_cell_below hb5 hHeld.1, pw_cell_below hb5 hHeld.2.1, pw_cell_below hb5 hHeld.2.2.1, pw_cell_below hb5 hHeld.2.2.2.1, pw_cell_below hb5 hHeld.2.2.2.2⟩ (fun hHeld => ?_)
    clear hK K
    refine norm_ (a' := ?_) ?_ ?_
    rotate_left
    ·show Act.put _ (some 31) _ = _
     simp only [Act.put, zp, zq, zr, i64_w, i32_w]
     rfl
    refine zu 8 (some 5) #[tt, tt, tt, tt, tt, tt, tt, tt, tt] (by kernel_rfl) ?_
    refine done_ (by kernel_rfl) ?_
    have hbr : Below wr.heap.size wr w5 := below_then (below_drew (Below.refl _ _)) (Nat.le_refl _) hb5
    have aG := zK (HL.out.below hbr)
    have an := zK (blk_below aa.out hbr)
    have ag := zK (blk_below ab.out hbr)
    have HB5 := zK (below_step HB.out hbr)
    have C05 := zK (Kd.C_below aC.out hbr)
    have C25 := zK (Kd.C_below az.out hbr)
    have C35 := zK (Kd.C_below aD.out hbr)
    have av : w5.cell? ⟨g3, 0, none⟩ = some (.slice B0' tr.length d0') := (blk_cell ag.out 0).trans rfl
    have aw : w5.cell? ⟨g3, 1, none⟩ = some (.int .i64 T) := (blk_cell ag.out 1).trans rfl
    have ax : w5.cell? ⟨g3, 2, none⟩ = some (.slice (some ad) ch.length d2') := (blk_cell ag.out 2).trans rfl
    have ay : w5.cell? ⟨g3, 3, none⟩ = some (.slice B3' wa0.length d3') := (blk_cell ag.out 3).trans rfl
    have hw1 := pw_cell_below hbr hx1; have hw2 := pw_cell_below hbr hx2; have H := H'.out; clear H' hb5 hbr hz0 hz1 hz2 hz3 hx0 hx1 hx2 HL aa ab HB aC az aD
    by_cases c4 : 0 ≤ t
    ·rw [if_pos c4] at H
     by_cases c5h : t < (tr.length : Int)
     ·rw [if_pos c5h] at H
      have H' := zK H; clear H
      obtain ⟨gT, eT, hbT, _, hcT, hfT, hLT⟩ := aG.out.tray t c4 c5h 0
      cases eT
      have HBT := zK hbT; clear hbT hfT hLT; have p5 := eq_true c4
      have q5 : (t < ((tr.length : Nat) : Int)) = True := eq_true c5h
      go_wp2
      have H := H'.out; clear H'
      by_cases c6 : rd tr t = 0
      ·rw [if_pos c6] at H
       have c6a : (rd tr t == 0) = true := beq_iff_eq.mpr c6
       have c6b : (rd tr t != 0) = false := by rw [bne, c6a]; rfl
       have H' := zK H; clear H
       refine start_ (n := 24) (S := fun w' => w'.cell? ⟨g3, 0, none⟩ = some (.slice (some ⟨gT, 0, none⟩) tr.length d0') ∧ w'.cell? ⟨g3, 1, none⟩ = some (.int .i64 T) ∧ w'.cell? ⟨g3, 2, none⟩ = some (.slice (some ad) ch.length d2') ∧ w'.cell? ⟨g3, 3, none⟩ = some (.slice B3' wa0.length d3') ∧ w'.cell? ⟨(ad.add (i.toNat * 3)).block, (ad.add (i.toNat * 3)).off + 1, none⟩ = some (.int .i64 (rd_T69 ch i).f1) ∧ w'.cell? ⟨(ad.add (i.toNat * 3)).block, (ad.add (i.toNat * 3)).off + 2, none⟩ = some (.slice A5 (rd_T69 ch i).f2.length c5)) (ds := []) #[ff, ff, ff, ff, ff, ff, ff, ff, ff, ff, ff, ff, ff, ff, ff, ff, ff, ff, ff, ff, ff, ff, ff, ff] (by kernel_rfl) rfl rfl ⟨av, aw, ax, ay, hw1, hw2⟩ (fun hHeld => ?_)
       refine zu 0 (some 37) #[tt, ff, ff, ff, ff, ff, ff, ff, ff, ff, ff, ff, ff, ff, ff, ff, ff, ff, ff, ff, ff, ff, ff, ff] (by kernel_rfl) ?_
       refine zu 1 (some 38) #[tt, tt, ff, ff, ff, ff, ff, ff, ff, ff, ff, ff, ff, ff, ff, ff, ff, ff, ff, ff, ff, ff, ff, ff] (by kernel_rfl) ?_
       refine zu 2 (some 39) #[tt, tt, tt, ff, ff, ff, ff, ff, ff, ff, ff, ff, ff, ff, ff, ff, ff, ff, ff, ff, ff, ff, ff, ff] (by kernel_rfl) ?_
       refine pure_ (i := 3) (N := some 40) (v := undef) (a' := ?_) #[tt, tt, tt, tt, ff, ff, ff, ff, ff, ff, ff, ff, ff, ff, ff, ff, ff, ff, ff, ff, ff, ff, ff, ff] rfl rfl (by kernel_rfl) (fun _ _ _ h => h) (Or.inr ⟨by rfl, rfl⟩) ?_ ?_
       rotate_left
       ·simp only [Act.put, zp, zq, zr, i64_w, i32_w]
        rfl
       refine pure_ (i := 4) (N := some 41) (v := undef) (a' := ?_) #[tt, tt, tt, tt, tt, ff, ff, ff, ff, ff, ff, ff, ff, ff, ff, ff, ff, ff, ff, ff, ff, ff, ff, ff] rfl rfl (by kernel_rfl) (fun _ _ _ h => h) (Or.inr ⟨by rfl, rfl⟩) ?_ ?_
       rotate_left
       ·simp only [Act.put, zp, zq, zr, i64_w, i32_w]
        rfl
       refine pure_ (i := 5) (N := some 42) (v := undef) (a' := ?_) #[tt, tt, tt, tt, tt, tt, ff, ff, ff, ff, ff, ff, ff, ff, ff, ff, ff, ff, ff, ff, ff, ff, ff, ff] rfl rfl (by kernel_rfl) (fun _ _ _ h => h) (Or.inr ⟨by rfl, rfl⟩) ?_ ?_
       rotate_left
       ·simp only [Act.put, zp, zq, zr, i64_w, i32_w]
        rfl
       refine pure_ (i := 6) (N := some 43) (v := undef) (a' := ?_) #[tt, tt, tt, tt, tt, tt, tt, ff, ff, ff, ff, ff, ff, ff, ff, ff, ff, ff, ff, ff, ff, ff, ff, ff] rfl rfl (by kernel_rfl) (fun _ _ _ h => h) (Or.inr ⟨by rfl, rfl⟩) ?_ ?_
       rotate_left
       ·simp only [Act.put, zp, zq, zr, i64_w, i32_w]
        rfl
       refine zu 7 (some 44) #[tt, tt, tt, tt, tt, tt, tt, tt, ff, ff, ff, ff, ff, ff, ff, ff, ff, ff, ff, ff, ff, ff, ff, ff] (by kernel_rfl) ?_
       refine zu 8 (some 45) #[tt, tt, tt, tt, tt, tt, tt, tt, tt, ff, ff, ff, ff, ff, ff, ff, ff, ff, ff, ff, ff, ff, ff, ff] (by kernel_rfl) ?_
       refine pure_ (i := 9) (N := some 46) (v := undef) (a' := ?_) #[tt, tt, tt, tt, tt, tt, tt, tt, tt, tt, ff, ff, ff, ff, ff, ff, ff, ff, ff, ff, ff, ff, ff, ff] rfl rfl (by kernel_rfl) (fun _ _ _ h => h) (Or.inr ⟨by rfl, rfl⟩) ?_ ?_
       rotate_left
       ·simp only [Act.put, zp, zq, zr, i64_w, i32_w]
        rfl
       refine pure_ (i := 10) (N := some 47) (v := undef) (a' := ?_) #[tt, tt, tt, tt, tt, tt, tt, tt, tt, tt, tt, ff, ff, ff, ff, ff, ff, ff, ff, ff, ff, ff, ff, ff] rfl rfl (by kernel_rfl) (fun _ _ _ h => h) (Or.inr ⟨by rfl, rfl⟩) ?_ ?_
       rotate_left
       ·simp only [Act.put, zp, zq, zr, i64_w, i32_w]
        rfl
       refine pure_ (i := 11) (N := some 48) (v := undef) (a' := ?_) #[tt, tt, tt, tt, tt, tt, tt, tt, tt, tt, tt, tt, ff, ff, ff, ff, ff, ff, ff, ff, ff, ff, ff, ff] rfl rfl (by kernel_rfl) (fun _ _ _ h => h) (Or.inr ⟨by rfl, rfl⟩) ?_ ?_
       rotate_left
       ·simp only [Act.put, zp, zq, zr, i64_w, i32_w]
        rfl
       refine pure_ (i := 12) (N := some 49) (v := undef) (a' := ?_) #[tt, tt, tt, tt, tt, tt, tt, tt, tt, tt, tt, tt, tt, ff, ff, ff, ff, ff, ff, ff, ff, ff, ff, ff] rfl rfl (by kernel_rfl) (fun _ _ _ h => h) (Or.inr ⟨by rfl, rfl⟩) ?_ ?_
       rotate_left
       ·simp only [Act.put, zp, zq, zr, i64_w, i32_w]
        rfl
       refine pure_ (i := 13) (N := some 50) (v := undef) (a' := ?_) #[tt, tt, tt, tt, tt, tt, tt, tt, tt, tt, tt, tt, tt, tt, ff, ff, ff, ff, ff, ff, ff, ff, ff, ff] rfl rfl (by kernel_rfl) (fun _ _ _ h => h) (Or.inr ⟨by rfl, rfl⟩) ?_ ?_
       rotate_left
       ·simp only [Act.put, zp, zq, zr, i64_w, i32_w]
        rfl
       refine pure_ (i := 14) (N := some 51) (v := undef) (a' := ?_) #[tt, tt, tt, tt, tt, tt, tt, tt, tt, tt, tt, tt, tt, tt, tt, ff, ff, ff, ff, ff, ff, ff, ff, ff] rfl rfl (by kernel_rfl) (fun _ _ _ h => h) (Or.inr ⟨by rfl, rfl⟩) ?_ ?_
       rotate_left
       ·simp only [Act.put, zp, zq, zr, i64_w, i32_w]
        rfl
       refine pure_ (i := 15) (N := some 52) (v := undef) (a' := ?_) #[tt, tt, tt, tt, tt, tt, tt, tt, tt, tt, tt, tt, tt, tt, tt, tt, ff, ff, ff, ff, ff, ff, ff, ff] rfl rfl (by kernel_rfl) (fun _ _ _ h => h) (Or.inr ⟨by rfl, rfl⟩) ?_ ?_
       rotate_left
       ·simp only [Act.put, zp, zq, zr, i64_w, i32_w]
        rfl
       refine pure_ (i := 16) (N := some 53) (v := undef) (a' := ?_) #[tt, tt, tt, tt, tt, tt, tt, tt, tt, tt, tt, tt, tt, tt, tt, tt, tt, ff, ff, ff, ff, ff, ff, ff] rfl rfl (by kernel_rfl) (fun _ _ _ h => h) (Or.inr ⟨by rfl, rfl⟩) ?_ ?_
       rotate_left
       ·simp only [Act.put, zp, zq, zr, i64_w, i32_w]
        rfl
       refine pure_ (i := 17) (N := some 54) (v := undef) (a' := ?_) #[tt, tt, tt, tt, tt, tt, tt, tt, tt, tt, tt, tt, tt, tt, tt, tt, tt, tt, ff, ff, ff, ff, ff, ff] rfl rfl (by kernel_rfl) (fun _ _ _ h => h) (Or.inr ⟨by rfl, rfl⟩) ?_ ?_
       rotate_left
       ·simp only [Act.put, zp, zq, zr, i64_w, i32_w]
        rfl
       refine pure_ (i := 18) (N := some 55) (v := undef) (a' := ?_) #[tt, tt, tt, tt, tt, tt, tt, tt, tt, tt, tt, tt, tt, tt, tt, tt, tt, tt, tt, ff, ff, ff, ff, ff] rfl rfl (by kernel_rfl) (fun _ _ _ h => h) (Or.inr ⟨by rfl, rfl⟩) ?_ ?_
       rotate_left
       ·simp only [Act.put, zp, zq, zr, i64_w, i32_w]
        rfl
       refine pure_ (i := 19) (N := some 56) (v := undef) (a' := ?_) #[tt, tt, tt, tt, tt, tt, tt, tt, tt, tt, tt, tt, tt, tt, tt, tt, tt, tt, tt, tt, ff, ff, ff, ff] rfl rfl (by kernel_rfl) (fun _ _ _ h => h) (Or.inr ⟨by rfl, rfl⟩) ?_ ?_
       rotate_left
       ·simp only [Act.put, zp, zq, zr, i64_w, i32_w]
        rfl
       refine pure_ (i := 20) (N := some 57) (v := undef) (a' := ?_) #[tt, tt, tt, tt, tt, tt, tt, tt, tt, tt, tt, tt, tt, tt, tt, tt, tt, tt, tt, tt, tt, ff, ff, ff] rfl rfl (by kernel_rfl) (fun _ _ _ h => h) (Or.inr ⟨by rfl, rfl⟩) ?_ ?_
       rotate_left
       ·simp only [Act.put, zp, zq, zr, i64_w, i32_w]
        rfl
       refine pure_ (i := 21) (N := some 58) (v := undef) (a' := ?_) #[tt, tt, tt, tt, tt, tt, tt, tt, tt, tt, tt, tt, tt, tt, tt, tt, tt, tt, tt, tt, tt, tt, ff, ff] rfl rfl (by kernel_rfl) (fun _ _ _ h => h) (Or.inr ⟨by rfl, rfl⟩) ?_ ?_
       rotate_left
       ·simp only [Act.put, zp, zq, zr, i64_w, i32_w]
        rfl
       refine pure_ (i := 22) (N := some 59) (v := undef) (a' := ?_) #[tt, tt, tt, tt, tt, tt, tt, tt, tt, tt, tt, tt, tt, tt, tt, tt, tt, tt, tt, tt, tt, tt, tt, ff] rfl rfl (by kernel_rfl) (fun _ _ _ h => h) (Or.inr ⟨by rfl, rfl⟩) ?_ ?_
       rotate_left
       ·simp only [Act.put, zp, zq, zr, i64_w, i32_w]
        rfl
       refine zu 23 (some 60) #[tt, tt, tt, tt, tt, tt, tt, tt, tt, tt, tt, tt, tt, tt, tt, tt, tt, tt, tt, tt, tt, tt, tt, tt] (by kernel_rfl) ?_
       refine done_ (by kernel_rfl) ?_
       have hbr : Below w5.heap.size w5 w5.drew := below_drew (Below.refl _ _)
       go_wp2
       go_roundg k1
       case measure => have := au.out; omega
       case rel => exact ⟨wrap64 (i + 1), tr, ch, rfl, H', ⟨by have := au.out; omega⟩, ⟨aG.out.below hbr⟩, ⟨blk_below an.out hbr⟩, ⟨blk_below ag.out hbr⟩, ⟨below_step HB5.out hbr⟩⟩
      ·rw [if_neg c6] at H
       have c6a : (rd tr t == 0) = false := beq_eq_false_iff_ne.mpr c6
       have c6b : (rd tr t != 0) = true := bne_iff_ne.mpr c6
       replace H := Option.bind_eq_some_iff.mp H
       obtain ⟨b, A70, H⟩ := H
       have A7 := zK A70; clear A70; have H' := zK H; clear H
       cases b with
       | false =>
        refine start_ (n := 24) (S := fun w' => w'.cell? ⟨g3, 0, none⟩ = some (.slice (some ⟨gT, 0, none⟩) tr.length d0') ∧ w'.cell? ⟨g3, 1, none⟩ = some (.int .i64 T) ∧ w'.cell? ⟨g3, 2, none⟩ = some (.slice (some ad) ch.length d2') ∧ w'.cell? ⟨g3, 3, none⟩ = some (.slice B3' wa0.length d3') ∧ w'.cell? ⟨(ad.add (i.toNat * 3)).block, (ad.add (i.toNat * 3)).off + 1, none⟩ = some (.int .i64 (rd_T69 ch i).f1) ∧ w'.cell? ⟨(ad.add (i.toNat * 3)).block, (ad.add (i.toNat * 3)).off + 2, none⟩ = some (.slice A5 (rd_T69 ch i).f2.length c5)) (ds := []) #[ff, ff, ff, ff, ff, ff, ff, ff, ff, ff, ff, ff, ff, ff, ff, ff, ff, ff, ff, ff, ff, ff, ff, ff] (by kernel_rfl) rfl rfl ⟨av, aw, ax, ay, hw1, hw2⟩ (fun hHeld => ?_)
        refine zu 0 (some 37) #[tt, ff, ff, ff, ff, ff, ff, ff, ff, ff, ff, ff, ff, ff, ff, ff, ff, ff, ff, ff, ff, ff, ff, ff] (by kernel_rfl) ?_
        refine zu 1 (some 38) #[tt, tt, ff, ff, ff, ff, ff, ff, ff, ff, ff, ff, ff, ff, ff, ff, ff, ff, ff, ff, ff, ff, ff, ff] (by kernel_rfl) ?_
        refine zu 2 (some 39) #[tt, tt, tt, ff, ff, ff, ff, ff, ff, ff, ff, ff, ff, ff, ff, ff, ff, ff, ff, ff, ff, ff, ff, ff] (by kernel_rfl) ?_
        refine zu 4 (some 41) #[tt, tt, tt, ff, tt, ff, ff, ff, ff, ff, ff, ff, ff, ff, ff, ff, ff, ff, ff, ff, ff, ff, ff, ff] (by kernel_rfl) ?_
        refine zu 5 (some 42) #[tt, tt, tt, ff, tt, tt, ff, ff, ff, ff, ff, ff, ff, ff, ff, ff, ff, ff, ff, ff, ff, ff, ff, ff] (by kernel_rfl) ?_
        refine zt 3 (some 40) #[tt, tt, tt, tt, tt, tt, ff, ff, ff, ff, ff, ff, ff, ff, ff, ff, ff, ff, ff, ff, ff, ff, ff, ff] (by kernel_rfl) hHeld ?_
        refine one_ (i := 6) (N := some 43) #[tt, tt, tt, tt, tt, tt, tt, ff, ff, ff, ff, ff, ff, ff, ff, ff, ff, ff, ff, ff, ff, ff, ff, ff] rfl rfl (by kernel_rfl) (by decide) (fun K hK => ?_)
        refine goes_ Try.func91 (by kernel_rfl) rfl #[.agg #[.slice (some ⟨gT, 0, none⟩) tr.length d0', .int .i64 T, .slice (some ad) ch.length d2', .slice B3' wa0.length d3'], .int .i64 (rd tr t), .int .i64 i] (by rfl) rfl rfl (by simp only [List.map_toArray, List.map_cons, List.map_nil]; rfl) ?_
        with_reducible refine (spec_l05Wants.calls k1 (some ⟨gT, 0, none⟩) d0' tr T (some ad) d2' ch B3' d3' wa0 (rd tr t) i false _ (Kd.C_drew C05.out) HL0.out (Kd.C_drew C25.out) HL2.out (Kd.C_drew C35.out) HL3.out A7.out).mono ?_
        rintro e w6 ⟨rfl, hb6⟩
        refine ⟨_, rfl, ?_⟩
        refine hK.out _ _ ⟨pw_cell_below hb6 hHeld.1, pw_cell_below hb6 hHeld.2.1, pw_cell_below hb6 hHeld.2.2.1, pw_cell_below hb6 hHeld.2.2.2.1, pw_cell_below hb6 hHeld.2.2.2.2.1, pw_cell_below hb6 hHeld.2.2.2.2.2⟩ (fun hHeld => ?_)
        clear hK K
        refine norm_ (a' := ?_) ?_ ?_
        rotate_left
        ·show Act.put _ (some 43) _ = _
         simp only [Act.put, zp, zq, zr, i64_w, i32_w]
         rfl
        refine zu 7 (some 44) #[tt, tt, tt, tt, tt, tt, tt, tt, ff, ff, ff, ff, ff, ff, ff, ff, ff, ff, ff, ff, ff, ff, ff, ff] (by kernel_rfl) ?_
        refine zu 8 (some 45) #[tt, tt, tt, tt, tt, tt, tt, tt, tt, ff, ff, ff, ff, ff, ff, ff, ff, ff, ff, ff, ff, ff, ff, ff] (by kernel_rfl) ?_
        refine pure_ (i := 9) (N := some 46) (v := undef) (a' := ?_) #[tt, tt, tt, tt, tt, tt, tt, tt, tt, tt, ff, ff, ff, ff, ff, ff, ff, ff, ff, ff, ff, ff, ff, ff] rfl rfl (by kernel_rfl) (fun _ _ _ h => h) (Or.inr ⟨by rfl, rfl⟩) ?_ ?_
        rotate_left
        ·simp only [Act.put, zp, zq, zr, i64_w, i32_w]
         rfl
        refine pure_ (i := 10) (N := some 47) (v := undef) (a' := ?_) #[tt, tt, tt, tt, tt, tt, tt, tt, tt, tt, tt, ff, ff, ff, ff, ff, ff, ff, ff, ff, ff, ff, ff, ff] rfl rfl (by kernel_rfl) (fun _ _ _ h => h) (Or.inr ⟨by rfl, rfl⟩) ?_ ?_
        rotate_left
        ·simp only [Act.put, zp, zq, zr, i64_w, i32_w]
         rfl
        refine pure_ (i := 11) (N := some 48) (v := undef) (a' := ?_) #[tt, tt, tt, tt, tt, tt, tt, tt, tt, tt, tt, tt, ff, ff, ff, ff, ff, ff, ff, ff, ff, ff, ff, ff] rfl rfl (by kernel_rfl) (fun _ _ _ h => h) (Or.inr ⟨by rfl, rfl⟩) ?_ ?_
        rotate_left
        ·simp only [Act.put, zp, zq, zr, i64_w, i32_w]
         rfl
        refine pure_ (i := 12) (N := some 49) (v := undef) (a' := ?_) #[tt, tt, tt, tt, tt, tt, tt, tt, tt, tt, tt, tt, tt, ff, ff, ff, ff, ff, ff, ff, ff, ff, ff, ff] rfl rfl (by kernel_rfl) (fun _ _ _ h => h) (Or.inr ⟨by rfl, rfl⟩) ?_ ?_
        rotate_left
        ·simp only [Act.put, zp, zq, zr, i64_w, i32_w]
         rfl
        refine pure_ (i := 13) (N := some 50) (v := undef) (a' := ?_) #[tt, tt, tt, tt, tt, tt, tt, tt, tt, tt, tt, tt, tt, tt, ff, ff, ff, ff, ff, ff, ff, ff, ff, ff] rfl rfl (by kernel_rfl) (fun _ _ _ h => h) (Or.inr ⟨by rfl, rfl⟩) ?_ ?_
        rotate_left
        ·simp only [Act.put, zp, zq, zr, i64_w, i32_w]
         rfl
        refine pure_ (i := 14) (N := some 51) (v := undef) (a' := ?_) #[tt, tt, tt, tt, tt, tt, tt, tt, tt, tt, tt, tt, tt, tt, tt, ff, ff, ff, ff, ff, ff, ff, ff, ff] rfl rfl (by kernel_rfl) (fun _ _ _ h => h) (Or.inr ⟨by rfl, rfl⟩) ?_ ?_
        rotate_left
        ·simp only [Act.put, zp, zq, zr, i64_w, i32_w]
         rfl
        refine pure_ (i := 15) (N := some 52) (v := undef) (a' := ?_) #[tt, tt, tt, tt, tt, tt, tt, tt, tt, tt, tt, tt, tt, tt, tt, tt, ff, ff, ff, ff, ff, ff, ff, ff] rfl rfl (by kernel_rfl) (fun _ _ _ h => h) (Or.inr ⟨by rfl, rfl⟩) ?_ ?_
        rotate_left
        ·simp only [Act.put, zp, zq, zr, i64_w, i32_w]
         rfl
        refine pure_ (i := 16) (N := some 53) (v := undef) (a' := ?_) #[tt, tt, tt, tt, tt, tt, tt, tt, tt, tt, tt, tt, tt, tt, tt, tt, tt, ff, ff, ff, ff, ff, ff, ff] rfl rfl (by kernel_rfl) (fun _ _ _ h => h) (Or.inr ⟨by rfl, rfl⟩) ?_ ?_
        rotate_left
        ·simp only [Act.put, zp, zq, zr, i64_w, i32_w]
         rfl
        refine pure_ (i := 17) (N := some 54) (v := undef) (a' := ?_) #[tt, tt, tt, tt, tt, tt, tt, tt, tt, tt, tt, tt, tt, tt, tt, tt, tt, tt, ff, ff, ff, ff, ff, ff] rfl rfl (by kernel_rfl) (fun _ _ _ h => h) (Or.inr ⟨by rfl, rfl⟩) ?_ ?_
        rotate_left
        ·simp only [Act.put, zp, zq, zr, i64_w, i32_w]
         rfl
        refine pure_ (i := 18) (N := some 55) (v := undef) (a' := ?_) #[tt, tt, tt, tt, tt, tt, tt, tt, tt, tt, tt, tt, tt, tt, tt, tt, tt, tt, tt, ff, ff, ff, ff, ff] rfl rfl (by kernel_rfl) (fun _ _ _ h => h) (Or.inr ⟨by rfl, rfl⟩) ?_ ?_
        rotate_left
        ·simp only [Act.put, zp, zq, zr, i64_w, i32_w]
         rfl
        refine pure_ (i := 19) (N := some 56) (v := undef) (a' := ?_) #[tt, tt, tt, tt, tt, tt, tt, tt, tt, tt, tt, tt, tt, tt, tt, tt, tt, tt, tt, tt, ff, ff, ff, ff] rfl rfl (by kernel_rfl) (fun _ _ _ h => h) (Or.inr ⟨by rfl, rfl⟩) ?_ ?_
        rotate_left
        ·simp only [Act.put, zp, zq, zr, i64_w, i32_w]
         rfl
        refine pure_ (i := 20) (N := some 57) (v := undef) (a' := ?_) #[tt, tt, tt, tt, tt, tt, tt, tt, tt, tt, tt, tt, tt, tt, tt, tt, tt, tt, tt, tt, tt, ff, ff, ff] rfl rfl (by kernel_rfl) (fun _ _ _ h => h) (Or.inr ⟨by rfl, rfl⟩) ?_ ?_
        rotate_left
        ·simp only [Act.put, zp, zq, zr, i64_w, i32_w]
         rfl
        refine pure_ (i := 21) (N := some 58) (v := undef) (a' := ?_) #[tt, tt, tt, tt, tt, tt, tt, tt, tt, tt, tt, tt, tt, tt, tt, tt, tt, tt, tt, tt, tt, tt, ff, ff] rfl rfl (by kernel_rfl) (fun _ _ _ h => h) (Or.inr ⟨by rfl, rfl⟩) ?_ ?_
        rotate_left
        ·simp only [Act.put, zp, zq, zr, i64_w, i32_w]
         rfl
        refine pure_ (i := 22) (N := some 59) (v := undef) (a' := ?_) #[tt, tt, tt, tt, tt, tt, tt, tt, tt, tt, tt, tt, tt, tt, tt, tt, tt, tt, tt, tt, tt, tt, tt, ff] rfl rfl (by kernel_rfl) (fun _ _ _ h => h) (Or.inr ⟨by rfl, rfl⟩) ?_ ?_
        rotate_left
        ·simp only [Act.put, zp, zq, zr, i64_w, i32_w]
         rfl
        refine zu 23 (some 60) #[tt, tt, tt, tt, tt, tt, tt, tt, tt, tt, tt, tt, tt, tt, tt, tt, tt, tt, tt, tt, tt, tt, tt, tt] (by kernel_rfl) ?_
        refine done_ (by kernel_rfl) ?_
        have hbr : Below w5.heap.size w5 w6 := below_then (below_drew (Below.refl _ _)) (Nat.le_refl _) hb6
        have n1 := zK (aG.out.below hbr)
        have n2 := zK (blk_below an.out hbr)
        have n3 := zK (blk_below ag.out hbr)
        have n4 := zK (below_step HB5.out hbr)
        have H2 := zK (show spec_l05Step.l0 k1 tr T ch wa0 (wrap64 (i + 1)) = some (r1, r2, r3, r4) from by have h_ := H'.out; rwa [if_neg (by simp)] at h_)
        go_wp2
        go_roundg k1
        case measure => have := au.out; omega
        case rel => exact ⟨wrap64 (i + 1), tr, ch, rfl, H2, ⟨by have := au.out; omega⟩, n1, n2, n3, n4⟩
       | true =>
        have H := H'.out; clear H'
        rw [if_pos rfl] at H
        by_cases c8 : ((rd_T69 ch i).f2.length : Int) < (rd_T69 ch i).f1
        ·rw [if_pos c8] at H
         have c8b : decide (((rd_T69 ch i).f2.length : Int) < (rd_T69 ch i).f1) = true := decide_eq_true c8
         by_cases c9 : (rd_T69 ch i).f2.length < 17592186044416
         ·rw [if_pos c9] at H
          have H' := zK H; clear H
          refine start_ (n := 24) (S := fun w' => w'.cell? ⟨g3, 0, none⟩ = some (.slice (some ⟨gT, 0, none⟩) tr.length d0') ∧ w'.cell? ⟨g3, 1, none⟩ = some (.int .i64 T) ∧ w'.cell? ⟨g3, 2, none⟩ = some (.slice (some ad) ch.length d2') ∧ w'.cell? ⟨g3, 3, none⟩ = some (.slice B3' wa0.length d3') ∧ w'.cell? ⟨(ad.add (i.toNat * 3)).block, (ad.add (i.toNat * 3)).off + 1, none⟩ = some (.int .i64 (rd_T69 ch i).f1) ∧ w'.cell? ⟨(ad.add (i.toNat * 3)).block, (ad.add (i.toNat * 3)).off + 2, none⟩ = some (.slice A5 (rd_T69 ch i).f2.length c5)) (ds := []) #[ff, ff, ff, ff, ff, ff, ff, ff, ff, ff, ff, ff, ff, ff, ff, ff, ff, ff, ff, ff, ff, ff, ff, ff] (by kernel_rfl) rfl rfl ⟨av, aw, ax, ay, hw1, hw2⟩ (fun hHeld => ?_)
          refine zu 0 (some 37) #[tt, ff, ff, ff, ff, ff, ff, ff, ff, ff, ff, ff, ff, ff, ff, ff, ff, ff, ff, ff, ff, ff, ff, ff] (by kernel_rfl) ?_
          refine zu 1 (some 38) #[tt, tt, ff, ff, ff, ff, ff, ff, ff, ff, ff, ff, ff, ff, ff, ff, ff, ff, ff, ff, ff, ff, ff, ff] (by kernel_rfl) ?_
          refine zu 2 (some 39) #[tt, tt, tt, ff, ff, ff, ff, ff, ff, ff, ff, ff, ff, ff, ff, ff, ff, ff, ff, ff, ff, ff, ff, ff] (by kernel_rfl) ?_
          refine zu 4 (some 41) #[tt, tt, tt, ff, tt, ff, ff, ff, ff, ff, ff, ff, ff, ff, ff, ff, ff, ff, ff, ff, ff, ff, ff, ff] (by kernel_rfl) ?_
          refine zu 5 (some 42) #[tt, tt, tt, ff, tt, tt, ff, ff, ff, ff, ff, ff, ff, ff, ff, ff, ff, ff, ff, ff, ff, ff, ff, ff] (by kernel_rfl) ?_
          refine zt 3 (some 40) #[tt, tt, tt, tt, tt, tt, ff, ff, ff, ff, ff, ff, ff, ff, ff, ff, ff, ff, ff, ff, ff, ff, ff, ff] (by kernel_rfl) hHeld ?_
          refine one_ (i := 6) (N := some 43) #[tt, tt, tt, tt, tt, tt, tt, ff, ff, ff, ff, ff, ff, ff, ff, ff, ff, ff, ff, ff, ff, ff, ff, ff] rfl rfl (by kernel_rfl) (by decide) (fun K hK => ?_)
          refine goes_ Try.func91 (by kernel_rfl) rfl #[.agg #[.slice (some ⟨gT, 0, none⟩) tr.length d0', .int .i64 T, .slice (some ad) ch.length d2', .slice B3' wa0.length d3'], .int .i64 (rd tr t), .int .i64 i] (by rfl) rfl rfl (by simp only [List.map_toArray, List.map_cons, List.map_nil]; rfl) ?_
          with_reducible refine (spec_l05Wants.calls k1 (some ⟨gT, 0, none⟩) d0' tr T (some ad) d2' ch B3' d3' wa0 (rd tr t) i true _ (Kd.C_drew C05.out) HL0.out (Kd.C_drew C25.out) HL2.out (Kd.C_drew C35.out) HL3.out A7.out).mono ?_
          rintro e w6 ⟨rfl, hb6⟩
          refine ⟨_, rfl, ?_⟩
          refine hK.out _ _ ⟨pw_cell_below hb6 hHeld.1, pw_cell_below hb6 hHeld.2.1, pw_cell_below hb6 hHeld.2.2.1, pw_cell_below hb6 hHeld.2.2.2.1, pw_cell_below hb6 hHeld.2.2.2.2.1, pw_cell_below hb6 hHeld.2.2.2.2.2⟩ (fun hHeld => ?_)
          clear hK K
          refine norm_ (a' := ?_) ?_ ?_
          rotate_left
          ·show Act.put _ (some 43) _ = _
           simp only [Act.put, zp, zq, zr, i64_w, i32_w]
           rfl
          refine zu 7 (some 44) #[tt, tt, tt, tt, tt, tt, tt, tt, ff, ff, ff, ff, ff, ff, ff, ff, ff, ff, ff, ff, ff, ff, ff, ff] (by kernel_rfl) ?_
          refine zu 8 (some 45) #[tt, tt, tt, tt, tt, tt, tt, tt, tt, ff, ff, ff, ff, ff, ff, ff, ff, ff, ff, ff, ff, ff, ff, ff] (by kernel_rfl) ?_
          refine zu 9 (some 46) #[tt, tt, tt, tt, tt, tt, tt, tt, tt, tt, ff, ff, ff, ff, ff, ff, ff, ff, ff, ff, ff, ff, ff, ff] (by kernel_rfl) ?_
          refine zu 11 (some 48) #[tt, tt, tt, tt, tt, tt, tt, tt, tt, tt, ff, tt, ff, ff, ff, ff, ff, ff, ff, ff, ff, ff, ff, ff] (by kernel_rfl) ?_
          refine zu 16 (some 53) #[tt, tt, tt, tt, tt, tt, tt, tt, tt, tt, ff, tt, ff, ff, ff, ff, tt, ff, ff, ff, ff, ff, ff, ff] (by kernel_rfl) ?_
          refine zu 18 (some 55) #[tt, tt, tt, tt, tt, tt, tt, tt, tt, tt, ff, tt, ff, ff, ff, ff, tt, ff, tt, ff, ff, ff, ff, ff] (by kernel_rfl) ?_
          refine zt 10 (some 47) #[tt, tt, tt, tt, tt, tt, tt, tt, tt, tt, tt, tt, ff, ff, ff, ff, tt, ff, tt, ff, ff, ff, ff, ff] (by kernel_rfl) hHeld ?_
          refine zu 12 (some 49) #[tt, tt, tt, tt, tt, tt, tt, tt, tt, tt, tt, tt, tt, ff, ff, ff, tt, ff, tt, ff, ff, ff, ff, ff] (by kernel_rfl) ?_
          refine zu 13 (some 50) #[tt, tt, tt, tt, tt, tt, tt, tt, tt, tt, tt, tt, tt, tt, ff, ff, tt, ff, tt, ff, ff, ff, ff, ff] (by kernel_rfl) ?_
          refine zt 14 (some 51) #[tt, tt, tt, tt, tt, tt, tt, tt, tt, tt, tt, tt, tt, tt, tt, ff, tt, ff, tt, ff, ff, ff, ff, ff] (by kernel_rfl) hHeld ?_
          refine zu 15 (some 52) #[tt, tt, tt, tt, tt, tt, tt, tt, tt, tt, tt, tt, tt, tt, tt, tt, tt, ff, tt, ff, ff, ff, ff, ff] (by kernel_rfl) ?_
          refine zt 17 (some 54) #[tt, tt, tt, tt, tt, tt, tt, tt, tt, tt, tt, tt, tt, tt, tt, tt, tt, tt, tt, ff, ff, ff, ff, ff] (by kernel_rfl) hHeld ?_
          refine zu 19 (some 56) #[tt, tt, tt, tt, tt, tt, tt, tt, tt, tt, tt, tt, tt, tt, tt, tt, tt, tt, tt, tt, ff, ff, ff, ff] (by kernel_rfl) ?_
          refine zu 20 (some 57) #[tt, tt, tt, tt, tt, tt, tt, tt, tt, tt, tt, tt, tt, tt, tt, tt, tt, tt, tt, tt, tt, ff, ff, ff] (by kernel_rfl) ?_
          refine zt 21 (some 58) #[tt, tt, tt, tt, tt, tt, tt, tt, tt, tt, tt, tt, tt, tt, tt, tt, tt, tt, tt, tt, tt, tt, ff, ff] (by kernel_rfl) hHeld ?_
          refine zu 22 (some 59) #[tt, tt, tt, tt, tt, tt, tt, tt, tt, tt, tt, tt, tt, tt, tt, tt, tt, tt, tt, tt, tt, tt, tt, ff] (by kernel_rfl) ?_
          refine zu 23 (some 60) #[tt, tt, tt, tt, tt, tt, tt, tt, tt, tt, tt, tt, tt, tt, tt, tt, tt, tt, tt, tt, tt, tt, tt, tt] (by kernel_rfl) ?_
          refine done_ (by kernel_rfl) ?_
          have hbr : Below w5.heap.size w5 w6 := below_then (below_drew (Below.refl _ _)) (Nat.le_refl _) hb6
          have n1 := zK (aG.out.below hbr)
          have n2 := zK (blk_below an.out hbr)
          have n3 := zK (blk_below ag.out hbr)
          have n4 := zK (below_step HB5.out hbr)
          clear hb6
          go_wp2
          have hd : Below w6.heap.size w6 w6.drew := below_drew (Below.refl _ _)
          have hLd := n1.out.below hd
          obtain ⟨gC, A8, c8_, oki, eC, hbC, htC, hgC, hR8, aH, hok8, hH8⟩ := hLd.lend i c2 c1
          cases eC
          have HLd := zK hLd; have HBC := zK hbC; have HTC := zK htC; have HGC := zK hgC; have aA := zK hR8; have HFR8 := zK aH; have HOK8 := zK hok8; have HH8 := zK hH8; have HL9 := zK c9
          have hu0 : w6.cell? ⟨g3, 2, none⟩ = some (.slice (some ⟨gC, 0, none⟩) ch.length d2') := (blk_cell n3.out 2).trans rfl
          have hu1 : w6.cell? ⟨gC, i.toNat * 3 + 2, none⟩ = some (.slice A8 (rd_T69 ch i).f2.length c8_) := (Kd.H_at hH8 c2 c1).1 2 _ rfl
          have info3 : (Try.prog.info? 3).map (fun i => (i.zero, i.size, i.bytes)) = some (some (.int .i64 0), 1, 8) := by kernel_rfl
          clear hd hLd hbC htC hgC hR8 aH hok8 hH8 c9
          refine start_ (n := 15) (S := fun w' => w'.cell? ⟨g3, 2, none⟩ = some (.slice (some ⟨gC, 0, none⟩) ch.length d2') ∧ w'.cell? ⟨gC, i.toNat * 3 + 2, none⟩ = some (.slice A8 (rd_T69 ch i).f2.length c8_)) (ds := [14]) #[ff, ff, ff, ff, ff, ff, ff, ff, ff, ff, ff, ff, ff, ff, ff] (by kernel_rfl) rfl rfl ⟨hu0, hu1⟩ (fun hHeld => ?_)
          refine zu 0 (some 61) #[tt, ff, ff, ff, ff, ff, ff, ff, ff, ff, ff, ff, ff, ff, ff] (by kernel_rfl) ?_
          refine zu 2 (some 63) #[tt, ff, tt, ff, ff, ff, ff, ff, ff, ff, ff, ff, ff, ff, ff] (by kernel_rfl) ?_
          refine zu 3 (some 64) #[tt, ff, tt, tt, ff, ff, ff, ff, ff, ff, ff, ff, ff, ff, ff] (by kernel_rfl) ?_
          refine zu 5 (some 66) #[tt, ff, tt, tt, ff, tt, ff, ff, ff, ff, ff, ff, ff, ff, ff] (by kernel_rfl) ?_
          refine zu 9 (some 70) #[tt, ff, tt, tt, ff, tt, ff, ff, ff, tt, ff, ff, ff, ff, ff] (by kernel_rfl) ?_
          refine zt 1 (some 62) #[tt, tt, tt, tt, ff, tt, ff, ff, ff, tt, ff, ff, ff, ff, ff] (by kernel_rfl) hHeld ?_
          refine zt 4 (some 65) #[tt, tt, tt, tt, tt, tt, ff, ff, ff, tt, ff, ff, ff, ff, ff] (by kernel_rfl) hHeld ?_
          refine zu 6 (some 67) #[tt, tt, tt, tt, tt, tt, tt, ff, ff, tt, ff, ff, ff, ff, ff] (by kernel_rfl) ?_
          refine zu 7 (some 68) #[tt, tt, tt, tt, tt, tt, tt, tt, ff, tt, ff, ff, ff, ff, ff] (by kernel_rfl) ?_
          refine zt 8 (some 69) #[tt, tt, tt, tt, tt, tt, tt, tt, tt, tt, ff, ff, ff, ff, ff] (by kernel_rfl) hHeld ?_
          refine one_ (i := 10) (N := some 71) #[tt, tt, tt, tt, tt, tt, tt, tt, tt, tt, tt, ff, ff, ff, ff] rfl rfl (by kernel_rfl) (by decide) (fun K hK => ?_)
          refine value_ (w1 := ?_) (v := ?_) (by rfl) rfl ?_ ?_
          rotate_left 2
          ·go_simp
           constructor
           ·rfl
           ·rfl
          refine hK.out _ _ ⟨pw_cell_below (zB (Below.refl _ _) _) hHeld.1, pw_cell_below (zB (Below.refl _ _) _) hHeld.2⟩ (fun hHeld => ?_)
          clear hK K
          refine norm_ (a' := ?_) ?_ ?_
          rotate_left
          ·show Act.put _ (some 71) _ = _
           simp only [Act.put, zp, zq, zr, i64_w, i32_w]
           rfl
          refine one_ (i := 11) (N := some 72) #[tt, tt, tt, tt, tt, tt, tt, tt, tt, tt, tt, tt, ff, ff, ff] rfl rfl (by kernel_rfl) (by decide) (fun K hK => ?_)
          refine Kd.R_append_step (Kd.int .i64) (w0 := w) (W := w6.drew) w.heap.size (by rfl) (.tmp 69) (.tmp 71) 24 3 (.int .i64 0) 8 rfl Try.underlying24 info3 rfl (by decide) (by omega) (.slice A8 (rd_T69 ch i).f2.length c8_) (rd_T69 ch i).f2 (rd tr t) [.int .i64 (rd tr t)] oki (fun _ => False) rfl rfl ?aP (fun _ hk => hk.elim) ?aF ?aO ?aB ?aS ?aL ?_
          (case aP => exact rfl)
          (case aF => exact fun k hk => HFR8.out k hk)
          (case aO => exact aA.out)
          (case aB => exact below_drew n4.out)
          (case aS => exact n4.out.size)
          (case aL => have := HL9.out; omega)
          intro v7 w7 ho7 hb7 hg7 hat7
          obtain ⟨A9, k9, rfl⟩ := Kd.R_slice ho7
          rw [show ((rd_T69 ch i).f2 ++ [rd tr t]).length = (rd_T69 ch i).f2.length + 1 from by simp] at ho7 hat7
          obtain ⟨hcz, hfz, hLp⟩ := HLd.out.put i c2 c1 HOK8.out HGC.out aA.out HH8.out hg7 ho7
          have b3_ := blk_grown (w := w6.drew) (blk_below n3.out (below_drew (Below.refl _ _))) hg7 (Kd.R_ne aA.out (blk_below n3.out (below_drew (Below.refl _ _))) (by decide))
          refine hK.out _ _ ⟨(blk_cell b3_ 2).trans rfl, hcz⟩ (fun hHeld => ?_)
          clear hK K
          refine norm_ (a' := ?_) ?_ ?_
          rotate_left
          ·show Act.put _ (some 72) _ = _
           simp only [Act.put, zp, zq, zr, i64_w, i32_w]
           rfl
          refine zu 12 (some 73) #[tt, tt, tt, tt, tt, tt, tt, tt, tt, tt, tt, tt, tt, ff, ff] (by kernel_rfl) ?_
          refine zu 13 (some 74) #[tt, tt, tt, tt, tt, tt, tt, tt, tt, tt, tt, tt, tt, tt, ff] (by kernel_rfl) ?_
          refine last_ (i := 14) (N := none) #[tt, tt, tt, tt, tt, tt, tt, tt, tt, tt, tt, tt, tt, tt, tt] rfl rfl (by kernel_rfl) (by decide) (fun K hK => ?_)
          refine skip_ (w1 := ?_) (by rfl) rfl ?_ ?_
          rotate_left
          ·go_simp
           rfl
          refine hK.out _ _ ?_
          clear hK K
          refine done_ (by kernel_rfl) ?_
          have b2 := blk_grown (w := w6.drew) (blk_below n2.out (below_drew (Below.refl _ _))) hg7 (Kd.R_ne aA.out (blk_below n2.out (below_drew (Below.refl _ _))) (by decide))
          have b3 := blk_grown (w := w6.drew) (blk_below n3.out (below_drew (Below.refl _ _))) hg7 (Kd.R_ne aA.out (blk_below n3.out (below_drew (Below.refl _ _))) (by decide))
          obtain ⟨cC, hcC⟩ := HTC.out
          have hc7 := blk_grown hcC hg7 (fun e_ => (HOK8.out gC (aA.out.1 gC e_.symm)).2 rfl)
          have n23 : g2 ≠ gC := blk_ne b2 hc7 (by decide)
          have n33 : g3 ≠ gC := blk_ne b3 hc7 (by decide)
          have b2' := blk_far (p := ⟨gC, i.toNat * 3 + 2, none⟩) b2 n23 (.slice A9 ((rd_T69 ch i).f2.length + 1) k9)
          have b3' := blk_far (p := ⟨gC, i.toNat * 3 + 2, none⟩) b3 n33 (.slice A9 ((rd_T69 ch i).f2.length + 1) k9)
          obtain ⟨gT', eT', hbT', ⟨cT, htT⟩, hcT', hfT', hLT'⟩ := hLp.tray t c4 c5h 0
          cases eT'
          have n2T : g2 ≠ gT := blk_ne b2' htT (by decide)
          have n3T : g3 ≠ gT := blk_ne b3' htT (by decide)
          have B2e := zK (blk_far (p := ⟨gT, t.toNat, none⟩) b2' n2T (.int .i64 0))
          have B3e := zK (blk_far (p := ⟨gT, t.toNat, none⟩) b3' n3T (.int .i64 0))
          have HLe := zK hLT'
          have HBe := zK (zS (g := gT) (j := t.toNat) (v := .int .i64 0) (zS (g := gC) (j := i.toNat * 3 + 2) (v := .slice A9 ((rd_T69 ch i).f2.length + 1) k9) hb7 HBC.out) HBT.out)
          have hv0 : (w7.setCell ⟨gC, i.toNat * 3 + 2, none⟩ (.slice A9 ((rd_T69 ch i).f2.length + 1) k9)).cell? ⟨g3, 0, none⟩ = some (.slice (some ⟨gT, 0, none⟩) tr.length d0') := (blk_cell b3' 0).trans rfl
          clear b2 b3 b2' b3' hc7 hLT' hb7 hg7 hat7 ho7 hbT' hLp
          go_wp2
          go_roundg k1
          case measure => have := au.out; omega
          case rel => exact ⟨wrap64 (i + 1), tr.set t.toNat 0, ch.set i.toNat ⟨(rd_T69 ch i).f0, (rd_T69 ch i).f1, (rd_T69 ch i).f2 ++ [rd tr t]⟩, rfl, H', ⟨by have := au.out; omega⟩, HLe, B2e, B3e, HBe⟩
         ·rw [if_neg c9] at H
          exact absurd H (by simp)
        ·rw [if_neg c8] at H
         have c8b : decide (((rd_T69 ch i).f2.length : Int) < (rd_T69 ch i).f1) = false := decide_eq_false c8
         have H' := zK H; clear H
         refine start_ (n := 24) (S := fun w' => w'.cell? ⟨g3, 0, none⟩ = some (.slice (some ⟨gT, 0, none⟩) tr.length d0') ∧ w'.cell? ⟨g3, 1, none⟩ = some (.int .i64 T) ∧ w'.cell? ⟨g3, 2, none⟩ = some (.slice (some ad) ch.length d2') ∧ w'.cell? ⟨g3, 3, none⟩ = some (.slice B3' wa0.length d3') ∧ w'.cell? ⟨(ad.add (i.toNat * 3)).block, (ad.add (i.toNat * 3)).off + 1, none⟩ = some (.int .i64 (rd_T69 ch i).f1) ∧ w'.cell? ⟨(ad.add (i.toNat * 3)).block, (ad.add (i.toNat * 3)).off + 2, none⟩ = some (.slice A5 (rd_T69 ch i).f2.length c5)) (ds := []) #[ff, ff, ff, ff, ff, ff, ff, ff, ff, ff, ff, ff, ff, ff, ff, ff, ff, ff, ff, ff, ff, ff, ff, ff] (by kernel_rfl) rfl rfl ⟨av, aw, ax, ay, hw1, hw2⟩ (fun hHeld => ?_)
         refine zu 0 (some 37) #[tt, ff, ff, ff, ff, ff, ff, ff, ff, ff, ff, ff, ff, ff, ff, ff, ff, ff, ff, ff, ff, ff, ff, ff] (by kernel_rfl) ?_
         refine zu 1 (some 38) #[tt, tt, ff, ff, ff, ff, ff, ff, ff, ff, ff, ff, ff, ff, ff, ff, ff, ff, ff, ff, ff, ff, ff, ff] (by kernel_rfl) ?_
         refine zu 2 (some 39) #[tt, tt, tt, ff, ff, ff, ff, ff, ff, ff, ff, ff, ff, ff, ff, ff, ff, ff, ff, ff, ff, ff, ff, ff] (by kernel_rfl) ?_
         refine zu 4 (some 41) #[tt, tt, tt, ff, tt, ff, ff, ff, ff, ff, ff, ff, ff, ff, ff, ff, ff, ff, ff, ff, ff, ff, ff, ff] (by kernel_rfl) ?_
         refine zu 5 (some 42) #[tt, tt, tt, ff, tt, tt, ff, ff, ff, ff, ff, ff, ff, ff, ff, ff, ff, ff, ff, ff, ff, ff, ff, ff] (by kernel_rfl) ?_
         refine zt 3 (some 40) #[tt, tt, tt, tt, tt, tt, ff, ff, ff, ff, ff, ff, ff, ff, ff, ff, ff, ff, ff, ff, ff, ff, ff, ff] (by kernel_rfl) hHeld ?_
         refine one_ (i := 6) (N := some 43) #[tt, tt, tt, tt, tt, tt, tt, ff, ff, ff, ff, ff, ff, ff, ff, ff, ff, ff, ff, ff, ff, ff, ff, ff] rfl rfl (by kernel_rfl) (by decide) (fun K hK => ?_)
         refine goes_ Try.func91 (by kernel_rfl) rfl #[.agg #[.slice (some ⟨gT, 0, none⟩) tr.length d0', .int .i64 T, .slice (some ad) ch.length d2', .slice B3' wa0.length d3'], .int .i64 (rd tr t), .int .i64 i] (by rfl) rfl rfl (by simp only [List.map_toArray, List.map_cons, List.map_nil]; rfl) ?_
         with_reducible refine (spec_l05Wants.calls k1 (some ⟨gT, 0, none⟩) d0' tr T (some ad) d2' ch B3' d3' wa0 (rd tr t) i true _ (Kd.C_drew C05.out) HL0.out (Kd.C_drew C25.out) HL2.out (Kd.C_drew C35.out) HL3.out A7.out).mono ?_
         rintro e w6 ⟨rfl, hb6⟩
         refine ⟨_, rfl, ?_⟩
         refine hK.out _ _ ⟨pw_cell_below hb6 hHeld.1, pw_cell_below hb6 hHeld.2.1, pw_cell_below hb6 hHeld.2.2.1, pw_cell_below hb6 hHeld.2.2.2.1, pw_cell_below hb6 hHeld.2.2.2.2.1, pw_cell_below hb6 hHeld.2.2.2.2.2⟩ (fun hHeld => ?_)
         clear hK K
         refine norm_ (a' := ?_) ?_ ?_
         rotate_left
         ·show Act.put _ (some 43) _ = _
          simp only [Act.put, zp, zq, zr, i64_w, i32_w]
          rfl
         refine zu 7 (some 44) #[tt, tt, tt, tt, tt, tt, tt, tt, ff, ff, ff, ff, ff, ff, ff, ff, ff, ff, ff, ff, ff, ff, ff, ff] (by kernel_rfl) ?_
         refine zu 8 (some 45) #[tt, tt, tt, tt, tt, tt, tt, tt, tt, ff, ff, ff, ff, ff, ff, ff, ff, ff, ff, ff, ff, ff, ff, ff] (by kernel_rfl) ?_
         refine zu 9 (some 46) #[tt, tt, tt, tt, tt, tt, tt, tt, tt, tt, ff, ff, ff, ff, ff, ff, ff, ff, ff, ff, ff, ff, ff, ff] (by kernel_rfl) ?_
         refine zu 11 (some 48) #[tt, tt, tt, tt, tt, tt, tt, tt, tt, tt, ff, tt, ff, ff, ff, ff, ff, ff, ff, ff, ff, ff, ff, ff] (by kernel_rfl) ?_
         refine zu 16 (some 53) #[tt, tt, tt, tt, tt, tt, tt, tt, tt, tt, ff, tt, ff, ff, ff, ff, tt, ff, ff, ff, ff, ff, ff, ff] (by kernel_rfl) ?_
         refine zu 18 (some 55) #[tt, tt, tt, tt, tt, tt, tt, tt, tt, tt, ff, tt, ff, ff, ff, ff, tt, ff, tt, ff, ff, ff, ff, ff] (by kernel_rfl) ?_
         refine zt 10 (some 47) #[tt, tt, tt, tt, tt, tt, tt, tt, tt, tt, tt, tt, ff, ff, ff, ff, tt, ff, tt, ff, ff, ff, ff, ff] (by kernel_rfl) hHeld ?_
         refine zu 12 (some 49) #[tt, tt, tt, tt, tt, tt, tt, tt, tt, tt, tt, tt, tt, ff, ff, ff, tt, ff, tt, ff, ff, ff, ff, ff] (by kernel_rfl) ?_
         refine zu 13 (some 50) #[tt, tt, tt, tt, tt, tt, tt, tt, tt, tt, tt, tt, tt, tt, ff, ff, tt, ff, tt, ff, ff, ff, ff, ff] (by kernel_rfl) ?_
         refine zt 14 (some 51) #[tt, tt, tt, tt, tt, tt, tt, tt, tt, tt, tt, tt, tt, tt, tt, ff, tt, ff, tt, ff, ff, ff, ff, ff] (by kernel_rfl) hHeld ?_
         refine zu 15 (some 52) #[tt, tt, tt, tt, tt, tt, tt, tt, tt, tt, tt, tt, tt, tt, tt, tt, tt, ff, tt, ff, ff, ff, ff, ff] (by kernel_rfl) ?_
         refine zt 17 (some 54) #[tt, tt, tt, tt, tt, tt, tt, tt, tt, tt, tt, tt, tt, tt, tt, tt, tt, tt, tt, ff, ff, ff, ff, ff] (by kernel_rfl) hHeld ?_
         refine zu 19 (some 56) #[tt, tt, tt, tt, tt, tt, tt, tt, tt, tt, tt, tt, tt, tt, tt, tt, tt, tt, tt, tt, ff, ff, ff, ff] (by kernel_rfl) ?_
         refine zu 20 (some 57) #[tt, tt, tt, tt, tt, tt, tt, tt, tt, tt, tt, tt, tt, tt, tt, tt, tt, tt, tt, tt, tt, ff, ff, ff] (by kernel_rfl) ?_
         refine zt 21 (some 58) #[tt, tt, tt, tt, tt, tt, tt, tt, tt, tt, tt, tt, tt, tt, tt, tt, tt, tt, tt, tt, tt, tt, ff, ff] (by kernel_rfl) hHeld ?_
         refine zu 22 (some 59) #[tt, tt, tt, tt, tt, tt, tt, tt, tt, tt, tt, tt, tt, tt, tt, tt, tt, tt, tt, tt, tt, tt, tt, ff] (by kernel_rfl) ?_
         refine zu 23 (some 60) #[tt, tt, tt, tt, tt, tt, tt, tt, tt, tt, tt, tt, tt, tt, tt, tt, tt, tt, tt, tt, tt, tt, tt, tt] (by kernel_rfl) ?_
         refine done_ (by kernel_rfl) ?_
         have hbr : Below w5.heap.size w5 w6 := below_then (below_drew (Below.refl _ _)) (Nat.le_refl _) hb6
         have n1 := zK (aG.out.below hbr)
         have n2 := zK (blk_below an.out hbr)
         have n3 := zK (blk_below ag.out hbr)
         have n4 := zK (below_step HB5.out hbr)
         go_wp2
         go_roundg k1
         case measure => have := au.out; omega
         case rel => exact ⟨wrap64 (i + 1), tr, ch, rfl, H', ⟨by have := au.out; omega⟩, n1, n2, n3, n4⟩
     ·rw [if_neg c5h] at H
      exact absurd H (by simp)
    ·rw [if_neg c4] at H
     exact absurd H (by simp)
   ·rw [if_neg c2] at H
    exact absurd H (by simp)
  ·rw [if_neg c1] at H
   have c1b : decide (i < (ch.length : Int)) = false := decide_eq_false c1
   simp only [Option.some.injEq, Prod.mk.injEq] at H
   obtain ⟨rfl, rfl, rfl, rfl⟩ := H
   have av : wr.cell? ⟨g2, 0, none⟩ = some (.slice none 0 0) := (blk_cell aa.out 0).trans rfl
   have aw : wr.cell? ⟨g2, 1, none⟩ = some (.int .i64 0) := (blk_cell aa.out 1).trans rfl
   have ax : wr.cell? ⟨g2, 2, none⟩ = some (.slice none 0 0) := (blk_cell aa.out 2).trans rfl
   have ay : wr.cell? ⟨g2, 3, none⟩ = some (.slice none 0 0) := (blk_cell aa.out 3).trans rfl
   have hf0 := blk_frozen aa.out 0; have hf1 := blk_frozen aa.out 1; have hf2 := blk_frozen aa.out 2; have hf3 := blk_frozen aa.out 3
   go_wp2
   have b0 := blk_put aa.out 0 (.slice B0' tr.length d0') rfl
   have b1 := blk_put b0 1 (.int .i64 T) rfl
   have b2 := blk_put b1 2 (.slice B2' ch.length d2') rfl
   have m := ((((HL.out.box aa.out 0 (.slice B0' tr.length d0')).box b0 1 (.int .i64 T)).box b1 2 (.slice B2' ch.length d2')).box b2 3 (.slice B3' wa0.length d3'))
   refine bodyPost_ret (results_cell_row rfl _ _ g2 28 #[.slice B0' tr.length d0', .int .i64 T, .slice B2' ch.length d2', .slice B3' wa0.length d3'] (0, 0) _ rfl (blk_put (blk_put (blk_put (blk_put aa.out 0 _ rfl) 1 _ rfl) 2 _ rfl) 3 _ rfl) Try.underlying28 rfl (by kernel_rfl)) rfl ?_
   exact ⟨_, _, _, rfl, Kd.R_mono m.1 (fun _ _ => trivial), Kd.S_mono m.2.1 (fun _ hk => hk.1), Kd.S_mono m.2.2.1 (fun k_ hk e_ => m.1.1 k_ e_.symm hk), zS (zS (zS (zS HB.out GE2.out) GE2.out) GE2.out) GE2.out⟩
end Go.Proofs.Ytmjhbdmicejppaa.Px
