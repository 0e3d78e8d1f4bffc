import Derived.Test.YtmjhbdmicejppaaZsPx0
import Derived.Test.YtmjhbdmicejppaaZsPx2
import Derived.Test.YtmjhbdmicejppaaZsPx3
import Derived.Test.YtmjhbdmicejppaaZsPx4
namespace Go.Proofs.Ytmjhbdmicejppaa.Px
open Go.RowKit Go.Proofs.YtmjhbdmicejppaaW.PrintWords Go.Proofs.YtmjhbdmicejppaaW.PrintLast Go.Proofs.YtmjhbdmicejppaaW.PrintMore
attribute [local go_sem] max2_int min2_int max_two min_two max_three min_three max_four min_four   
set_option linter.unusedVariables false
set_option linter.unusedSimpArgs false
def impl_turn.l0 : Nat → List Int → Int → List (S69) → List (S74) → Int → Option (List Int × Int × (List (S69)))
 | 0, _, _, _, _, _ => none
 | k + 1, tr, tu, ch, wa, i => if i < (ch.length : Int) then (if 0 ≤ i then ((impl_trayAt.f tr tu ch wa (rd_T69 ch i).f0).bind fun t => (if 0 ≤ t then (if t < (tr.length : Int) then ((impl_wantOf.f tr tu ch wa (rd tr t)).bind fun v => (if rd tr t = 0 then (impl_turn.l0 k tr tu ch wa (wrap64 (i + 1))) else (if v < 0 then (impl_turn.l0 k tr tu ch wa (wrap64 (i + 1))) else (if ((rd_T69 ch i).f2.length : Int) ≥ (rd_T69 ch i).f1 then (impl_turn.l0 k tr tu ch wa (wrap64 (i + 1))) else (if v < (wa.length : Int) then ((slices_Contains_int_int.f k (rd_T74 wa v).f1 i).bind fun b => (if b = true then (if (rd_T69 ch i).f2.length < 17592186044416 then (impl_turn.l0 k (tr.set t.toNat 0) tu (ch.set i.toNat ⟨(rd_T69 ch i).f0, (rd_T69 ch i).f1, (rd_T69 ch i).f2 ++ [rd tr t]⟩) wa (wrap64 (i + 1))) else (none)) else (impl_turn.l0 k tr tu ch wa (wrap64 (i + 1))))) else (none)))))) else (none)) else (none))) else (none)) else (some (tr, tu, ch))
def impl_turn.f (k : Nat) (tr : List Int) (tu : Int) (ch : List (S69)) (wa : List (S74)) : Option (List Int × Int × (List (S69))) := if (tr.length : Int) = 0 then (none) else (impl_turn.l0 k tr (Int.tmod (wrap64 (tu + 1)) (tr.length : Int)) ch wa 0)
set_option maxHeartbeats 8000000 in
set_option maxRecDepth 100000 in
theorem impl_turn.calls (k : Nat) (g : Nat) (w0 w : World) (PW : Nat → Prop) (V0 V2 V3 : Value) (tr0 : List Int) (tu : Int) (ch0 : List S69) (wa : List S74) (r1 : List Int) (r2 : Int) (r3 : List S69) (hB : Below w0.heap.size w0 w) (hg : w0.heap.size ≤ g) (hbk : w.heap[g]? = some (.cells #[V0, .int .i64 tu, V2, V3] 28 (0, 0))) (hL : LoopMem w0.heap.size w PW V0 tr0 V2 ch0 V3 wa) (h : impl_turn.f k tr0 tu ch0 wa = some (r1, r2, r3)) :
 Calls Try.prog 54 #[.pointer (some ⟨g, 0, none⟩)] w fun e w' => e = .returned (.tuple #[]) ∧ LoopMem w0.heap.size w' PW V0 r1 V2 r3 V3 wa ∧ w'.heap[g]? = some (.cells #[V0, .int .i64 r2, V2, V3] 28 (0, 0)) ∧ Below w0.heap.size w0 w' ∧ ∀ (gk : Nat) (ck : Array Value), gk ≠ g → w.heap[gk]? = some (.cells ck 28 (0, 0)) → w'.heap[gk]? = some (.cells ck 28 (0, 0)) := by
 have hu28 := Try.underlying28; have hu69 := Try.underlying69; have hu74 := Try.underlying74; have HB0 := zK hB; have HG := zK hg; have ai := zK hbk; have ac := zK hL; clear hB hg hbk hL
 have H := h; unfold impl_turn.f at H
 clear h
 by_cases c3 : (tr0.length : Int) = 0
 ·rw [if_pos c3] at H
  exact absurd H (by simp)
 rw [if_neg c3] at H
 have c3b0 : ((tr0.length : Int) == 0) = false := beq_eq_false_iff_ne.mpr c3
 have c3b1 : ((tr0.length : Int) != 0) = true := bne_iff_ne.mpr c3
 have c3b2 : ¬ (tr0 = []) := fun h_ => c3 (by rw [h_]; rfl)
 have H' := zK H; clear H
 obtain ⟨B0, d0, B2, d2, B3, d3, e0, e2, e3, l0_, l2_, l3_, C0_, C2_, C3_⟩ := ac.out.reads
 subst e0 e2 e3
 clear l0_ l2_ l3_ C0_ C2_ C3_
 have hd : Below w.heap.size w w.drew := below_drew (Below.refl _ _)
 have bkd := zK (blk_below ai.out hd)
 have hld := zK (ac.out.below hd)
 have hbd := zK (below_drew HB0.out)
 have hz0 : w.drew.cell? ⟨g, 0, none⟩ = some (.slice B0 tr0.length d0) := (blk_cell bkd.out 0).trans rfl
 have hz1 : w.drew.cell? ⟨g, 1, none⟩ = some (.int .i64 tu) := (blk_cell bkd.out 1).trans rfl
 have hz2 : w.drew.cell? ⟨g, 2, none⟩ = some (.slice B2 ch0.length d2) := (blk_cell bkd.out 2).trans rfl
 have hfz := blk_frozen bkd.out 1; have hcz := hz1
 go_enter Try.func54, Try.ntmps54
 go_wp2
 refine start_ (n := 15) (S := fun w' => w'.cell? ⟨g, 0, none⟩ = some (.slice B0 tr0.length d0) ∧ w'.cell? ⟨g, 1, none⟩ = some (.int .i64 tu)) (ds := [14]) (zv 15 0) (by kernel_rfl) rfl rfl ⟨hz0, hz1⟩ (fun hHeld => ?_)
 refine zu 0 (some 7) (zv 15 1) (by kernel_rfl) ?_
 refine zu 1 (some 8) (zv 15 3) (by kernel_rfl) ?_
 refine zu 2 (some 9) (zv 15 7) (by kernel_rfl) ?_
 refine zu 3 (some 10) (zv 15 15) (by kernel_rfl) ?_
 refine zu 6 (some 13) (zv 15 79) (by kernel_rfl) ?_
 refine zu 7 (some 14) (zv 15 207) (by kernel_rfl) ?_
 refine zu 8 (some 15) (zv 15 463) (by kernel_rfl) ?_
 refine zt 4 (some 11) (zv 15 479) (by kernel_rfl) hHeld ?_
 refine zu 5 (some 12) (zv 15 511) (by kernel_rfl) ?_
 refine zt 9 (some 16) (zv 15 1023) (by kernel_rfl) hHeld ?_
 refine zu 10 (some 17) (zv 15 2047) (by kernel_rfl) ?_
 refine zu 11 (some 18) (zv 15 4095) (by kernel_rfl) ?_
 refine zu 12 (some 19) (zv 15 8191) (by kernel_rfl) ?_
 refine zu 13 (some 20) (zv 15 16383) (by kernel_rfl) ?_
 refine last_ (i := 14) (N := none) (zv 15 32767) rfl rfl (by kernel_rfl) (by decide) (fun K hK => ?_)
 refine skip_ (w1 := ?_) (by rfl) rfl ?_ ?_
 rotate_left
 ·go_simp
  rfl
 refine hK.out _ _ ?_
 clear hK K
 refine done_ (by kernel_rfl) ?_
 have n1 := zK ((ac.out.box ai.out 1 (.int .i64 (Int.tmod (wrap64 (tu + 1)) (tr0.length : Int)))).below (below_drew (Below.refl _ _)))
 have n2' : (w.setCell ⟨g, 1, none⟩ (.int .i64 (Int.tmod (wrap64 (tu + 1)) (tr0.length : Int)))).heap[g]? = some (.cells #[.slice B0 tr0.length d0, .int .i64 (Int.tmod (wrap64 (tu + 1)) (tr0.length : Int)), .slice B2 ch0.length d2, .slice B3 wa.length d3] 28 (0, 0)) := blk_put ai.out 1 _ rfl
 have n2 := zK (blk_below n2' (below_drew (Below.refl _ _)))
 have n3 := zK (below_drew (zS (g := g) (j := 1) (v := .int .i64 (Int.tmod (wrap64 (tu + 1)) (tr0.length : Int))) HB0.out HG.out))
 have n4 := zK (show ∀ (gk : Nat) (ck : Array Value), gk ≠ g → w.heap[gk]? = some (.cells ck 28 (0, 0)) → (w.setCell ⟨g, 1, none⟩ (.int .i64 (Int.tmod (wrap64 (tu + 1)) (tr0.length : Int)))).drew.heap[gk]? = some (.cells ck 28 (0, 0)) from fun gk ck hne_ h_ => blk_below (blk_far (p := ⟨g, 1, none⟩) h_ hne_ (.int .i64 (Int.tmod (wrap64 (tu + 1)) (tr0.length : Int)))) (below_drew (Below.refl _ _)))
 have hzw : w.cell? ⟨g, 2, none⟩ = some (.slice B2 ch0.length d2) := (blk_cell ai.out 2).trans rfl
 clear hz0 hz1 hfz hcz hd bkd hld hbd ac ai HB0 n2' c3b0 c3b1 c3b2
 go_wp2
 clear hz2 hzw
 generalize Int.tmod (wrap64 (tu + 1)) (tr0.length : Int) = T at H' n1 n2 n3 n4 ⊢
 generalize hV0 : Value.slice B0 tr0.length d0 = V0 at n1 n2 n3 ⊢
 generalize hV2 : Value.slice B2 ch0.length d2 = V2 at n1 n2 n3 ⊢
 go_loopg [26] k (fun kq v26 w' => ∃ (i : Int) (tr : List Int) (ch : List S69), v26 = .int .i64 i ∧ ch.length = ch0.length ∧ Aside0 (impl_turn.l0 kq tr T ch wa i = some (r1, r2, r3)) ∧ Aside0 (kq ≤ k) ∧ Aside0 (LoopMem w0.heap.size w' PW V0 tr V2 ch (.slice B3 wa.length d3) wa) ∧ Aside0 (w'.heap[g]? = some (.cells #[V0, .int .i64 T, V2, .slice B3 wa.length d3] 28 (0, 0))) ∧ Aside0 (Below w0.heap.size w0 w') ∧ Aside0 (∀ (gk : Nat) (ck : Array Value), gk ≠ g → w.heap[gk]? = some (.cells ck 28 (0, 0)) → w'.heap[gk]? = some (.cells ck 28 (0, 0))))
 case atStart => exact ⟨0, tr0, ch0, rfl, rfl, H', ⟨Nat.le_refl _⟩, n1, n2, n3, n4⟩
 case round =>
 clear H' n1 n2 n3 n4
 obtain ⟨i, tr, ch, rfl, hlen, HA, ab, HL, ae, HB, HK⟩ := hrel
 cases gk with
 | zero => exact absurd HA.out (by simp [impl_turn.l0])
 | succ k1 =>
  have H := HA.out; clear HA
  simp only [impl_turn.l0] at H
  obtain ⟨B0', d0', B2', d2', B3x, d3x, e0, e2, e3, L0, L2, L3, C0, C2, C3⟩ := HL.out.reads
  subst e0 e2
  injection e3 with e31 _ e33
  subst e31 e33
  obtain ⟨hz0, hz1, hz2, hz3⟩ := zL4 ae
  have HLEN := zK hlen; clear hlen
  by_cases c1 : i < (ch.length : Int)
  ·rw [if_pos c1] at H
   have c1b : decide (i < (ch0.length : Int)) = true := decide_eq_true (by rw [← HLEN.out]; exact c1)
   by_cases c2 : 0 ≤ i
   ·rw [if_pos c2] at H
    replace H := Option.bind_eq_some_iff.mp H
    obtain ⟨t, A60, H⟩ := H
    have A6 := zK A60; clear A60; have H' := zK H; clear H; have HC0 := zK C0; have HC2 := zK C2; have HC3 := zK C3; have ac := zK L0; have HL2 := zK L2; have HL3 := zK L3; clear C0 C2 C3 L0 L2 L3
    obtain ⟨ad, A5, c5, e, hx0, hx1, hx2, hl5, hi5⟩ := at_T69 HC2.out i c2 c1
    cases e
    have p1 := eq_true c2
    have q1 : (i < ((ch.length : Nat) : Int)) = True := eq_true c1
    go_wp2
    refine start_ (n := 9) (S := fun w' => w'.cell? ⟨g, 0, none⟩ = some (.slice B0' tr.length d0') ∧ w'.cell? ⟨g, 1, none⟩ = some (.int .i64 T) ∧ w'.cell? ⟨g, 2, none⟩ = some (.slice (some ad) ch.length d2') ∧ w'.cell? ⟨g, 3, none⟩ = some (.slice B3 wa.length d3) ∧ w'.cell? (ad.add (i.toNat * 3)) = some (.int .i64 (rd_T69 ch i).f0)) (ds := []) (zv 9 0) (by kernel_rfl) rfl rfl ⟨hz0, hz1, hz2, hz3, hx0⟩ (fun hHeld => ?_)
    refine zu 0 (some 35) (zv 9 1) (by kernel_rfl) ?_
    refine zu 1 (some 36) (zv 9 3) (by kernel_rfl) ?_
    refine zu 3 (some 38) (zv 9 11) (by kernel_rfl) ?_
    refine zu 4 (some 39) (zv 9 27) (by kernel_rfl) ?_
    refine zu 5 (some 40) (zv 9 59) (by kernel_rfl) ?_
    refine zt 2 (some 37) (zv 9 63) (by kernel_rfl) hHeld ?_
    refine zt 6 (some 41) (zv 9 127) (by kernel_rfl) hHeld ?_
    refine one_ (i := 7) (N := some 42) (zv 9 255) rfl rfl (by kernel_rfl) (by decide) (fun K hK => ?_)
    refine goes_ Try.func78 (by kernel_rfl) rfl #[.agg #[.slice B0' tr.length d0', .int .i64 T, .slice (some ad) ch.length d2', .slice B3 wa.length d3], .int .i64 (rd_T69 ch i).f0] (by rfl) rfl rfl (by simp only [List.map_toArray, List.map_cons, List.map_nil]; rfl) ?_
    with_reducible refine (impl_trayAt.calls B0' d0' tr T (some ad) d2' ch B3 d3 wa (rd_T69 ch i).f0 t _ (Kd.C_drew HC0.out) ac.out (Kd.C_drew HC2.out) HL2.out (Kd.C_drew HC3.out) HL3.out A6.out).mono ?_
    rintro e w5 ⟨rfl, hb5⟩
    refine ⟨_, rfl, ?_⟩
    refine hK.out _ _ ⟨pw_cell_below hb5 hHeld.1, pw_cell_below hb5 hHeld.2.1, pw_cell_below hb5 hHeld.2.2.1, pw_cell_below hb5 hHeld.2.2.2.1, pw_cell_below hb5 hHeld.2.2.2.2⟩ (fun hHeld => ?_)
    clear hK K
    refine norm_ (a' := ?_) ?_ ?_
    rotate_left
    ·show Act.put _ (some 42) _ = _
     simp only [Act.put, zp, zq, zr, i64_w, i32_w]
     rfl
    refine zu 8 (some 4) (zv 9 511) (by kernel_rfl) ?_
    refine done_ (by kernel_rfl) ?_
    have hbr : Below wr.heap.size wr w5 := below_then (below_drew (Below.refl _ _)) (Nat.le_refl _) hb5
    have HL5 := zK (HL.out.below hbr)
    have aa := zK (blk_below ae.out hbr)
    have HB5 := zK (Below.trans HB.out ⟨hbr.os, hbr.tape, hbr.output, hbr.size, fun k_ hk_ => hbr.block k_ (Nat.lt_of_lt_of_le hk_ HB.out.size)⟩)
    have HK5 := zK (show ∀ (gk : Nat) (ck : Array Value), gk ≠ g → w.heap[gk]? = some (.cells ck 28 (0, 0)) → w5.heap[gk]? = some (.cells ck 28 (0, 0)) from fun gk ck hne_ h_ => blk_below (HK.out gk ck hne_ h_) hbr)
    have C05 := zK (Kd.C_below HC0.out hbr)
    have C25 := zK (Kd.C_below HC2.out hbr)
    have C35 := zK (Kd.C_below HC3.out hbr)
    obtain ⟨hy0, hy1, hy2, hy3⟩ := zL4 aa
    have aj := zK (pw_cell_below hbr hx1)
    have ak := zK (pw_cell_below hbr hx2)
    have H := H'.out; clear H' hb5 hbr hz0 hz1 hz2 hz3 hx0 hx1 hx2 HL ae HB HK HC0 HC2 HC3
    by_cases c4 : 0 ≤ t
    ·rw [if_pos c4] at H
     by_cases c5h : t < (tr.length : Int)
     ·rw [if_pos c5h] at H
      replace H := Option.bind_eq_some_iff.mp H
      obtain ⟨v, A70, H⟩ := H
      have A7 := zK A70; clear A70; have H' := zK H; clear H
      obtain ⟨gT, eT, hbT, _, hcT, hfT, hLT⟩ := HL5.out.tray t c4 c5h 0
      cases eT
      have HBT := zK hbT; clear hbT hfT hLT; have p5 := eq_true c4
      have q5 : (t < ((tr.length : Nat) : Int)) = True := eq_true c5h
      go_wp2_with ((with_reducible refine gate_callee (f := 79) rfl ?_); refine goesL_ (some 54) rfl rfl Try.func79 (by kernel_rfl) rfl #[.agg #[.slice (some ⟨gT, 0, none⟩) tr.length d0', .int .i64 T, .slice (some ad) ch.length d2', .slice B3 wa.length d3], .int .i64 (rd tr t)] rfl zg ?_; (with_reducible refine (impl_wantOf.calls (some ⟨gT, 0, none⟩) d0' tr T (some ad) d2' ch B3 d3 wa (rd tr t) v _ ?side1 ac.out ?side3 HL2.out ?side5 HL3.out A7.out).mono ?_); (case side1 => repeat (first | exact C05.out | (with_reducible refine Kd.C_alloc ?_ _) | (with_reducible refine Kd.C_drewN ?_ _) | (with_reducible refine Kd.C_drew ?_))); (case side3 => repeat (first | exact C25.out | (with_reducible refine Kd.C_alloc ?_ _) | (with_reducible refine Kd.C_drewN ?_ _) | (with_reducible refine Kd.C_drew ?_))); (case side5 => repeat (first | exact C35.out | (with_reducible refine Kd.C_alloc ?_ _) | (with_reducible refine Kd.C_drewN ?_ _) | (with_reducible refine Kd.C_drew ?_))); rintro e w7 ⟨rfl, hb7_⟩; refine ⟨_, rfl, ?_⟩; have hb7 : Below w5.heap.size w5 w7 := below_step (by repeat (first | exact Below.refl _ _ | apply zB | apply zC | apply zE)) hb7_; clear hb7_)
      have al := zK (HL5.out.below hb7)
      have af := zK (blk_below aa.out hb7)
      have HB7 := zK (Below.trans HB5.out ⟨hb7.os, hb7.tape, hb7.output, hb7.size, fun k_ hk_ => hb7.block k_ (Nat.lt_of_lt_of_le hk_ HB5.out.size)⟩)
      have am := zK (show ∀ (gk : Nat) (ck : Array Value), gk ≠ g → w.heap[gk]? = some (.cells ck 28 (0, 0)) → w7.heap[gk]? = some (.cells ck 28 (0, 0)) from fun gk ck hne_ h_ => blk_below (HK5.out gk ck hne_ h_) hb7)
      have C37 := zK (Kd.C_below C35.out hb7)
      have an : w7.cell? ⟨g, 3, none⟩ = some (.slice B3 wa.length d3) := (blk_cell af.out 3).trans rfl
      have ao := pw_cell_below hb7 aj.out; have ap := pw_cell_below hb7 ak.out; have H := H'.out; clear H' hb7 hy0 hy1 hy2 hy3 hcT HL5 aa HB5 HK5 C05 C25 C35 aj ak
      by_cases c6 : rd tr t = 0
      ·rw [if_pos c6] at H
       have c6a : (rd tr t == 0) = true := beq_iff_eq.mpr c6
       have H' := zK H; clear H
       refine start_ (n := 31) (S := fun w' => w'.cell? ⟨g, 3, none⟩ = some (.slice B3 wa.length d3) ∧ w'.cell? ⟨(ad.add (i.toNat * 3)).block, (ad.add (i.toNat * 3)).off + 1, none⟩ = some (.int .i64 (rd_T69 ch i).f1) ∧ w'.cell? ⟨(ad.add (i.toNat * 3)).block, (ad.add (i.toNat * 3)).off + 2, none⟩ = some (.slice A5 (rd_T69 ch i).f2.length c5)) (ds := []) (zv 31 0) (by kernel_rfl) rfl rfl ⟨an, ao, ap⟩ (fun hHeld => ?_)
       refine zu 0 (some 55) (zv 31 1) (by kernel_rfl) ?_
       refine zu 1 (some 56) (zv 31 3) (by kernel_rfl) ?_
       refine zu 2 (some 57) (zv 31 7) (by kernel_rfl) ?_
       refine pure_ (i := 3) (N := some 58) (v := undef) (a' := ?_) (zv 31 15) rfl rfl (by kernel_rfl) (fun _ _ _ h => h) (Or.inr ⟨by rfl, rfl⟩) ?_ ?_
       rotate_left
       ·simp only [Act.put, zp, zq, zr, i64_w, i32_w]
        rfl
       refine pure_ (i := 4) (N := some 59) (v := undef) (a' := ?_) (zv 31 31) rfl rfl (by kernel_rfl) (fun _ _ _ h => h) (Or.inr ⟨by rfl, rfl⟩) ?_ ?_
       rotate_left
       ·simp only [Act.put, zp, zq, zr, i64_w, i32_w]
        rfl
       refine zu 5 (some 60) (zv 31 63) (by kernel_rfl) ?_
       refine zu 6 (some 61) (zv 31 127) (by kernel_rfl) ?_
       refine pure_ (i := 7) (N := some 62) (v := undef) (a' := ?_) (zv 31 255) rfl rfl (by kernel_rfl) (fun _ _ _ h => h) (Or.inr ⟨by rfl, rfl⟩) ?_ ?_
       rotate_left
       ·simp only [Act.put, zp, zq, zr, i64_w, i32_w]
        rfl
       refine pure_ (i := 8) (N := some 63) (v := undef) (a' := ?_) (zv 31 511) rfl rfl (by kernel_rfl) (fun _ _ _ h => h) (Or.inr ⟨by rfl, rfl⟩) ?_ ?_
       rotate_left
       ·simp only [Act.put, zp, zq, zr, i64_w, i32_w]
        rfl
       refine pure_ (i := 9) (N := some 64) (v := undef) (a' := ?_) (zv 31 1023) rfl rfl (by kernel_rfl) (fun _ _ _ h => h) (Or.inr ⟨by rfl, rfl⟩) ?_ ?_
       rotate_left
       ·simp only [Act.put, zp, zq, zr, i64_w, i32_w]
        rfl
       refine pure_ (i := 10) (N := some 65) (v := undef) (a' := ?_) (zv 31 2047) rfl rfl (by kernel_rfl) (fun _ _ _ h => h) (Or.inr ⟨by rfl, rfl⟩) ?_ ?_
       rotate_left
       ·simp only [Act.put, zp, zq, zr, i64_w, i32_w]
        rfl
       refine pure_ (i := 11) (N := some 66) (v := undef) (a' := ?_) (zv 31 4095) rfl rfl (by kernel_rfl) (fun _ _ _ h => h) (Or.inr ⟨by rfl, rfl⟩) ?_ ?_
       rotate_left
       ·simp only [Act.put, zp, zq, zr, i64_w, i32_w]
        rfl
       refine pure_ (i := 12) (N := some 67) (v := undef) (a' := ?_) (zv 31 8191) rfl rfl (by kernel_rfl) (fun _ _ _ h => h) (Or.inr ⟨by rfl, rfl⟩) ?_ ?_
       rotate_left
       ·simp only [Act.put, zp, zq, zr, i64_w, i32_w]
        rfl
       refine pure_ (i := 13) (N := some 68) (v := undef) (a' := ?_) (zv 31 16383) rfl rfl (by kernel_rfl) (fun _ _ _ h => h) (Or.inr ⟨by rfl, rfl⟩) ?_ ?_
       rotate_left
       ·simp only [Act.put, zp, zq, zr, i64_w, i32_w]
        rfl
       refine pure_ (i := 14) (N := some 69) (v := undef) (a' := ?_) (zv 31 32767) rfl rfl (by kernel_rfl) (fun _ _ _ h => h) (Or.inr ⟨by rfl, rfl⟩) ?_ ?_
       rotate_left
       ·simp only [Act.put, zp, zq, zr, i64_w, i32_w]
        rfl
       refine pure_ (i := 15) (N := some 70) (v := undef) (a' := ?_) (zv 31 65535) rfl rfl (by kernel_rfl) (fun _ _ _ h => h) (Or.inr ⟨by rfl, rfl⟩) ?_ ?_
       rotate_left
       ·simp only [Act.put, zp, zq, zr, i64_w, i32_w]
        rfl
       refine pure_ (i := 16) (N := some 71) (v := undef) (a' := ?_) (zv 31 131071) rfl rfl (by kernel_rfl) (fun _ _ _ h => h) (Or.inr ⟨by rfl, rfl⟩) ?_ ?_
       rotate_left
       ·simp only [Act.put, zp, zq, zr, i64_w, i32_w]
        rfl
       refine zu 17 (some 72) (zv 31 262143) (by kernel_rfl) ?_
       refine zu 18 (some 73) (zv 31 524287) (by kernel_rfl) ?_
       refine pure_ (i := 19) (N := some 74) (v := undef) (a' := ?_) (zv 31 1048575) rfl rfl (by kernel_rfl) (fun _ _ _ h => h) (Or.inr ⟨by rfl, rfl⟩) ?_ ?_
       rotate_left
       ·simp only [Act.put, zp, zq, zr, i64_w, i32_w]
        rfl
       refine pure_ (i := 20) (N := some 75) (v := undef) (a' := ?_) (zv 31 2097151) rfl rfl (by kernel_rfl) (fun _ _ _ h => h) (Or.inr ⟨by rfl, rfl⟩) ?_ ?_
       rotate_left
       ·simp only [Act.put, zp, zq, zr, i64_w, i32_w]
        rfl
       refine pure_ (i := 21) (N := some 76) (v := undef) (a' := ?_) (zv 31 4194303) rfl rfl (by kernel_rfl) (fun _ _ _ h => h) (Or.inr ⟨by rfl, rfl⟩) ?_ ?_
       rotate_left
       ·simp only [Act.put, zp, zq, zr, i64_w, i32_w]
        rfl
       refine pure_ (i := 22) (N := some 77) (v := undef) (a' := ?_) (zv 31 8388607) rfl rfl (by kernel_rfl) (fun _ _ _ h => h) (Or.inr ⟨by rfl, rfl⟩) ?_ ?_
       rotate_left
       ·simp only [Act.put, zp, zq, zr, i64_w, i32_w]
        rfl
       refine pure_ (i := 23) (N := some 78) (v := undef) (a' := ?_) (zv 31 16777215) rfl rfl (by kernel_rfl) (fun _ _ _ h => h) (Or.inr ⟨by rfl, rfl⟩) ?_ ?_
       rotate_left
       ·simp only [Act.put, zp, zq, zr, i64_w, i32_w]
        rfl
       refine pure_ (i := 24) (N := some 79) (v := undef) (a' := ?_) (zv 31 33554431) rfl rfl (by kernel_rfl) (fun _ _ _ h => h) (Or.inr ⟨by rfl, rfl⟩) ?_ ?_
       rotate_left
       ·simp only [Act.put, zp, zq, zr, i64_w, i32_w]
        rfl
       refine pure_ (i := 25) (N := some 80) (v := undef) (a' := ?_) (zv 31 67108863) rfl rfl (by kernel_rfl) (fun _ _ _ h => h) (Or.inr ⟨by rfl, rfl⟩) ?_ ?_
       rotate_left
       ·simp only [Act.put, zp, zq, zr, i64_w, i32_w]
        rfl
       refine pure_ (i := 26) (N := some 81) (v := undef) (a' := ?_) (zv 31 134217727) rfl rfl (by kernel_rfl) (fun _ _ _ h => h) (Or.inr ⟨by rfl, rfl⟩) ?_ ?_
       rotate_left
       ·simp only [Act.put, zp, zq, zr, i64_w, i32_w]
        rfl
       refine pure_ (i := 27) (N := some 82) (v := undef) (a' := ?_) (zv 31 268435455) rfl rfl (by kernel_rfl) (fun _ _ _ h => h) (Or.inr ⟨by rfl, rfl⟩) ?_ ?_
       rotate_left
       ·simp only [Act.put, zp, zq, zr, i64_w, i32_w]
        rfl
       refine pure_ (i := 28) (N := some 83) (v := undef) (a' := ?_) (zv 31 536870911) rfl rfl (by kernel_rfl) (fun _ _ _ h => h) (Or.inr ⟨by rfl, rfl⟩) ?_ ?_
       rotate_left
       ·simp only [Act.put, zp, zq, zr, i64_w, i32_w]
        rfl
       refine pure_ (i := 29) (N := some 84) (v := undef) (a' := ?_) (zv 31 1073741823) rfl rfl (by kernel_rfl) (fun _ _ _ h => h) (Or.inr ⟨by rfl, rfl⟩) ?_ ?_
       rotate_left
       ·simp only [Act.put, zp, zq, zr, i64_w, i32_w]
        rfl
       refine zu 30 (some 85) (zv 31 2147483647) (by kernel_rfl) ?_
       refine done_ (by kernel_rfl) ?_
       have hbr : Below w7.heap.size w7 w7.drew := below_drew (Below.refl _ _)
       have n1 := zK (al.out.below hbr)
       have n3 := zK (blk_below af.out hbr)
       have n4 := zK (Below.trans HB7.out ⟨hbr.os, hbr.tape, hbr.output, hbr.size, fun k_ hk_ => hbr.block k_ (Nat.lt_of_lt_of_le hk_ HB7.out.size)⟩)
       have n5 := zK (show ∀ (gk : Nat) (ck : Array Value), gk ≠ g → w.heap[gk]? = some (.cells ck 28 (0, 0)) → w7.drew.heap[gk]? = some (.cells ck 28 (0, 0)) from fun gk ck hne_ h_ => blk_below (am.out gk ck hne_ h_) hbr)
       go_wp2
       go_roundg k1
       case measure => have := ab.out; omega
       case rel => exact ⟨wrap64 (i + 1), tr, ch, rfl, by first | rfl | exact HLEN.out | (rw [List.length_set]; first | rfl | exact HLEN.out), H', ⟨by have := ab.out; omega⟩, n1, n3, n4, n5⟩
      ·rw [if_neg c6] at H
       have c6a : (rd tr t == 0) = false := beq_eq_false_iff_ne.mpr c6
       by_cases c7h : v < 0
       ·rw [if_pos c7h] at H
        have c7b : decide (v < 0) = true := decide_eq_true c7h
        have H' := zK H; clear H
        refine start_ (n := 31) (S := fun w' => w'.cell? ⟨g, 3, none⟩ = some (.slice B3 wa.length d3) ∧ w'.cell? ⟨(ad.add (i.toNat * 3)).block, (ad.add (i.toNat * 3)).off + 1, none⟩ = some (.int .i64 (rd_T69 ch i).f1) ∧ w'.cell? ⟨(ad.add (i.toNat * 3)).block, (ad.add (i.toNat * 3)).off + 2, none⟩ = some (.slice A5 (rd_T69 ch i).f2.length c5)) (ds := []) (zv 31 0) (by kernel_rfl) rfl rfl ⟨an, ao, ap⟩ (fun hHeld => ?_)
        refine zu 0 (some 55) (zv 31 1) (by kernel_rfl) ?_
        refine zu 1 (some 56) (zv 31 3) (by kernel_rfl) ?_
        refine zu 2 (some 57) (zv 31 7) (by kernel_rfl) ?_
        refine zu 3 (some 58) (zv 31 15) (by kernel_rfl) ?_
        refine zu 4 (some 59) (zv 31 31) (by kernel_rfl) ?_
        refine zu 5 (some 60) (zv 31 63) (by kernel_rfl) ?_
        refine zu 6 (some 61) (zv 31 127) (by kernel_rfl) ?_
        refine pure_ (i := 7) (N := some 62) (v := undef) (a' := ?_) (zv 31 255) rfl rfl (by kernel_rfl) (fun _ _ _ h => h) (Or.inr ⟨by rfl, rfl⟩) ?_ ?_
        rotate_left
        ·simp only [Act.put, zp, zq, zr, i64_w, i32_w]
         rfl
        refine pure_ (i := 8) (N := some 63) (v := undef) (a' := ?_) (zv 31 511) rfl rfl (by kernel_rfl) (fun _ _ _ h => h) (Or.inr ⟨by rfl, rfl⟩) ?_ ?_
        rotate_left
        ·simp only [Act.put, zp, zq, zr, i64_w, i32_w]
         rfl
        refine pure_ (i := 9) (N := some 64) (v := undef) (a' := ?_) (zv 31 1023) rfl rfl (by kernel_rfl) (fun _ _ _ h => h) (Or.inr ⟨by rfl, rfl⟩) ?_ ?_
        rotate_left
        ·simp only [Act.put, zp, zq, zr, i64_w, i32_w]
         rfl
        refine pure_ (i := 10) (N := some 65) (v := undef) (a' := ?_) (zv 31 2047) rfl rfl (by kernel_rfl) (fun _ _ _ h => h) (Or.inr ⟨by rfl, rfl⟩) ?_ ?_
        rotate_left
        ·simp only [Act.put, zp, zq, zr, i64_w, i32_w]
         rfl
        refine pure_ (i := 11) (N := some 66) (v := undef) (a' := ?_) (zv 31 4095) rfl rfl (by kernel_rfl) (fun _ _ _ h => h) (Or.inr ⟨by rfl, rfl⟩) ?_ ?_
        rotate_left
        ·simp only [Act.put, zp, zq, zr, i64_w, i32_w]
         rfl
        refine pure_ (i := 12) (N := some 67) (v := undef) (a' := ?_) (zv 31 8191) rfl rfl (by kernel_rfl) (fun _ _ _ h => h) (Or.inr ⟨by rfl, rfl⟩) ?_ ?_
        rotate_left
        ·simp only [Act.put, zp, zq, zr, i64_w, i32_w]
         rfl
        refine pure_ (i := 13) (N := some 68) (v := undef) (a' := ?_) (zv 31 16383) rfl rfl (by kernel_rfl) (fun _ _ _ h => h) (Or.inr ⟨by rfl, rfl⟩) ?_ ?_
        rotate_left
        ·simp only [Act.put, zp, zq, zr, i64_w, i32_w]
         rfl
        refine pure_ (i := 14) (N := some 69) (v := undef) (a' := ?_) (zv 31 32767) rfl rfl (by kernel_rfl) (fun _ _ _ h => h) (Or.inr ⟨by rfl, rfl⟩) ?_ ?_
        rotate_left
        ·simp only [Act.put, zp, zq, zr, i64_w, i32_w]
         rfl
        refine pure_ (i := 15) (N := some 70) (v := undef) (a' := ?_) (zv 31 65535) rfl rfl (by kernel_rfl) (fun _ _ _ h => h) (Or.inr ⟨by rfl, rfl⟩) ?_ ?_
        rotate_left
        ·simp only [Act.put, zp, zq, zr, i64_w, i32_w]
         rfl
        refine pure_ (i := 16) (N := some 71) (v := undef) (a' := ?_) (zv 31 131071) rfl rfl (by kernel_rfl) (fun _ _ _ h => h) (Or.inr ⟨by rfl, rfl⟩) ?_ ?_
        rotate_left
        ·simp only [Act.put, zp, zq, zr, i64_w, i32_w]
         rfl
        refine zu 17 (some 72) (zv 31 262143) (by kernel_rfl) ?_
        refine zu 18 (some 73) (zv 31 524287) (by kernel_rfl) ?_
        refine pure_ (i := 19) (N := some 74) (v := undef) (a' := ?_) (zv 31 1048575) rfl rfl (by kernel_rfl) (fun _ _ _ h => h) (Or.inr ⟨by rfl, rfl⟩) ?_ ?_
        rotate_left
        ·simp only [Act.put, zp, zq, zr, i64_w, i32_w]
         rfl
        refine pure_ (i := 20) (N := some 75) (v := undef) (a' := ?_) (zv 31 2097151) rfl rfl (by kernel_rfl) (fun _ _ _ h => h) (Or.inr ⟨by rfl, rfl⟩) ?_ ?_
        rotate_left
        ·simp only [Act.put, zp, zq, zr, i64_w, i32_w]
         rfl
        refine pure_ (i := 21) (N := some 76) (v := undef) (a' := ?_) (zv 31 4194303) rfl rfl (by kernel_rfl) (fun _ _ _ h => h) (Or.inr ⟨by rfl, rfl⟩) ?_ ?_
        rotate_left
        ·simp only [Act.put, zp, zq, zr, i64_w, i32_w]
         rfl
        refine pure_ (i := 22) (N := some 77) (v := undef) (a' := ?_) (zv 31 8388607) rfl rfl (by kernel_rfl) (fun _ _ _ h => h) (Or.inr ⟨by rfl, rfl⟩) ?_ ?_
        rotate_left
        ·simp only [Act.put, zp, zq, zr, i64_w, i32_w]
         rfl
        refine pure_ (i := 23) (N := some 78) (v := undef) (a' := ?_) (zv 31 16777215) rfl rfl (by kernel_rfl) (fun _ _ _ h => h) (Or.inr ⟨by rfl, rfl⟩) ?_ ?_
        rotate_left
        ·simp only [Act.put, zp, zq, zr, i64_w, i32_w]
         rfl
        refine pure_ (i := 24) (N := some 79) (v := undef) (a' := ?_) (zv 31 33554431) rfl rfl (by kernel_rfl) (fun _ _ _ h => h) (Or.inr ⟨by rfl, rfl⟩) ?_ ?_
        rotate_left
        ·simp only [Act.put, zp, zq, zr, i64_w, i32_w]
         rfl
        refine pure_ (i := 25) (N := some 80) (v := undef) (a' := ?_) (zv 31 67108863) rfl rfl (by kernel_rfl) (fun _ _ _ h => h) (Or.inr ⟨by rfl, rfl⟩) ?_ ?_
        rotate_left
        ·simp only [Act.put, zp, zq, zr, i64_w, i32_w]
         rfl
        refine pure_ (i := 26) (N := some 81) (v := undef) (a' := ?_) (zv 31 134217727) rfl rfl (by kernel_rfl) (fun _ _ _ h => h) (Or.inr ⟨by rfl, rfl⟩) ?_ ?_
        rotate_left
        ·simp only [Act.put, zp, zq, zr, i64_w, i32_w]
         rfl
        refine pure_ (i := 27) (N := some 82) (v := undef) (a' := ?_) (zv 31 268435455) rfl rfl (by kernel_rfl) (fun _ _ _ h => h) (Or.inr ⟨by rfl, rfl⟩) ?_ ?_
        rotate_left
        ·simp only [Act.put, zp, zq, zr, i64_w, i32_w]
         rfl
        refine pure_ (i := 28) (N := some 83) (v := undef) (a' := ?_) (zv 31 536870911) rfl rfl (by kernel_rfl) (fun _ _ _ h => h) (Or.inr ⟨by rfl, rfl⟩) ?_ ?_
        rotate_left
        ·simp only [Act.put, zp, zq, zr, i64_w, i32_w]
         rfl
        refine pure_ (i := 29) (N := some 84) (v := undef) (a' := ?_) (zv 31 1073741823) rfl rfl (by kernel_rfl) (fun _ _ _ h => h) (Or.inr ⟨by rfl, rfl⟩) ?_ ?_
        rotate_left
        ·simp only [Act.put, zp, zq, zr, i64_w, i32_w]
         rfl
        refine zu 30 (some 85) (zv 31 2147483647) (by kernel_rfl) ?_
        refine done_ (by kernel_rfl) ?_
        have hbr : Below w7.heap.size w7 w7.drew := below_drew (Below.refl _ _)
        have n1 := zK (al.out.below hbr)
        have n3 := zK (blk_below af.out hbr)
        have n4 := zK (Below.trans HB7.out ⟨hbr.os, hbr.tape, hbr.output, hbr.size, fun k_ hk_ => hbr.block k_ (Nat.lt_of_lt_of_le hk_ HB7.out.size)⟩)
        have n5 := zK (show ∀ (gk : Nat) (ck : Array Value), gk ≠ g → w.heap[gk]? = some (.cells ck 28 (0, 0)) → w7.drew.heap[gk]? = some (.cells ck 28 (0, 0)) from fun gk ck hne_ h_ => blk_below (am.out gk ck hne_ h_) hbr)
        go_wp2
        go_roundg k1
        case measure => have := ab.out; omega
        case rel => exact ⟨wrap64 (i + 1), tr, ch, rfl, by first | rfl | exact HLEN.out | (rw [List.length_set]; first | rfl | exact HLEN.out), H', ⟨by have := ab.out; omega⟩, n1, n3, n4, n5⟩
       ·rw [if_neg c7h] at H
        have c7b : decide (v < 0) = false := decide_eq_false c7h
        by_cases c8 : ((rd_T69 ch i).f2.length : Int) ≥ (rd_T69 ch i).f1
        ·rw [if_pos c8] at H
         have c8b : decide (((rd_T69 ch i).f2.length : Int) ≥ (rd_T69 ch i).f1) = true := decide_eq_true c8
         have H' := zK H; clear H
         refine start_ (n := 31) (S := fun w' => w'.cell? ⟨g, 3, none⟩ = some (.slice B3 wa.length d3) ∧ w'.cell? ⟨(ad.add (i.toNat * 3)).block, (ad.add (i.toNat * 3)).off + 1, none⟩ = some (.int .i64 (rd_T69 ch i).f1) ∧ w'.cell? ⟨(ad.add (i.toNat * 3)).block, (ad.add (i.toNat * 3)).off + 2, none⟩ = some (.slice A5 (rd_T69 ch i).f2.length c5)) (ds := []) (zv 31 0) (by kernel_rfl) rfl rfl ⟨an, ao, ap⟩ (fun hHeld => ?_)
         refine zu 0 (some 55) (zv 31 1) (by kernel_rfl) ?_
         refine zu 1 (some 56) (zv 31 3) (by kernel_rfl) ?_
         refine zu 2 (some 57) (zv 31 7) (by kernel_rfl) ?_
         refine zu 3 (some 58) (zv 31 15) (by kernel_rfl) ?_
         refine zu 4 (some 59) (zv 31 31) (by kernel_rfl) ?_
         refine zu 5 (some 60) (zv 31 63) (by kernel_rfl) ?_
         refine zu 6 (some 61) (zv 31 127) (by kernel_rfl) ?_
         refine zu 7 (some 62) (zv 31 255) (by kernel_rfl) ?_
         refine zu 8 (some 63) (zv 31 511) (by kernel_rfl) ?_
         refine zu 9 (some 64) (zv 31 1023) (by kernel_rfl) ?_
         refine zu 12 (some 67) (zv 31 5119) (by kernel_rfl) ?_
         refine zu 13 (some 68) (zv 31 13311) (by kernel_rfl) ?_
         refine zu 14 (some 69) (zv 31 29695) (by kernel_rfl) ?_
         refine zt 10 (some 65) (zv 31 30719) (by kernel_rfl) hHeld ?_
         refine zu 11 (some 66) (zv 31 32767) (by kernel_rfl) ?_
         refine zt 15 (some 70) (zv 31 65535) (by kernel_rfl) hHeld ?_
         refine zu 16 (some 71) (zv 31 131071) (by kernel_rfl) ?_
         refine zu 17 (some 72) (zv 31 262143) (by kernel_rfl) ?_
         refine zu 18 (some 73) (zv 31 524287) (by kernel_rfl) ?_
         refine pure_ (i := 19) (N := some 74) (v := undef) (a' := ?_) (zv 31 1048575) rfl rfl (by kernel_rfl) (fun _ _ _ h => h) (Or.inr ⟨by rfl, rfl⟩) ?_ ?_
         rotate_left
         ·simp only [Act.put, zp, zq, zr, i64_w, i32_w]
          rfl
         refine pure_ (i := 20) (N := some 75) (v := undef) (a' := ?_) (zv 31 2097151) rfl rfl (by kernel_rfl) (fun _ _ _ h => h) (Or.inr ⟨by rfl, rfl⟩) ?_ ?_
         rotate_left
         ·simp only [Act.put, zp, zq, zr, i64_w, i32_w]
          rfl
         refine pure_ (i := 21) (N := some 76) (v := undef) (a' := ?_) (zv 31 4194303) rfl rfl (by kernel_rfl) (fun _ _ _ h => h) (Or.inr ⟨by rfl, rfl⟩) ?_ ?_
         rotate_left
         ·simp only [Act.put, zp, zq, zr, i64_w, i32_w]
          rfl
         refine pure_ (i := 22) (N := some 77) (v := undef) (a' := ?_) (zv 31 8388607) rfl rfl (by kernel_rfl) (fun _ _ _ h => h) (Or.inr ⟨by rfl, rfl⟩) ?_ ?_
         rotate_left
         ·simp only [Act.put, zp, zq, zr, i64_w, i32_w]
          rfl
         refine pure_ (i := 23) (N := some 78) (v := undef) (a' := ?_) (zv 31 16777215) rfl rfl (by kernel_rfl) (fun _ _ _ h => h) (Or.inr ⟨by rfl, rfl⟩) ?_ ?_
         rotate_left
         ·simp only [Act.put, zp, zq, zr, i64_w, i32_w]
          rfl
         refine pure_ (i := 24) (N := some 79) (v := undef) (a' := ?_) (zv 31 33554431) rfl rfl (by kernel_rfl) (fun _ _ _ h => h) (Or.inr ⟨by rfl, rfl⟩) ?_ ?_
         rotate_left
         ·simp only [Act.put, zp, zq, zr, i64_w, i32_w]
          rfl
         refine pure_ (i := 25) (N := some 80) (v := undef) (a' := ?_) (zv 31 67108863) rfl rfl (by kernel_rfl) (fun _ _ _ h => h) (Or.inr ⟨by rfl, rfl⟩) ?_ ?_
         rotate_left
         ·simp only [Act.put, zp, zq, zr, i64_w, i32_w]
          rfl
         refine pure_ (i := 26) (N := some 81) (v := undef) (a' := ?_) (zv 31 134217727) rfl rfl (by kernel_rfl) (fun _ _ _ h => h) (Or.inr ⟨by rfl, rfl⟩) ?_ ?_
         rotate_left
         ·simp only [Act.put, zp, zq, zr, i64_w, i32_w]
          rfl
         refine pure_ (i := 27) (N := some 82) (v := undef) (a' := ?_) (zv 31 268435455) rfl rfl (by kernel_rfl) (fun _ _ _ h => h) (Or.inr ⟨by rfl, rfl⟩) ?_ ?_
         rotate_left
         ·simp only [Act.put, zp, zq, zr, i64_w, i32_w]
          rfl
         refine pure_ (i := 28) (N := some 83) (v := undef) (a' := ?_) (zv 31 536870911) rfl rfl (by kernel_rfl) (fun _ _ _ h => h) (Or.inr ⟨by rfl, rfl⟩) ?_ ?_
         rotate_left
         ·simp only [Act.put, zp, zq, zr, i64_w, i32_w]
          rfl
         refine pure_ (i := 29) (N := some 84) (v := undef) (a' := ?_) (zv 31 1073741823) rfl rfl (by kernel_rfl) (fun _ _ _ h => h) (Or.inr ⟨by rfl, rfl⟩) ?_ ?_
         rotate_left
         ·simp only [Act.put, zp, zq, zr, i64_w, i32_w]
          rfl
         refine zu 30 (some 85) (zv 31 2147483647) (by kernel_rfl) ?_
         refine done_ (by kernel_rfl) ?_
         have hbr : Below w7.heap.size w7 w7.drew := below_drew (Below.refl _ _)
         have n1 := zK (al.out.below hbr)
         have n3 := zK (blk_below af.out hbr)
         have n4 := zK (Below.trans HB7.out ⟨hbr.os, hbr.tape, hbr.output, hbr.size, fun k_ hk_ => hbr.block k_ (Nat.lt_of_lt_of_le hk_ HB7.out.size)⟩)
         have n5 := zK (show ∀ (gk : Nat) (ck : Array Value), gk ≠ g → w.heap[gk]? = some (.cells ck 28 (0, 0)) → w7.drew.heap[gk]? = some (.cells ck 28 (0, 0)) from fun gk ck hne_ h_ => blk_below (am.out gk ck hne_ h_) hbr)
         go_wp2
         go_roundg k1
         case measure => have := ab.out; omega
         case rel => exact ⟨wrap64 (i + 1), tr, ch, rfl, by first | rfl | exact HLEN.out | (rw [List.length_set]; first | rfl | exact HLEN.out), H', ⟨by have := ab.out; omega⟩, n1, n3, n4, n5⟩
        ·rw [if_neg c8] at H
         have c8b : decide (((rd_T69 ch i).f2.length : Int) ≥ (rd_T69 ch i).f1) = false := decide_eq_false c8
         by_cases c9 : v < (wa.length : Int)
         ·rw [if_pos c9] at H
          replace H := Option.bind_eq_some_iff.mp H
          obtain ⟨b, A80, H⟩ := H
          have A8 := zK A80; clear A80; have H' := zK H; clear H
          have c7c : 0 ≤ v := by omega
          obtain ⟨ag, A9, ah, e9, _, hv6, hl9, hi9⟩ := at_T74 C37.out v c7c c9
          cases e9
          have HI9 := zK hi9; have HN9 := zK hl9; clear hi9 hl9; have p9 := eq_true c7c
          have q9 : (v < ((wa.length : Nat) : Int)) = True := eq_true c9
          cases b with
          | false =>
           refine start_ (n := 31) (S := fun w' => w'.cell? ⟨g, 3, none⟩ = some (.slice (some ag) wa.length d3) ∧ w'.cell? ⟨(ad.add (i.toNat * 3)).block, (ad.add (i.toNat * 3)).off + 1, none⟩ = some (.int .i64 (rd_T69 ch i).f1) ∧ w'.cell? ⟨(ad.add (i.toNat * 3)).block, (ad.add (i.toNat * 3)).off + 2, none⟩ = some (.slice A5 (rd_T69 ch i).f2.length c5) ∧ w'.cell? ⟨(ag.add (v.toNat * 2)).block, (ag.add (v.toNat * 2)).off + 1, none⟩ = some (.slice A9 (rd_T74 wa v).f1.length ah)) (ds := []) (zv 31 0) (by kernel_rfl) rfl rfl ⟨an, ao, ap, hv6⟩ (fun hHeld => ?_)
           refine zu 0 (some 55) (zv 31 1) (by kernel_rfl) ?_
           refine zu 1 (some 56) (zv 31 3) (by kernel_rfl) ?_
           refine zu 2 (some 57) (zv 31 7) (by kernel_rfl) ?_
           refine zu 3 (some 58) (zv 31 15) (by kernel_rfl) ?_
           refine zu 4 (some 59) (zv 31 31) (by kernel_rfl) ?_
           refine zu 5 (some 60) (zv 31 63) (by kernel_rfl) ?_
           refine zu 6 (some 61) (zv 31 127) (by kernel_rfl) ?_
           refine zu 7 (some 62) (zv 31 255) (by kernel_rfl) ?_
           refine zu 8 (some 63) (zv 31 511) (by kernel_rfl) ?_
           refine zu 9 (some 64) (zv 31 1023) (by kernel_rfl) ?_
           refine zu 12 (some 67) (zv 31 5119) (by kernel_rfl) ?_
           refine zu 13 (some 68) (zv 31 13311) (by kernel_rfl) ?_
           refine zu 14 (some 69) (zv 31 29695) (by kernel_rfl) ?_
           refine zt 10 (some 65) (zv 31 30719) (by kernel_rfl) hHeld ?_
           refine zu 11 (some 66) (zv 31 32767) (by kernel_rfl) ?_
           refine zt 15 (some 70) (zv 31 65535) (by kernel_rfl) hHeld ?_
           refine zu 16 (some 71) (zv 31 131071) (by kernel_rfl) ?_
           refine zu 17 (some 72) (zv 31 262143) (by kernel_rfl) ?_
           refine zu 18 (some 73) (zv 31 524287) (by kernel_rfl) ?_
           refine zu 19 (some 74) (zv 31 1048575) (by kernel_rfl) ?_
           refine zu 20 (some 75) (zv 31 2097151) (by kernel_rfl) ?_
           refine zu 21 (some 76) (zv 31 4194303) (by kernel_rfl) ?_
           refine zu 23 (some 78) (zv 31 12582911) (by kernel_rfl) ?_
           refine zu 27 (some 82) (zv 31 146800639) (by kernel_rfl) ?_
           refine zt 22 (some 77) (zv 31 150994943) (by kernel_rfl) hHeld ?_
           refine zu 24 (some 79) (zv 31 167772159) (by kernel_rfl) ?_
           refine zu 25 (some 80) (zv 31 201326591) (by kernel_rfl) ?_
           refine zt 26 (some 81) (zv 31 268435455) (by kernel_rfl) hHeld ?_
           refine one_ (i := 28) (N := some 83) (zv 31 536870911) rfl rfl (by kernel_rfl) (by decide) (fun K hK => ?_)
           refine goes_ Try.func52 (by kernel_rfl) rfl #[.slice A9 (rd_T74 wa v).f1.length ah, .int .i64 i] (by rfl) rfl rfl (by simp only [List.map_toArray, List.map_cons, List.map_nil]; rfl) ?_
           with_reducible refine (slices_Contains_int_int.calls k1 A9 ah (rd_T74 wa v).f1 i false _ (Kd.C_drew HI9.out) HN9.out A8.out).mono ?_
           rintro e w8 ⟨rfl, hd8⟩
           refine ⟨_, rfl, ?_⟩
           refine hK.out _ _ ⟨pw_cell_below hd8.below hHeld.1, pw_cell_below hd8.below hHeld.2.1, pw_cell_below hd8.below hHeld.2.2.1, pw_cell_below hd8.below hHeld.2.2.2⟩ (fun hHeld => ?_)
           clear hK K
           refine norm_ (a' := ?_) ?_ ?_
           rotate_left
           ·show Act.put _ (some 83) _ = _
            simp only [Act.put, zp, zq, zr, i64_w, i32_w]
            rfl
           refine zu 29 (some 84) (zv 31 1073741823) (by kernel_rfl) ?_
           refine zu 30 (some 85) (zv 31 2147483647) (by kernel_rfl) ?_
           refine done_ (by kernel_rfl) ?_
           have hbr : Below w7.heap.size w7 w8 := below_then (below_drew (Below.refl _ _)) (Nat.le_refl _) hd8.below
           have n1 := zK (al.out.below hbr)
           have n3 := zK (blk_below af.out hbr)
           have n4 := zK (Below.trans HB7.out ⟨hbr.os, hbr.tape, hbr.output, hbr.size, fun k_ hk_ => hbr.block k_ (Nat.lt_of_lt_of_le hk_ HB7.out.size)⟩)
           have n5 := zK (show ∀ (gk : Nat) (ck : Array Value), gk ≠ g → w.heap[gk]? = some (.cells ck 28 (0, 0)) → w8.heap[gk]? = some (.cells ck 28 (0, 0)) from fun gk ck hne_ h_ => blk_below (am.out gk ck hne_ h_) hbr)
           have H2 := zK (show impl_turn.l0 k1 tr T ch wa (wrap64 (i + 1)) = some (r1, r2, r3) from by have h_ := H'.out; rwa [if_neg (by simp)] at h_)
           clear hd8
           go_wp2
           go_roundg k1
           case measure => have := ab.out; omega
           case rel => exact ⟨wrap64 (i + 1), tr, ch, rfl, by first | rfl | exact HLEN.out | (rw [List.length_set]; first | rfl | exact HLEN.out), H2, ⟨by have := ab.out; omega⟩, n1, n3, n4, n5⟩
          | true =>
           have H := H'.out; clear H'
           rw [if_pos rfl] at H
           by_cases c10 : (rd_T69 ch i).f2.length < 17592186044416
           ·rw [if_pos c10] at H
            have H' := zK H; clear H
            refine start_ (n := 31) (S := fun w' => w'.cell? ⟨g, 3, none⟩ = some (.slice (some ag) wa.length d3) ∧ w'.cell? ⟨(ad.add (i.toNat * 3)).block, (ad.add (i.toNat * 3)).off + 1, none⟩ = some (.int .i64 (rd_T69 ch i).f1) ∧ w'.cell? ⟨(ad.add (i.toNat * 3)).block, (ad.add (i.toNat * 3)).off + 2, none⟩ = some (.slice A5 (rd_T69 ch i).f2.length c5) ∧ w'.cell? ⟨(ag.add (v.toNat * 2)).block, (ag.add (v.toNat * 2)).off + 1, none⟩ = some (.slice A9 (rd_T74 wa v).f1.length ah)) (ds := []) (zv 31 0) (by kernel_rfl) rfl rfl ⟨an, ao, ap, hv6⟩ (fun hHeld => ?_)
            refine zu 0 (some 55) (zv 31 1) (by kernel_rfl) ?_
            refine zu 1 (some 56) (zv 31 3) (by kernel_rfl) ?_
            refine zu 2 (some 57) (zv 31 7) (by kernel_rfl) ?_
            refine zu 3 (some 58) (zv 31 15) (by kernel_rfl) ?_
            refine zu 4 (some 59) (zv 31 31) (by kernel_rfl) ?_
            refine zu 5 (some 60) (zv 31 63) (by kernel_rfl) ?_
            refine zu 6 (some 61) (zv 31 127) (by kernel_rfl) ?_
            refine zu 7 (some 62) (zv 31 255) (by kernel_rfl) ?_
            refine zu 8 (some 63) (zv 31 511) (by kernel_rfl) ?_
            refine zu 9 (some 64) (zv 31 1023) (by kernel_rfl) ?_
            refine zu 12 (some 67) (zv 31 5119) (by kernel_rfl) ?_
            refine zu 13 (some 68) (zv 31 13311) (by kernel_rfl) ?_
            refine zu 14 (some 69) (zv 31 29695) (by kernel_rfl) ?_
            refine zt 10 (some 65) (zv 31 30719) (by kernel_rfl) hHeld ?_
            refine zu 11 (some 66) (zv 31 32767) (by kernel_rfl) ?_
            refine zt 15 (some 70) (zv 31 65535) (by kernel_rfl) hHeld ?_
            refine zu 16 (some 71) (zv 31 131071) (by kernel_rfl) ?_
            refine zu 17 (some 72) (zv 31 262143) (by kernel_rfl) ?_
            refine zu 18 (some 73) (zv 31 524287) (by kernel_rfl) ?_
            refine zu 19 (some 74) (zv 31 1048575) (by kernel_rfl) ?_
            refine zu 20 (some 75) (zv 31 2097151) (by kernel_rfl) ?_
            refine zu 21 (some 76) (zv 31 4194303) (by kernel_rfl) ?_
            refine zu 23 (some 78) (zv 31 12582911) (by kernel_rfl) ?_
            refine zu 27 (some 82) (zv 31 146800639) (by kernel_rfl) ?_
            refine zt 22 (some 77) (zv 31 150994943) (by kernel_rfl) hHeld ?_
            refine zu 24 (some 79) (zv 31 167772159) (by kernel_rfl) ?_
            refine zu 25 (some 80) (zv 31 201326591) (by kernel_rfl) ?_
            refine zt 26 (some 81) (zv 31 268435455) (by kernel_rfl) hHeld ?_
            refine one_ (i := 28) (N := some 83) (zv 31 536870911) rfl rfl (by kernel_rfl) (by decide) (fun K hK => ?_)
            refine goes_ Try.func52 (by kernel_rfl) rfl #[.slice A9 (rd_T74 wa v).f1.length ah, .int .i64 i] (by rfl) rfl rfl (by simp only [List.map_toArray, List.map_cons, List.map_nil]; rfl) ?_
            with_reducible refine (slices_Contains_int_int.calls k1 A9 ah (rd_T74 wa v).f1 i true _ (Kd.C_drew HI9.out) HN9.out A8.out).mono ?_
            rintro e w8 ⟨rfl, hd8⟩
            refine ⟨_, rfl, ?_⟩
            refine hK.out _ _ ⟨pw_cell_below hd8.below hHeld.1, pw_cell_below hd8.below hHeld.2.1, pw_cell_below hd8.below hHeld.2.2.1, pw_cell_below hd8.below hHeld.2.2.2⟩ (fun hHeld => ?_)
            clear hK K
            refine norm_ (a' := ?_) ?_ ?_
            rotate_left
            ·show Act.put _ (some 83) _ = _
             simp only [Act.put, zp, zq, zr, i64_w, i32_w]
             rfl
            refine zu 29 (some 84) (zv 31 1073741823) (by kernel_rfl) ?_
            refine zu 30 (some 85) (zv 31 2147483647) (by kernel_rfl) ?_
            refine done_ (by kernel_rfl) ?_
            have hbr : Below w7.heap.size w7 w8 := below_then (below_drew (Below.refl _ _)) (Nat.le_refl _) hd8.below
            have n1 := zK (al.out.below hbr)
            have n3 := zK (blk_below af.out hbr)
            have n4 := zK (Below.trans HB7.out ⟨hbr.os, hbr.tape, hbr.output, hbr.size, fun k_ hk_ => hbr.block k_ (Nat.lt_of_lt_of_le hk_ HB7.out.size)⟩)
            have n5 := zK (show ∀ (gk : Nat) (ck : Array Value), gk ≠ g → w.heap[gk]? = some (.cells ck 28 (0, 0)) → w8.heap[gk]? = some (.cells ck 28 (0, 0)) from fun gk ck hne_ h_ => blk_below (am.out gk ck hne_ h_) hbr)
            clear hd8
            go_wp2
            have hd : Below w8.heap.size w8 w8.drew := below_drew (Below.refl _ _)
            have hLd := n1.out.below hd
            obtain ⟨gC, AB, cB, oki, eC, hbC, htC, hgC, hR8, aq, hok8, hH8⟩ := hLd.lend i c2 c1
            cases eC
            have HLd := zK hLd; have HBC := zK hbC; have HTC := zK htC; have HGC := zK hgC; have ar := zK hR8; have HFR8 := zK aq; have HOK8 := zK hok8; have HH8 := zK hH8; have HL9 := zK c10
            have hu0 : w8.cell? ⟨g, 0, none⟩ = some (.slice (some ⟨gT, 0, none⟩) tr.length d0') := (blk_cell n3.out 0).trans rfl
            have hu1 : w8.cell? ⟨gC, i.toNat * 3 + 2, none⟩ = some (.slice AB (rd_T69 ch i).f2.length cB) := (Kd.H_at hH8 c2 c1).1 2 _ rfl
            have info3 : (Try.prog.info? 3).map (fun i => (i.zero, i.size, i.bytes)) = some (some (.int .i64 0), 1, 8) := by kernel_rfl
            clear hd hLd hbC htC hgC hR8 aq hok8 hH8 c10
            refine start_ (n := 18) (S := fun w' => w'.cell? ⟨g, 0, none⟩ = some (.slice (some ⟨gT, 0, none⟩) tr.length d0') ∧ w'.cell? ⟨gC, i.toNat * 3 + 2, none⟩ = some (.slice AB (rd_T69 ch i).f2.length cB)) (ds := [15, 17]) (zv 18 0) (by kernel_rfl) rfl rfl ⟨hu0, hu1⟩ (fun hHeld => ?_)
            refine zu 0 (some 86) (zv 18 1) (by kernel_rfl) ?_
            refine zu 1 (some 87) (zv 18 3) (by kernel_rfl) ?_
            refine zu 2 (some 88) (zv 18 7) (by kernel_rfl) ?_
            refine zu 3 (some 89) (zv 18 15) (by kernel_rfl) ?_
            refine zu 5 (some 91) (zv 18 47) (by kernel_rfl) ?_
            refine zu 6 (some 92) (zv 18 111) (by kernel_rfl) ?_
            refine zu 7 (some 93) (zv 18 239) (by kernel_rfl) ?_
            refine zu 8 (some 94) (zv 18 495) (by kernel_rfl) ?_
            refine zu 10 (some 96) (zv 18 1519) (by kernel_rfl) ?_
            refine zt 4 (some 90) (zv 18 1535) (by kernel_rfl) hHeld ?_
            refine zt 9 (some 95) (zv 18 2047) (by kernel_rfl) hHeld ?_
            refine one_ (i := 11) (N := some 97) (zv 18 4095) rfl rfl (by kernel_rfl) (by decide) (fun K hK => ?_)
            refine value_ (w1 := ?_) (v := ?_) (by rfl) rfl ?_ ?_
            rotate_left 2
            ·go_simp
             constructor
             ·rfl
             ·rfl
            refine hK.out _ _ ⟨pw_cell_below (zB (Below.refl _ _) _) hHeld.1, pw_cell_below (zB (Below.refl _ _) _) hHeld.2⟩ (fun hHeld => ?_)
            clear hK K
            refine norm_ (a' := ?_) ?_ ?_
            rotate_left
            ·show Act.put _ (some 97) _ = _
             simp only [Act.put, zp, zq, zr, i64_w, i32_w]
             rfl
            refine one_ (i := 12) (N := some 98) (zv 18 8191) rfl rfl (by kernel_rfl) (by decide) (fun K hK => ?_)
            refine Kd.R_append_step (Kd.int .i64) (w0 := w0) (W := w8.drew) w0.heap.size (by rfl) (.tmp 95) (.tmp 97) 24 3 (.int .i64 0) 8 rfl Try.underlying24 info3 rfl (by decide) (by omega) (.slice AB (rd_T69 ch i).f2.length cB) (rd_T69 ch i).f2 (rd tr t) [.int .i64 (rd tr t)] oki (fun _ => False) rfl rfl ?aP (fun _ hk => hk.elim) ?aF ?aO ?aB ?aS ?aL ?_
            (case aP => exact rfl)
            (case aF => exact fun k hk => HFR8.out k hk)
            (case aO => exact ar.out)
            (case aB => exact below_drew n4.out)
            (case aS => exact n4.out.size)
            (case aL => have := HL9.out; omega)
            intro v9 w9 ho9 hb9 hg9 hat9
            obtain ⟨AC, kC, rfl⟩ := Kd.R_slice ho9
            rw [show ((rd_T69 ch i).f2 ++ [rd tr t]).length = (rd_T69 ch i).f2.length + 1 from by simp] at ho9 hat9
            obtain ⟨hcz, hfz, hLp⟩ := HLd.out.put i c2 c1 HOK8.out HGC.out ar.out HH8.out hg9 ho9
            have b3_ := blk_grown (w := w8.drew) (blk_below n3.out (below_drew (Below.refl _ _))) hg9 (Kd.R_ne ar.out (blk_below n3.out (below_drew (Below.refl _ _))) (by decide))
            obtain ⟨gT', eT', hbT', ⟨cT, htT⟩, hcT', hfT', hLT'⟩ := hLp.tray t c4 c5h 0
            cases eT'
            refine hK.out _ _ ⟨(blk_cell b3_ 0).trans rfl, hcz⟩ (fun hHeld => ?_)
            clear hK K
            refine norm_ (a' := ?_) ?_ ?_
            rotate_left
            ·show Act.put _ (some 98) _ = _
             simp only [Act.put, zp, zq, zr, i64_w, i32_w]
             rfl
            refine zu 13 (some 99) (zv 18 16383) (by kernel_rfl) ?_
            refine zu 14 (some 100) (zv 18 32767) (by kernel_rfl) ?_
            refine last_ (i := 15) (N := none) (zv 18 65535) rfl rfl (by kernel_rfl) (by decide) (fun K hK => ?_)
            refine skip_ (w1 := ?_) (by rfl) rfl ?_ ?_
            rotate_left
            ·go_simp
             rfl
            refine hK.out _ _ ?_
            clear hK K
            refine zu 16 (some 101) (zv 18 131071) (by kernel_rfl) ?_
            refine last_ (i := 17) (N := none) (zv 18 262143) rfl rfl (by kernel_rfl) (by decide) (fun K hK => ?_)
            refine skip_ (w1 := ?_) (by rfl) rfl ?_ ?_
            rotate_left
            ·go_simp
             rfl
            refine hK.out _ _ ?_
            clear hK K
            refine done_ (by kernel_rfl) ?_
            obtain ⟨cC, hcC⟩ := HTC.out
            have hc9 := blk_grown hcC hg9 (fun e_ => (HOK8.out gC (ar.out.1 gC e_.symm)).2 rfl)
            have n3C : g ≠ gC := blk_ne b3_ hc9 (by decide)
            have b3' := blk_far (p := ⟨gC, i.toNat * 3 + 2, none⟩) b3_ n3C (.slice AC ((rd_T69 ch i).f2.length + 1) kC)
            have n3T : g ≠ gT := blk_ne b3' htT (by decide)
            have B3e := zK (blk_far (p := ⟨gT, t.toNat, none⟩) b3' n3T (.int .i64 0))
            have HLe := zK hLT'
            have HBe := zK (zS (g := gT) (j := t.toNat) (v := .int .i64 0) (zS (g := gC) (j := i.toNat * 3 + 2) (v := .slice AC ((rd_T69 ch i).f2.length + 1) kC) hb9 HBC.out) HBT.out)
            have HKe := zK (show ∀ (gk : Nat) (ck : Array Value), gk ≠ g → w.heap[gk]? = some (.cells ck 28 (0, 0)) → ((w9.setCell ⟨gC, i.toNat * 3 + 2, none⟩ (.slice AC ((rd_T69 ch i).f2.length + 1) kC)).setCell ⟨gT, t.toNat, none⟩ (.int .i64 0)).heap[gk]? = some (.cells ck 28 (0, 0)) from fun gk ck hne_ h_ => by
            have q1_ := blk_grown (w := w8.drew) (blk_below (n5.out gk ck hne_ h_) (below_drew (Below.refl _ _))) hg9 (Kd.R_ne ar.out (blk_below (n5.out gk ck hne_ h_) (below_drew (Below.refl _ _))) (by decide))
            have q2_ := blk_far (p := ⟨gC, i.toNat * 3 + 2, none⟩) q1_ (blk_ne q1_ hc9 (by decide)) (.slice AC ((rd_T69 ch i).f2.length + 1) kC)
            exact blk_far (p := ⟨gT, t.toNat, none⟩) q2_ (blk_ne q2_ htT (by decide)) (.int .i64 0))
            clear b3_ b3' hc9 hLT' hb9 hg9 hat9 ho9 hbT' hLp
            go_wp2
            go_roundg k1
            case measure => have := ab.out; omega
            case rel => exact ⟨wrap64 (i + 1), tr.set t.toNat 0, ch.set i.toNat ⟨(rd_T69 ch i).f0, (rd_T69 ch i).f1, (rd_T69 ch i).f2 ++ [rd tr t]⟩, rfl, by rw [List.length_set]; exact HLEN.out, H', ⟨by have := ab.out; omega⟩, HLe, B3e, HBe, HKe⟩
           ·rw [if_neg c10] at H
            exact absurd H (by simp)
         ·rw [if_neg c9] at H
          exact absurd H (by simp)
     ·rw [if_neg c5h] at H
      exact absurd H (by simp)
    ·rw [if_neg c4] at H
     exact absurd H (by simp)
   ·rw [if_neg c2] at H
    exact absurd H (by simp)
  ·rw [if_neg c1] at H
   have c1b : decide (i < (ch0.length : Int)) = false := decide_eq_false (by rw [← HLEN.out]; exact c1)
   simp only [Option.some.injEq, Prod.mk.injEq] at H
   obtain ⟨rfl, rfl, rfl⟩ := H
   go_wp2
   go_end0
   exact ⟨rfl, HL.out, ae.out, HB.out, HK.out⟩
def impl_EmptyAt.l0 : Nat → Int → Int → List Int → Int → List (S69) → List (S74) → Option (Int × Bool)
 | 0, _, _, _, _, _, _ => none
 | k + 1, x, n, tr, tu, ch, wa => if n ≤ 600 then ((impl_trayAt.f tr tu ch wa x).bind fun t => (if 0 ≤ t then (if t < (tr.length : Int) then (if rd tr t = 0 then (some (n, true)) else ((impl_turn.f k tr tu ch wa).bind fun q => (impl_EmptyAt.l0 k x (wrap64 (n + 1)) q.1 q.2.1 q.2.2 wa))) else (none)) else (none))) else (some (0, false))
def impl_EmptyAt.f (k : Nat) (a : List Int) (b : Int) (d : List (S69)) (e : List (S74)) (f : Int) : Option (Int × Bool) := (impl_TrayAt.f k a b d e f).bind fun ti => (if ti < 0 then (some (0, false)) else ((impl_copyLoop.f k a b d e).bind fun c => (impl_EmptyAt.l0 k f 0 c.1 c.2.1 c.2.2.1 c.2.2.2)))
set_option maxHeartbeats 8000000 in
set_option maxRecDepth 100000 in
theorem impl_EmptyAt.calls (k : Nat) (af : Option Addr) (ag : Nat) (aa : List Int) (a0_1 : Int) (ah : Option Addr) (ai : Nat) (ab : List (S69)) (aj : Option Addr) (ak : Nat) (ac : List (S74)) (a1 : Int) (r1 : Int) (r2 : Bool) (w : World) (al : Kd.C (Kd.int .i64) w af aa.length aa) (hc0_0 : aa.length ≤ ag) (am : Kd.C k69 w ah ab.length ab) (hc0_2 : ab.length ≤ ai) (an : Kd.C k74 w aj ac.length ac) (hc0_3 : ac.length ≤ ak) (h : impl_EmptyAt.f k aa a0_1 ab ac a1 = some (r1, r2)) :
 Calls Try.prog 37 #[.agg #[.slice af aa.length ag, .int .i64 a0_1, .slice ah ab.length ai, .slice aj ac.length ak], .int .i64 a1] w fun e w' => e = .returned (.tuple #[.int .i64 r1, .bool r2]) ∧ Below w.heap.size w w' := by
 have hu28 := Try.underlying28; have HR0 := zK al; have HC0 := zK hc0_0; have HR2 := zK am; have HC2 := zK hc0_2; have HR3 := zK an; have HC3 := zK hc0_3; clear al hc0_0 am hc0_2 an hc0_3; have H := h
 unfold impl_EmptyAt.f at H
 clear h; replace H := Option.bind_eq_some_iff.mp H
 obtain ⟨ti, A10, H⟩ := H
 have A1 := zK A10; clear A10
 by_cases c1 : ti < 0
 ·rw [if_pos c1] at H
  have c1b : decide (ti < 0) = true := decide_eq_true c1
  simp only [Option.some.injEq, Prod.mk.injEq] at H
  obtain ⟨rfl, rfl⟩ := H
  go_enter Try.func37, Try.ntmps37
  go_wp2_with (first | ((with_reducible refine gate_dst (N := 2) rfl ?_); refine zX 2 #[.slice af aa.length ag, .int .i64 a0_1, .slice ah ab.length ai, .slice aj ac.length ak] 28 ?_; intro g1 hg w1 hbox hb; have HB := zK hb; have ae := zK hbox; clear hb hbox hg; obtain ⟨hz0, hz1, hz2, hz3⟩ := zL4 ae) | ((with_reducible refine gate_callee (f := 35) rfl ?_); refine goesL_ (some 10) rfl rfl Try.func35 (by kernel_rfl) rfl #[.agg #[.slice af aa.length ag, .int .i64 a0_1, .slice ah ab.length ai, .slice aj ac.length ak], .int .i64 a1] rfl zg ?_; (with_reducible refine (impl_TrayAt.calls k _ _ aa a0_1 _ _ ab _ _ ac a1 ti _ ?side1 HC0.out ?side3 HC2.out ?side5 HC3.out A1.out).mono ?_); (case side1 => exact zs (Kd.C_below HR0.out HB.out)); (case side3 => exact zs (Kd.C_below HR2.out HB.out)); (case side5 => exact zs (Kd.C_below HR3.out HB.out)); rintro e w2 ⟨rfl, hb⟩; refine ⟨_, rfl, ?_⟩; have hB_ : Below w.heap.size w _ := (by repeat (first | exact HB.out | apply zB | apply zC | apply zE)); replace ae := zK (blk_below (zk ae) hb); replace HB := zK (below_step hB_ hb); clear hb hB_ hz0 hz1 hz2 hz3; obtain ⟨hz0, hz1, hz2, hz3⟩ := zL4 ae))
  go_ret2
  exact ⟨rfl, HB.out⟩
 ·rw [if_neg c1] at H
  have c1b : decide (ti < 0) = false := decide_eq_false c1
  replace H := Option.bind_eq_some_iff.mp H
  obtain ⟨⟨tr0, tu0, ch0, wa0⟩, A20, H⟩ := H
  have A2 := zK A20; clear A20
  have H' := zK (show impl_EmptyAt.l0 k a1 0 tr0 tu0 ch0 wa0 = some (r1, r2) from H)
  clear H
  go_enter Try.func37, Try.ntmps37
  go_wp2_with (first | ((with_reducible refine gate_dst (N := 2) rfl ?_); refine zX 2 #[.slice af aa.length ag, .int .i64 a0_1, .slice ah ab.length ai, .slice aj ac.length ak] 28 ?_; intro g1 hg w1 hbox hb; have HB := zK hb; have ae := zK hbox; clear hb hbox hg; obtain ⟨hz0, hz1, hz2, hz3⟩ := zL4 ae) | ((with_reducible refine gate_callee (f := 35) rfl ?_); refine goesL_ (some 10) rfl rfl Try.func35 (by kernel_rfl) rfl #[.agg #[.slice af aa.length ag, .int .i64 a0_1, .slice ah ab.length ai, .slice aj ac.length ak], .int .i64 a1] rfl zg ?_; (with_reducible refine (impl_TrayAt.calls k _ _ aa a0_1 _ _ ab _ _ ac a1 ti _ ?side1 HC0.out ?side3 HC2.out ?side5 HC3.out A1.out).mono ?_); (case side1 => exact zs (Kd.C_below HR0.out HB.out)); (case side3 => exact zs (Kd.C_below HR2.out HB.out)); (case side5 => exact zs (Kd.C_below HR3.out HB.out)); rintro e w2 ⟨rfl, hb⟩; refine ⟨_, rfl, ?_⟩; have hB_ : Below w.heap.size w _ := (by repeat (first | exact HB.out | apply zB | apply zC | apply zE)); replace ae := zK (blk_below (zk ae) hb); replace HB := zK (below_step hB_ hb); clear hb hB_ hz0 hz1 hz2 hz3; obtain ⟨hz0, hz1, hz2, hz3⟩ := zL4 ae) | ((with_reducible refine gate_callee (f := 53) rfl ?_); refine goesL_ (some 13) rfl rfl Try.func53 (by kernel_rfl) rfl #[.agg #[.slice af aa.length ag, .int .i64 a0_1, .slice ah ab.length ai, .slice aj ac.length ak]] rfl zg ?_; (with_reducible refine (impl_copyLoop.calls2 k _ _ aa a0_1 _ _ ab _ _ ac tr0 tu0 ch0 wa0 _ ?side1 HC0.out ?side3 HC2.out ?side5 HC3.out A2.out).mono ?_); (case side1 => exact zs (Kd.C_below HR0.out HB.out)); (case side3 => exact zs (Kd.C_below HR2.out HB.out)); (case side5 => exact zs (Kd.C_below HR3.out HB.out)); rintro e w3 ⟨v0, v2, v3, N_, rfl, ho0, ho2, ho3, hN, hb⟩; refine ⟨_, rfl, ?_⟩; have hB_ : Below w.heap.size w _ := (by repeat (first | exact HB.out | apply zB | apply zC | apply zE)); obtain ⟨PW, hL⟩ := LoopMem.mk (Kd.R_lower ho0 (below_size hB_)) (Kd.S_lower ho2 (below_size hB_)) ho3 (Nat.le_trans (below_size hB_) hN); have HL := zK hL; replace HB := zK (below_step hB_ hb); clear ae hb ho0 ho2 ho3 hN hB_ hL; obtain ⟨B0, d0, B2, d2, B3, d3, rfl, rfl, rfl, l0_, l2_, l3_, _, _, _⟩ := HL.out.reads; clear l0_ l2_ l3_) | ((with_reducible refine gate_dst (N := 6) rfl ?_); refine zX 6 #[.slice none 0 0, .int .i64 0, .slice none 0 0, .slice none 0 0] 28 ?_; intro g3 hg w4 hbox hb; have hB_ : Below w.heap.size w _ := (by repeat (first | exact HB.out | apply zB | apply zC | apply zE)); have n2 := zK (below_step hB_ hb); have ao := zK (show w.heap.size ≤ g3 from by rw [hg]; exact hB_.size); have n3 := zK (LoopMem.below (by repeat (first | exact HL.out | refine LoopMem.below ?_ (zB (Below.refl _ _) _) | refine LoopMem.below ?_ (zC (Below.refl _ _) _) | refine LoopMem.below ?_ (below_drew (Below.refl _ _)))) hb); clear HB HL; have HB := n2; have HL := n3; clear n2 n3 hB_; have ad := zK hbox; clear hb hbox hg; obtain ⟨hy0, hy1, hy2, hy3⟩ := zL4 ad; obtain ⟨hf0, hf1, hf2, hf3⟩ := zF4 ad))
  have b0 := blk_put ad.out 0 (.slice B0 tr0.length d0) rfl
  have b1 := blk_put b0 1 (.int .i64 tu0) rfl
  have b2 := blk_put b1 2 (.slice B2 ch0.length d2) rfl
  have BK3' : ((((w4.setCell ⟨g3, 0, none⟩ (.slice B0 tr0.length d0)).setCell ⟨g3, 1, none⟩ (.int .i64 tu0)).setCell ⟨g3, 2, none⟩ (.slice B2 ch0.length d2)).setCell ⟨g3, 3, none⟩ (.slice B3 wa0.length d3)).heap[g3]? = some (.cells #[.slice B0 tr0.length d0, .int .i64 tu0, .slice B2 ch0.length d2, .slice B3 wa0.length d3] 28 (0, 0)) := blk_put (blk_put (blk_put (blk_put ad.out 0 _ rfl) 1 _ rfl) 2 _ rfl) 3 _ rfl
  have n1 := zK ((((HL.out.box ad.out 0 (.slice B0 tr0.length d0)).box b0 1 (.int .i64 tu0)).box b1 2 (.slice B2 ch0.length d2)).box b2 3 (.slice B3 wa0.length d3))
  have n3 := zK (zS (j := 3) (v := .slice B3 wa0.length d3) (zS (j := 2) (v := .slice B2 ch0.length d2) (zS (j := 1) (v := .int .i64 tu0) (zS (j := 0) (v := .slice B0 tr0.length d0) HB.out ao.out) ao.out) ao.out) ao.out)
  clear HL HB b0 b1 b2 ad hy0 hy1 hy2 hy3 hf0 hf1 hf2 hf3; have HL := n1; have HB := n3; have ad := zK BK3'; clear n1 n3 BK3'
  generalize Value.slice B0 tr0.length d0 = V0 at HL ad HB ⊢
  generalize Value.slice B2 ch0.length d2 = V2 at HL ad HB ⊢
  generalize Value.slice B3 wa0.length d3 = V3 at HL ad HB ⊢
  go_loopg [7] k (fun kq v7 w' => ∃ (n : Int) (tr : List Int) (T : Int) (ch : List S69), v7 = .int .i64 n ∧ Aside0 (impl_EmptyAt.l0 kq a1 n tr T ch wa0 = some (r1, r2)) ∧ Aside0 (kq ≤ k) ∧ Aside0 (LoopMem w.heap.size w' PW V0 tr V2 ch V3 wa0) ∧ Aside0 (w'.heap[g3]? = some (.cells #[V0, .int .i64 T, V2, V3] 28 (0, 0))) ∧ Aside0 (Below w.heap.size w w'))
  case atStart => exact ⟨0, tr0, tu0, ch0, rfl, H', ⟨Nat.le_refl _⟩, HL, ad, HB⟩
  case round =>
  clear H' HL ad HB
  obtain ⟨n, tr, T, ch, rfl, HA, HK1, HL, ad, HB⟩ := hrel
  cases gk with
  | zero => exact absurd HA.out (by simp [impl_EmptyAt.l0])
  | succ k1 =>
   have H := HA.out; clear HA
   simp only [impl_EmptyAt.l0] at H
   by_cases c2 : n ≤ 600
   ·rw [if_pos c2] at H
    have c2b : decide (n ≤ 600) = true := decide_eq_true c2
    replace H := Option.bind_eq_some_iff.mp H
    obtain ⟨t, A60, H⟩ := H
    have A6 := zK A60; clear A60
    by_cases c4 : 0 ≤ t
    ·rw [if_pos c4] at H
     by_cases c5h : t < (tr.length : Int)
     ·rw [if_pos c5h] at H
      have H' := zK H; clear H
      obtain ⟨B0', d0', B2', d2', B3', d3', e0, e2, e3, L0, L2, L3, C0, C2, C3⟩ := HL.out.reads
      subst e0 e2 e3
      obtain ⟨gT, eT, _, _, hcT, _, _⟩ := HL.out.tray t c4 c5h 0
      cases eT
      have HC0' := zK C0; have HC2' := zK C2; have HC3' := zK C3; have HL0' := zK L0; have HL2' := zK L2; have HL3' := zK L3; clear C0 C2 C3 L0 L2 L3
      obtain ⟨hz0, hz1, hz2, hz3⟩ := zL4 ad
      have p5 := eq_true c4
      have q5 : (t < ((tr.length : Nat) : Int)) = True := eq_true c5h
      go_wp2
      refine start_ (n := 8) (S := fun w' => w'.cell? ⟨g3, 0, none⟩ = some (.slice (some ⟨gT, 0, none⟩) tr.length d0') ∧ w'.cell? ⟨g3, 1, none⟩ = some (.int .i64 T) ∧ w'.cell? ⟨g3, 2, none⟩ = some (.slice B2' ch.length d2') ∧ w'.cell? ⟨g3, 3, none⟩ = some (.slice B3' wa0.length d3') ∧ w'.cell? ⟨gT, t.toNat, none⟩ = some (.int .i64 (rd tr t))) (ds := []) (zv 8 0) (by kernel_rfl) rfl rfl ⟨hz0, hz1, hz2, hz3, hcT⟩ (fun hHeld => ?_)
      refine zu 0 (some 18) (zv 8 1) (by kernel_rfl) ?_
      refine zu 3 (some 21) (zv 8 9) (by kernel_rfl) ?_
      refine zt 1 (some 19) (zv 8 11) (by kernel_rfl) hHeld ?_
      refine zt 2 (some 20) (zv 8 15) (by kernel_rfl) hHeld ?_
      refine one_ (i := 4) (N := some 22) (zv 8 31) rfl rfl (by kernel_rfl) (by decide) (fun K hK => ?_)
      refine goes_ Try.func78 (by kernel_rfl) rfl #[.agg #[.slice (some ⟨gT, 0, none⟩) tr.length d0', .int .i64 T, .slice B2' ch.length d2', .slice B3' wa0.length d3'], .int .i64 a1] (by rfl) rfl rfl (by simp only [List.map_toArray, List.map_cons, List.map_nil]; rfl) ?_
      with_reducible refine (impl_trayAt.calls (some ⟨gT, 0, none⟩) d0' tr T B2' d2' ch B3' d3' wa0 a1 t _ (Kd.C_drew HC0'.out) HL0'.out (Kd.C_drew HC2'.out) HL2'.out (Kd.C_drew HC3'.out) HL3'.out A6.out).mono ?_
      rintro e w5 ⟨rfl, hb5⟩
      refine ⟨_, rfl, ?_⟩
      refine hK.out _ _ ⟨pw_cell_below hb5 hHeld.1, pw_cell_below hb5 hHeld.2.1, pw_cell_below hb5 hHeld.2.2.1, pw_cell_below hb5 hHeld.2.2.2.1, pw_cell_below hb5 hHeld.2.2.2.2⟩ (fun hHeld => ?_)
      clear hK K
      refine norm_ (a' := ?_) ?_ ?_
      rotate_left
      ·show Act.put _ (some 22) _ = _
       simp only [Act.put, zp, zq, zr, i64_w, i32_w]
       rfl
      refine zu 5 (some 23) (zv 8 63) (by kernel_rfl) ?_
      refine zt 6 (some 24) (zv 8 127) (by kernel_rfl) hHeld ?_
      refine zu 7 (some 25) (zv 8 255) (by kernel_rfl) ?_
      refine done_ (by kernel_rfl) ?_
      have hbr : Below wr.heap.size wr w5 := below_then (below_drew (Below.refl _ _)) (Nat.le_refl _) hb5
      have n1 := zK (HL.out.below hbr)
      have n3 := zK (blk_below ad.out hbr)
      have n4 := zK (below_step HB.out hbr)
      have H := H'.out; clear H' hb5 hbr hz0 hz1 hz2 hz3 hcT HL ad HB HC0' HC2' HC3' HL0' HL2' HL3'; have HL := n1; have ad := n3; have HB := n4; clear n1 n3 n4
      by_cases c6 : rd tr t = 0
      ·rw [if_pos c6] at H
       have c6a : (rd tr t == 0) = true := beq_iff_eq.mpr c6
       simp only [Option.some.injEq, Prod.mk.injEq] at H
       obtain ⟨rfl, rfl⟩ := H
       go_wp2
       go_ret2
       exact ⟨rfl, HB.out⟩
      ·rw [if_neg c6] at H
       have c6a : (rd tr t == 0) = false := beq_eq_false_iff_ne.mpr c6
       replace H := Option.bind_eq_some_iff.mp H
       obtain ⟨⟨t1, t2, t3⟩, A50, H⟩ := H
       have A5 := zK A50; clear A50
       have H' := zK (show impl_EmptyAt.l0 k1 a1 (wrap64 (n + 1)) t1 t2 t3 wa0 = some (r1, r2) from H)
       clear H
       go_wp2_with ((with_reducible refine gate_callee (f := 54) rfl ?_); refine goesL_ (some 27) rfl rfl Try.func54 (by kernel_rfl) rfl #[.pointer (some ⟨g3, 0, none⟩)] rfl zg ?_; (with_reducible refine (impl_turn.calls k1 g3 w _ PW _ _ _ tr T ch wa0 t1 t2 t3 (by repeat (first | exact HB.out | apply zB | apply zC | apply zE)) ao.out (zk ad) (by repeat (first | exact HL.out | refine LoopMem.below ?_ (zB (Below.refl _ _) _) | refine LoopMem.below ?_ (zC (Below.refl _ _) _) | refine LoopMem.below ?_ (below_drew (Below.refl _ _)))) A5.out).mono ?_); rintro e w5 ⟨rfl, hL, hbk, hB, _⟩; refine ⟨_, rfl, ?_⟩; clear HL ad HB; have HL := zK hL; have ad := zK hbk; have HB := zK hB; clear hL hbk hB)
       go_roundg k1
       case measure => have := HK1.out; omega
       case rel => exact ⟨wrap64 (n + 1), t1, t2, t3, rfl, H', ⟨by have := HK1.out; omega⟩, HL, ad, HB⟩
     ·rw [if_neg c5h] at H
      exact absurd H (by simp)
    ·rw [if_neg c4] at H
     exact absurd H (by simp)
   ·rw [if_neg c2] at H
    have c2b : decide (n ≤ 600) = false := decide_eq_false c2
    simp only [Option.some.injEq, Prod.mk.injEq] at H
    obtain ⟨rfl, rfl⟩ := H
    go_wp2
    go_ret2
    exact ⟨rfl, HB.out⟩
theorem lm_box4 {base : Nat} {w : World} {PW : Nat → Prop} {v0 v2 v3 : Value} {tr : List Int} {ch : List S69} {wa : List S74} (h : LoopMem base w PW v0 tr v2 ch v3 wa) {g : Nat} {c0 c1 c2 c3 : Value} (hb : w.heap[g]? = some (.cells #[c0, c1, c2, c3] 28 (0, 0))) (u0 u1 u2 u3 : Value) : LoopMem base ((((w.setCell ⟨g, 0, none⟩ u0).setCell ⟨g, 1, none⟩ u1).setCell ⟨g, 2, none⟩ u2).setCell ⟨g, 3, none⟩ u3) PW v0 tr v2 ch v3 wa :=
 (((h.box hb 0 u0).box (blk_put hb 0 u0 rfl) 1 u1).box (blk_put (blk_put hb 0 u0 rfl) 1 u1 rfl) 2 u2).box (blk_put (blk_put (blk_put hb 0 u0 rfl) 1 u1 rfl) 2 u2 rfl) 3 u3
theorem blk_kinds {w : World} {g g2 : Nat} {c c2 : Array Value} {t t2 : Nat} (h : w.heap[g]? = some (.cells c t (0, 0))) (h2 : w.heap[g2]? = some (.cells c2 t2 (0, 0))) (hd : t ≠ t2) : g ≠ g2 := by
 rintro rfl
 rw [h] at h2
 injection h2 with h2
 injection h2 with _ h2
 exact hd h2
theorem cells2 {w : World} {g t : Nat} {c0 c1 : Value} (h : w.heap[g]? = some (.cells #[c0, c1] t (0, 0))) : w.cell? ⟨g, 0, none⟩ = some c0 ∧ w.cell? ⟨g, 1, none⟩ = some c1 := ⟨(blk_cell h 0).trans rfl, (blk_cell h 1).trans rfl⟩
theorem blk_far2 {w : World} {g g2 a b : Nat} {o : Obj} (h : w.heap[g]? = some o) (hn : g ≠ g2) (u0 u1 : Value) : ((w.setCell ⟨g2, a, none⟩ u0).setCell ⟨g2, b, none⟩ u1).heap[g]? = some o :=
 (Below.heap_setCell _ ⟨g2, b, none⟩ u1 g hn).trans ((Below.heap_setCell _ ⟨g2, a, none⟩ u0 g hn).trans h)
def LoopRow (base N : Nat) (w : World) (PW : Nat → Prop) (v0 : Value) (tr : List Int) (v2 : Value) (ch : List S69) (v3 : Value) (wa : List S74) (v : Value) (l : List Int) : Prop :=
 N ≤ w.heap.size ∧ Kd.R (Kd.int .i64) 3 w base (fun k => ¬ PW k ∧ k < N) v0 tr ∧ Kd.S k69 69 w base (fun k => (some k ≠ v0.ownBlock ∧ ¬ PW k) ∧ k < N) v2 ch ∧ Kd.S k74 74 w base (fun k => PW k ∧ k < N) v3 wa ∧ Kd.R (Kd.int .i64) 3 w N (fun _ => True) v l
section
variable {base N : Nat} {w w1 : World} {PW : Nat → Prop} {v0 v2 v3 v : Value} {tr l : List Int} {ch : List S69} {wa : List S74}
theorem lr_new (h : LoopMem base w PW v0 tr v2 ch v3 wa) (hb : Below w.heap.size w w1) (hR : Kd.R (Kd.int .i64) 3 w1 w.heap.size (fun _ => True) v l) (hs : base ≤ w.heap.size) : ∃ N, base ≤ N ∧ LoopRow base N w1 PW v0 tr v2 ch v3 wa v l :=
 ⟨w.heap.size, hs, hb.size, Kd.R_below (Kd.R_mono (Kd.R_bound h.1) (fun k hk => ⟨hk.1, hk.2.2.1⟩)) hb, Kd.S_below (Kd.S_mono (Kd.S_bound h.2.1) (fun k hk => ⟨hk.1, hk.2.2.1⟩)) hb, Kd.S_below (Kd.S_mono (Kd.S_bound h.2.2.1) (fun k hk => ⟨hk.1, hk.2.2.1⟩)) hb, hR⟩
theorem lr_below (h : LoopRow base N w PW v0 tr v2 ch v3 wa v l) (hb : Below w.heap.size w w1) : LoopRow base N w1 PW v0 tr v2 ch v3 wa v l :=
 ⟨Nat.le_trans h.1 hb.size, Kd.R_below h.2.1 hb, Kd.S_below h.2.2.1 hb, Kd.S_below h.2.2.2.1 hb, Kd.R_below h.2.2.2.2 hb⟩
theorem lr_put {g : Nat} {cells : Array Value} (h : LoopRow base N w PW v0 tr v2 ch v3 wa v l) (hbox : w.heap[g]? = some (.cells cells 74 (0, 0))) (hg : N ≤ g) (j : Nat) (u : Value) : LoopRow base N (w.setCell ⟨g, j, none⟩ u) PW v0 tr v2 ch v3 wa v l := by
 have ne : ∀ k, k < N → k ≠ g := fun k hk e => by omega
 exact ⟨Nat.le_trans h.1 ((Below.refl 0 w).setCell (p := ⟨g, j, none⟩) (Nat.zero_le _) u).size, Kd.R_far (p := ⟨g, j, none⟩) h.2.1 (fun k hk => ne k hk.2) u, Kd.S_far (p := ⟨g, j, none⟩) h.2.2.1 (fun k hk => ne k hk.2) u, Kd.S_far (p := ⟨g, j, none⟩) h.2.2.2.1 (fun k hk => ne k hk.2) u, Kd.R_set h.2.2.2.2 hbox (by decide) j u⟩
theorem lr_row (h : LoopRow base N w PW v0 tr v2 ch v3 wa v l) (hbN : base ≤ N) : Kd.R (Kd.int .i64) 3 w base (fun k => N ≤ k ∧ k < w.heap.size) v l :=
 Kd.R_lower (Kd.R_mono (Kd.R_bound h.2.2.2.2) (fun k hk => ⟨hk.2.1, hk.2.2.1⟩)) hbN
theorem lr_own (h : LoopRow base N w PW v0 tr v2 ch v3 wa v l) (k : Nat) (hk : v3.ownBlock = some k) : PW k ∧ k < N := (Kd.S_R h.2.2.2.1).1 k hk
theorem lr_set {A3 : Option Addr} {c3 : Nat} (h : LoopRow base N w PW v0 tr v2 ch (.slice A3 wa.length c3) wa v l) (hbN : base ≤ N) (i : Int) (h0 : 0 ≤ i) (h1 : i < wa.length) (b : Int) :
  ∃ (gW : Nat) (u0 u1 : Value), A3 = some ⟨gW, 0, none⟩ ∧ base ≤ gW ∧ (∃ cells, w.heap[gW]? = some (.cells cells 74 (0, 0))) ∧ w.cell? ⟨gW, i.toNat * 2, none⟩ = some u0 ∧ w.cell? ⟨gW, i.toNat * 2 + 1, none⟩ = some u1 ∧ w.frozen? ⟨gW, i.toNat * 2, none⟩ = false ∧ w.frozen? ⟨gW, i.toNat * 2 + 1, none⟩ = false ∧
   ∃ PW', LoopMem base ((w.setCell ⟨gW, i.toNat * 2, none⟩ (.int .i64 b)).setCell ⟨gW, i.toNat * 2 + 1, none⟩ v) PW' v0 tr v2 ch (.slice A3 wa.length c3) (wa.set i.toNat ⟨b, l⟩) := by
 have hr := lr_row h hbN; have ho := lr_own h
 obtain ⟨hN, hT, hC, hW, hL⟩ := h
 obtain ⟨gW, cap, e, hbase, hlt, cells, hc⟩ := Kd.S_form hW (by omega)
 injection e with e1 e2 e3
 subst e1; subst e3
 have hgo : PW gW ∧ gW < N := ho gW (by simp [Value.ownBlock])
 have hX : Kd.S k74 74 w base (fun k => ((PW k ∧ k < N) ∨ (N ≤ k ∧ k < w.heap.size)) ∧ ¬ (N ≤ k ∧ k < w.heap.size)) (.slice (some ⟨gW, 0, none⟩) wa.length c3) wa := Kd.S_mono hW (fun k hk => ⟨.inl hk, fun h2 => by omega⟩)
 obtain ⟨oki, c, hcl, hM, hcc, hfr, hoki, hH⟩ := Kd.S_elem hX z74 i h0 h1
 obtain ⟨u1, rfl, _⟩ := k74_openM hM
 obtain ⟨A, cN, rfl⟩ := Kd.R_slice hr
 have HP := Kd.S_seg (okp := fun k => N ≤ k ∧ k < w.heap.size) hH h0 h1 (seg := [.int .i64 b, .slice A l.length cN]) (j := 0) (show 2 ≤ 2 from by decide) (x' := (⟨b, l⟩ : S74)) (k74_mkM _ _ _ (⟨b, l⟩ : S74) hr) (fun k hk => .inr hk) (fun k hk => ⟨.inr hk, fun e => by omega⟩)
 have sz : w.heap.size ≤ ((w.setCell ⟨gW, i.toNat * 2, none⟩ (.int .i64 b)).setCell ⟨gW, i.toNat * 2 + 1, none⟩ (.slice A l.length cN)).heap.size := Nat.le_trans ((Below.refl 0 w).setCell (p := ⟨gW, i.toNat * 2, none⟩) (Nat.zero_le _) _).size ((Below.refl 0 _).setCell (p := ⟨gW, i.toNat * 2 + 1, none⟩) (Nat.zero_le _) _).size
 refine ⟨gW, _, u1, rfl, hbase, ⟨cells, hc⟩, hcc 0 _ rfl, hcc 1 _ rfl, hfr 0, hfr 1, fun k => (PW k ∧ k < N) ∨ (N ≤ k ∧ k < w.heap.size), ?_, ?_, HP.1, fun k hk => Nat.lt_of_lt_of_le (by omega) sz⟩
 · exact Kd.R_mono (Kd.R_far (p := ⟨gW, i.toNat * 2 + 1, none⟩) (Kd.R_far (p := ⟨gW, i.toNat * 2, none⟩) hT (fun k hk e => hk.1 (by rw [show k = gW from e]; exact hgo.1)) _) (fun k hk e => hk.1 (by rw [show k = gW from e]; exact hgo.1)) _) (fun k hk h2 => h2.elim (fun q => hk.1 q.1) (fun q => by omega))
 · exact Kd.S_mono (Kd.S_far (p := ⟨gW, i.toNat * 2 + 1, none⟩) (Kd.S_far (p := ⟨gW, i.toNat * 2, none⟩) hC (fun k hk e => hk.1.2 (by rw [show k = gW from e]; exact hgo.1)) _) (fun k hk e => hk.1.2 (by rw [show k = gW from e]; exact hgo.1)) _) (fun k hk => ⟨hk.1.1, fun h2 => h2.elim (fun q => hk.1.2 q.1) (fun q => by omega)⟩)
theorem lr_app (h : LoopRow base N w PW v0 tr v2 ch v3 wa v l) {v1 : Value} {q : List S74} (hS : Kd.S k74 74 w1 base (fun k => (PW k ∧ k < N) ∨ N ≤ k) v1 q) (hg : w.grownBy w1 v3.ownBlock) : ∃ PW', LoopMem base w1 PW' v0 tr v2 ch v1 q := by
 have ho := lr_own h
 obtain ⟨hN, hT, hC, hW, hL⟩ := h
 refine ⟨fun k => ((PW k ∧ k < N) ∨ N ≤ k) ∧ k < w1.heap.size, Kd.R_mono (Kd.R_grown hT hg (fun k hk e => hk.1 (ho k e.symm).1)) (fun k hk h2 => h2.1.elim (fun q => hk.1 q.1) (fun q => by omega)), Kd.S_mono (Kd.S_grown hC hg (fun k hk e => hk.1.2 (ho k e.symm).1)) (fun k hk => ⟨hk.1.1, fun h2 => h2.1.elim (fun q => hk.1.2 q.1) (fun q => by omega)⟩), Kd.S_mono (Kd.S_bound hS) (fun k hk => ⟨hk.1, hk.2.2.1⟩), fun k hk => hk.2⟩
theorem LoopMem.rd {A0 A2 A3 : Option Addr} {n0 n2 n3 c0 c2 c3 : Nat} (h : LoopMem base w PW (.slice A0 n0 c0) tr (.slice A2 n2 c2) ch (.slice A3 n3 c3) wa) : n0 ≤ c0 ∧ Kd.C (Kd.int .i64) w A0 n0 tr ∧ n2 ≤ c2 ∧ Kd.C k69 w A2 n2 ch ∧ n3 ≤ c3 ∧ Kd.C k74 w A3 n3 wa := by
 obtain ⟨h0, h2, h3, _⟩ := h
 obtain ⟨e0, l0, r0⟩ := Kd.R_reads' h0
 obtain ⟨e2, l2, r2⟩ := Kd.S_reads' h2
 obtain ⟨e3, l3, r3⟩ := Kd.S_reads' h3
 subst e0 e2 e3
 exact ⟨l0, r0, l2, r2, l3, r3⟩
end
theorem LoopRd.putlo {b lo hi g : Nat} {w : World} {v0 v2 v3 : Value} {tr : List Int} {ch : List S69} {wa : List S74} (h : LoopRd b lo hi w v0 tr v2 ch v3 wa) (hg : g < lo) (u0 u1 u2 u3 : Value) : LoopRd b lo hi ((((w.setCell ⟨g, 0, none⟩ u0).setCell ⟨g, 1, none⟩ u1).setCell ⟨g, 2, none⟩ u2).setCell ⟨g, 3, none⟩ u3) v0 tr v2 ch v3 wa :=
 h.step (by simp [World.setCell]) (fun k h0 _ => (Below.heap_setCell _ ⟨g, 3, none⟩ u3 k (by show k ≠ g; omega)).trans ((Below.heap_setCell _ ⟨g, 2, none⟩ u2 k (by show k ≠ g; omega)).trans ((Below.heap_setCell _ ⟨g, 1, none⟩ u1 k (by show k ≠ g; omega)).trans (Below.heap_setCell _ ⟨g, 0, none⟩ u0 k (by show k ≠ g; omega)))))
theorem LoopRd.far2 {b lo hi g a1 a2 : Nat} {w : World} {v0 v2 v3 : Value} {tr : List Int} {ch : List S69} {wa : List S74} (h : LoopRd b lo hi w v0 tr v2 ch v3 wa) (hg : hi ≤ g) (u0 u1 : Value) : LoopRd b lo hi ((w.setCell ⟨g, a1, none⟩ u0).setCell ⟨g, a2, none⟩ u1) v0 tr v2 ch v3 wa :=
 h.step (by simp [World.setCell]) (fun k _ h1 => (Below.heap_setCell _ ⟨g, a2, none⟩ u1 k (by show k ≠ g; omega)).trans (Below.heap_setCell _ ⟨g, a1, none⟩ u0 k (by show k ≠ g; omega)))
theorem LoopRd.far1 {b lo hi g a1 : Nat} {w : World} {v0 v2 v3 : Value} {tr : List Int} {ch : List S69} {wa : List S74} (h : LoopRd b lo hi w v0 tr v2 ch v3 wa) (hg : hi ≤ g) (u0 : Value) : LoopRd b lo hi (w.setCell ⟨g, a1, none⟩ u0) v0 tr v2 ch v3 wa :=
 h.step (by simp [World.setCell]) (fun k _ h1 => Below.heap_setCell _ ⟨g, a1, none⟩ u0 k (by show k ≠ g; omega))
theorem LoopRd.grow {b lo hi : Nat} {w w1 : World} {ob : Option Nat} {v0 v2 v3 : Value} {tr : List Int} {ch : List S69} {wa : List S74} (h : LoopRd b lo hi w v0 tr v2 ch v3 wa) (hg : w.grownBy w1 ob) (hn : ∀ k, ob = some k → hi ≤ k) : LoopRd b lo hi w1 v0 tr v2 ch v3 wa :=
 h.step hg.size (fun k _ h1 => hg.block k (Nat.lt_of_lt_of_le h1 h.1) (fun e => Nat.not_le.2 h1 (hn k e.symm)))
theorem LoopRd.under {b lo hi N : Nat} {w w1 : World} {v0 v2 v3 : Value} {tr : List Int} {ch : List S69} {wa : List S74} (h : LoopRd b lo hi w v0 tr v2 ch v3 wa) (hb : Below N w w1) (hN : hi ≤ N) : LoopRd b lo hi w1 v0 tr v2 ch v3 wa :=
 h.step hb.size (fun k _ h1 => hb.block k (Nat.lt_of_lt_of_le h1 hN))
def LoopFin (base : Nat) (w : World) (v0 : Value) (tr : List Int) (v2 : Value) (ch : List S69) (v3 : Value) (wa : List S74) : Prop := Kd.R (Kd.int .i64) 3 w base (fun _ => True) v0 tr ∧ Kd.S k69 69 w base (fun _ => True) v2 ch ∧ Kd.R k74 74 w base (fun _ => True) v3 wa
theorem LoopRd.fin {b lo hi : Nat} {w : World} {v0 v2 v3 : Value} {tr : List Int} {ch : List S69} {wa : List S74} (h : LoopRd b lo hi w v0 tr v2 ch v3 wa) : LoopFin b w v0 tr v2 ch v3 wa := ⟨Kd.R_mono h.2.1 (fun _ _ => trivial), Kd.S_mono h.2.2.1 (fun _ _ => trivial), Kd.R_mono h.2.2.2 (fun _ _ => trivial)⟩
section
variable {base N : Nat} {w w1 : World} {PW : Nat → Prop} {v0 v2 v3 v v' : Value} {tr l l' : List Int} {ch : List S69} {wa : List S74}
theorem fin_box (h : LoopFin base w v0 tr v2 ch v3 wa) {g : Nat} {cells : Array Value} (hg : w.heap[g]? = some (.cells cells 28 (0, 0))) (j : Nat) (u : Value) : LoopFin base (w.setCell ⟨g, j, none⟩ u) v0 tr v2 ch v3 wa := ⟨Kd.R_set h.1 hg (by decide) j u, Kd.S_set h.2.1 hg (by decide) j u, Kd.R_set h.2.2 hg (by decide) j u⟩
theorem fin_box4 (h : LoopFin base w v0 tr v2 ch v3 wa) {g : Nat} {c0 c1 c2 c3 : Value} (hb : w.heap[g]? = some (.cells #[c0, c1, c2, c3] 28 (0, 0))) (u0 u1 u2 u3 : Value) : LoopFin base ((((w.setCell ⟨g, 0, none⟩ u0).setCell ⟨g, 1, none⟩ u1).setCell ⟨g, 2, none⟩ u2).setCell ⟨g, 3, none⟩ u3) v0 tr v2 ch v3 wa :=
 fin_box (fin_box (fin_box (fin_box h hb 0 u0) (blk_put hb 0 u0 rfl) 1 u1) (blk_put (blk_put hb 0 u0 rfl) 1 u1 rfl) 2 u2) (blk_put (blk_put (blk_put hb 0 u0 rfl) 1 u1 rfl) 2 u2 rfl) 3 u3
theorem fin_below (h : LoopFin base w v0 tr v2 ch v3 wa) (hb : Below w.heap.size w w1) : LoopFin base w1 v0 tr v2 ch v3 wa := ⟨Kd.R_below h.1 hb, Kd.S_below h.2.1 hb, Kd.R_below h.2.2 hb⟩
theorem fin_lower (h : LoopFin base w v0 tr v2 ch v3 wa) {b : Nat} (hb : b ≤ base) : LoopFin b w v0 tr v2 ch v3 wa := ⟨Kd.R_lower h.1 hb, Kd.S_lower h.2.1 hb, Kd.R_lower h.2.2 hb⟩
theorem fin_rd {A0 A2 A3 : Option Addr} {n0 n2 n3 c0 c2 c3 : Nat} (h : LoopFin base w (.slice A0 n0 c0) tr (.slice A2 n2 c2) ch (.slice A3 n3 c3) wa) : n0 ≤ c0 ∧ Kd.C (Kd.int .i64) w A0 n0 tr ∧ n2 ≤ c2 ∧ Kd.C k69 w A2 n2 ch ∧ n3 ≤ c3 ∧ Kd.C k74 w A3 n3 wa := by
 obtain ⟨h0, h2, h3⟩ := h
 obtain ⟨e0, l0, r0⟩ := Kd.R_reads' h0
 obtain ⟨e2, l2, r2⟩ := Kd.S_reads' h2
 obtain ⟨e3, l3, r3⟩ := Kd.R_reads' h3
 subst e0 e2 e3
 exact ⟨l0, r0, l2, r2, l3, r3⟩
theorem lr_grow (h : LoopRow base N w PW v0 tr v2 ch v3 wa v l) (hb : Below N w w1) (hR : Kd.R (Kd.int .i64) 3 w1 N (fun _ => True) v' l') : LoopRow base N w1 PW v0 tr v2 ch v3 wa v' l' :=
 ⟨Nat.le_trans h.1 hb.size, Kd.R_move h.2.1 (fun k hk => hb.block k hk.2), Kd.S_move h.2.2.1 (fun k hk => hb.block k hk.2), Kd.S_move h.2.2.2.1 (fun k hk => hb.block k hk.2), hR⟩
def LR2 (base N : Nat) (w : World) (PW : Nat → Prop) (v0 : Value) (tr : List Int) (v2 : Value) (ch : List S69) (v3 : Value) (wa : List S74) (v : Value) (l : List Int) : Prop :=
 N ≤ w.heap.size ∧ base ≤ N ∧ Kd.R (Kd.int .i64) 3 w base (fun k => ¬ PW k ∧ k < N) v0 tr ∧ Kd.S k69 69 w base (fun k => ¬ PW k ∧ k < N) v2 ch ∧ Kd.R k74 74 w base (fun k => (PW k ∧ k < N) ∨ N ≤ k) v3 wa ∧ (∀ k, v3.ownBlock = some k → PW k ∧ k < N) ∧ Kd.R (Kd.int .i64) 3 w N (fun k => N ≤ k) v l
theorem l2_of (h : LoopRow base N w PW v0 tr v2 ch v3 wa v l) (hb : base ≤ N) : LR2 base N w PW v0 tr v2 ch v3 wa v l :=
 ⟨h.1, hb, h.2.1, Kd.S_mono h.2.2.1 (fun k hk => ⟨hk.1.2, hk.2⟩), Kd.R_mono (Kd.S_R h.2.2.2.1) (fun k hk => .inl hk), lr_own h, Kd.R_mono (Kd.R_bound h.2.2.2.2) (fun k hk => hk.2.1)⟩
theorem l2_row (h : LR2 base N w PW v0 tr v2 ch v3 wa v l) : Kd.R (Kd.int .i64) 3 w base (fun k => N ≤ k ∧ k < w.heap.size) v l := Kd.R_lower (Kd.R_mono (Kd.R_bound h.2.2.2.2.2.2) (fun k hk => ⟨hk.1, hk.2.2.1⟩)) h.2.1
theorem l2_base (h : LR2 base N w PW v0 tr v2 ch v3 wa v l) (k : Nat) (hk : v3.ownBlock = some k) : base ≤ k := ((Kd.R_bound h.2.2.2.2.1).1 k hk).2.1
theorem l2_fin (h : LR2 base N w PW v0 tr v2 ch v3 wa v l) : LoopFin base w v0 tr v2 ch v3 wa := ⟨Kd.R_mono h.2.2.1 (fun _ _ => trivial), Kd.S_mono h.2.2.2.1 (fun _ _ => trivial), Kd.R_mono h.2.2.2.2.1 (fun _ _ => trivial)⟩
theorem l2_app (h : LR2 base N w PW v0 tr v2 ch v3 wa v l) {v1 : Value} {q : List S74} (hS : Kd.R k74 74 w1 base (fun k => (PW k ∧ k < N) ∨ N ≤ k) v1 q) (hg : w.grownBy w1 v3.ownBlock) : LoopFin base w1 v0 tr v2 ch v1 q :=
 ⟨Kd.R_mono (Kd.R_grown h.2.2.1 hg (fun k hk e => hk.1 (h.2.2.2.2.2.1 k e.symm).1)) (fun _ _ => trivial), Kd.S_mono (Kd.S_grown h.2.2.2.1 hg (fun k hk e => hk.1 (h.2.2.2.2.2.1 k e.symm).1)) (fun _ _ => trivial), Kd.R_mono hS (fun _ _ => trivial)⟩
theorem l2_at {A3 : Option Addr} {n c3 : Nat} (h : LR2 base N w PW v0 tr v2 ch (.slice A3 n c3) wa v l) (i : Int) (h0 : 0 ≤ i) (h1 : i < n) :
  ∃ (gW : Nat) (u1 : Value), A3 = some ⟨gW, 0, none⟩ ∧ (base ≤ gW ∧ gW < N ∧ ∃ cells, w.heap[gW]? = some (.cells cells 74 (0, 0))) ∧ w.cell? ⟨gW, i.toNat * 2, none⟩ = some (.int .i64 (rd_T74 wa i).f0) ∧ w.cell? ⟨gW, i.toNat * 2 + 1, none⟩ = some u1 ∧ w.frozen? ⟨gW, i.toNat * 2, none⟩ = false ∧ w.frozen? ⟨gW, i.toNat * 2 + 1, none⟩ = false ∧
   ∀ b, LR2 base N ((w.setCell ⟨gW, i.toNat * 2, none⟩ (.int .i64 b)).setCell ⟨gW, i.toNat * 2 + 1, none⟩ v) PW v0 tr v2 ch (.slice A3 n c3) (wa.set i.toNat ⟨b, l⟩) v l := by
 have hr := l2_row h
 obtain ⟨hN, hbN, hT, hC, hW, ho, hL⟩ := h
 have hn := (Kd.R_reads' hW).1
 subst hn
 obtain ⟨gW, cap, e, hbase, hlt, cells, hc⟩ := Kd.R_form hW (by omega)
 injection e with e1 e2 e3
 subst e1; subst e3
 have hgo : PW gW ∧ gW < N := ho gW (by simp [Value.ownBlock])
 obtain ⟨c, hcl, hM, hcc, hfr⟩ := Kd.R_elem hW z74 i h0 h1
 obtain ⟨u1, rfl, _⟩ := k74_openM hM
 obtain ⟨A, cN, rfl⟩ := Kd.R_slice hr
 refine ⟨gW, u1, rfl, ⟨hbase, hgo.2, cells, hc⟩, hcc 0 _ rfl, hcc 1 _ rfl, hfr 0, hfr 1, fun b => ?_⟩
 have HP := Kd.R_seg (okp := fun k => N ≤ k ∧ k < w.heap.size) hW i h0 h1 hcl hcc (seg := [.int .i64 b, .slice A l.length cN]) (j := 0) (show 2 ≤ 2 from by decide) (x' := (⟨b, l⟩ : S74)) (k74_mkM _ _ _ (⟨b, l⟩ : S74) hr) (fun k hk => ⟨.inr hk.1, fun e => by omega⟩)
 refine ⟨Nat.le_trans hN (Nat.le_trans ((Below.refl 0 w).setCell (p := ⟨gW, i.toNat * 2, none⟩) (Nat.zero_le _) _).size ((Below.refl 0 _).setCell (p := ⟨gW, i.toNat * 2 + 1, none⟩) (Nat.zero_le _) _).size), hbN, ?_, ?_, HP.1, ho, ?_⟩
 · exact Kd.R_far (p := ⟨gW, i.toNat * 2 + 1, none⟩) (Kd.R_far (p := ⟨gW, i.toNat * 2, none⟩) hT (fun k hk e => hk.1 (by rw [show k = gW from e]; exact hgo.1)) _) (fun k hk e => hk.1 (by rw [show k = gW from e]; exact hgo.1)) _
 · exact Kd.S_far (p := ⟨gW, i.toNat * 2 + 1, none⟩) (Kd.S_far (p := ⟨gW, i.toNat * 2, none⟩) hC (fun k hk e => hk.1 (by rw [show k = gW from e]; exact hgo.1)) _) (fun k hk e => hk.1 (by rw [show k = gW from e]; exact hgo.1)) _
 · exact Kd.R_far (p := ⟨gW, i.toNat * 2 + 1, none⟩) (Kd.R_far (p := ⟨gW, i.toNat * 2, none⟩) hL (fun k hk e => by have e' : k = gW := e; omega) _) (fun k hk e => by have e' : k = gW := e; omega) _
end
def spec_SetWant.l0 : Nat → Bool → Int → List S74 → S74 → Option (Bool × List S74)
 | 0, _, _, _, _ => none
 | k + 1, hv, i, wa, x => if i < (wa.length : Int) then (if 0 ≤ i then (if (rd_T74 wa i).f0 = x.f0 then (spec_SetWant.l0 k true (wrap64 (i + 1)) (wa.set i.toNat x) x) else (spec_SetWant.l0 k hv (wrap64 (i + 1)) wa x)) else none) else some (hv, wa)
def spec_SetWant.q (hv : Bool) (wa : List S74) (x : S74) : Option (List S74) := if hv = true then some wa else (if wa.length < 4398046511104 then some (wa ++ [x]) else none)
def spec_SetWant.f (k : Nat) (a : List Int) (b : Int) (c : List (S69)) (d : List (S74)) (e : Int) (f : List Int) : Option (List Int × Int × (List (S69)) × (List (S74)) × Bool) := (spec_l05Copy.f k a b c d).bind fun p => ((spec_LoopOk.f k p.1 p.2.1 p.2.2.1 p.2.2.2).bind fun o1 => (if o1 = true then ((spec_l05Copy.f k p.1 p.2.1 p.2.2.1 p.2.2.2).bind fun q => (if f.length < 17592186044416 then ((spec_SetWant.l0 k false 0 q.2.2.2 ⟨e, f⟩).bind fun r => ((spec_SetWant.q r.1 r.2 ⟨e, f⟩).bind fun wq => ((spec_LoopOk.f k q.1 q.2.1 q.2.2.1 wq).bind fun o2 => (if o2 = true then (some (q.1, q.2.1, q.2.2.1, wq, true)) else (some (p.1, p.2.1, p.2.2.1, p.2.2.2, false)))))) else none)) else (some (p.1, p.2.1, p.2.2.1, p.2.2.2, false))))
set_option maxHeartbeats 16000000 in
set_option maxRecDepth 100000 in
theorem spec_SetWant.calls (k : Nat) (aj : Option Addr) (ak : Nat) (ae : List Int) (a0_1 : Int) (al : Option Addr) (am : Nat) (af : List (S69)) (an : Option Addr) (ao : Nat) (ag : List (S74)) (a1 : Int) (A2 : Option Addr) (c2 : Nat) (l2 : List Int) (r1 : List Int) (r2 : Int) (r3 : List (S69)) (r4 : List (S74)) (r5 : Bool) (w : World) (ax : Kd.C (Kd.int .i64) w aj ae.length ae) (hc0_0 : ae.length ≤ ak) (ay : Kd.C k69 w al af.length af) (hc0_2 : af.length ≤ am) (az : Kd.C k74 w an ag.length ag) (hc0_3 : ag.length ≤ ao) (hr2 : Kd.C (Kd.int .i64) w A2 l2.length l2) (hc2 : l2.length ≤ c2) (h : spec_SetWant.f k ae a0_1 af ag a1 l2 = some (r1, r2, r3, r4, r5)) :
 Calls Try.prog 38 #[.agg #[.slice aj ae.length ak, .int .i64 a0_1, .slice al af.length am, .slice an ag.length ao], .int .i64 a1, .slice A2 l2.length c2] w fun e w' => ∃ aH aI aJ : Value, e = .returned (.tuple #[.agg #[aH, .int .i64 r2, aI, aJ], .bool r5]) ∧ Kd.R (Kd.int .i64) 3 w' w.heap.size (fun _ => True) aH r1 ∧ Kd.S k69 69 w' w.heap.size (fun _ => True) aI r3 ∧ Kd.R k74 74 w' w.heap.size (fun _ => True) aJ r4 ∧ Below w.heap.size w w' := by
 have hu28 := Try.underlying28; have hu74 := Try.underlying74; have HR0 := zK ax; have HC0 := zK hc0_0; clear ax hc0_0; have HR2 := zK ay; have HC2 := zK hc0_2; clear ay hc0_2; have HR3 := zK az; have HC3 := zK hc0_3; clear az hc0_3; have HRx := zK hr2; have HCx := zK hc2; clear hr2 hc2
 have HB := zK (Below.refl w.heap.size w)
 have H := h
 unfold spec_SetWant.f at H
 clear h; replace H := Option.bind_eq_some_iff.mp H
 obtain ⟨⟨p0, pT, p2, p3⟩, Ac0, H⟩ := H
 have Ac := zK Ac0; clear Ac0; replace H := Option.bind_eq_some_iff.mp H
 obtain ⟨o1, Ao0, H⟩ := H
 have Ao := zK Ao0; clear Ao0
 cases o1 with
 | false =>
   rw [if_neg (by simp)] at H
   simp only [Option.some.injEq, Prod.mk.injEq] at H
   obtain ⟨rfl, rfl, rfl, rfl, rfl⟩ := H
   go_enter Try.func38, Try.ntmps38
   go_wp2_with (first
     | ((with_reducible refine gate_dst (N := 3) rfl ?_); refine zX 3 #[.slice aj ae.length ak, .int .i64 a0_1, .slice al af.length am, .slice an ag.length ao] 28 ?_; intro ga hg w1 hbox hb; have aa := zK (below_step HB.out hb); have m0_ := zK (hbox); have GEA := zK (show w.heap.size ≤ ga from by rw [hg]; exact HB.out.size); clear HB; have HB := aa; have BKa := m0_; clear aa m0_; clear hb hbox hg; obtain ⟨hzBKa0, hzBKa1, hzBKa2, hzBKa3⟩ := cells4 BKa.out)
     | ((with_reducible refine gate_dst (N := 6) rfl ?_); refine zX 6 #[.slice none 0 0, .int .i64 0, .slice none 0 0, .slice none 0 0] 28 ?_; intro gr hg w2 hbox hb; have aa := zK (below_step HB.out hb); have ab := zK (blk_below BKa.out hb); have m0_ := zK (hbox); have GER := zK (show w.heap.size ≤ gr ∧ gr ≠ ga from by rw [hg]; exact ⟨HB.out.size, Nat.ne_of_gt (blk_lt BKa.out)⟩); clear HB BKa hzBKa0 hzBKa1 hzBKa2 hzBKa3; have HB := aa; have BKa := ab; have BKr := m0_; clear aa ab m0_; clear hb hbox hg; obtain ⟨hzBKa0, hzBKa1, hzBKa2, hzBKa3⟩ := cells4 BKa.out; obtain ⟨hzBKr0, hzBKr1, hzBKr2, hzBKr3⟩ := cells4 BKr.out)
     | ((with_reducible refine gate_callee (f := 68) rfl ?_); refine goesL_ (some 13) rfl rfl Try.func68 (by kernel_rfl) rfl #[.agg #[.slice aj ae.length ak, .int .i64 a0_1, .slice al af.length am, .slice an ag.length ao]] rfl zg ?_; (with_reducible refine (spec_l05Copy.calls2 k _ _ ae a0_1 _ _ af _ _ ag p0 pT p2 p3 _ (Kd.C_below HR0.out HB.out) HC0.out (Kd.C_below HR2.out HB.out) HC2.out (Kd.C_below HR3.out HB.out) HC3.out Ac.out).mono ?_); rintro e w3 ⟨aH, aI, aJ, N_, rfl, ho0_, ho2_, ho3_, hN_, hb⟩; refine ⟨_, rfl, ?_⟩; obtain ⟨lop, hip, ⟨elo_, ehi_⟩, hL_⟩ := LoopRd.new ho0_ ho2_ (Kd.S_R (Kd.S_lower ho3_ hN_)) HB.out.size; obtain ⟨P0, p0k, P2, p2k, P3, p3k, aA, aM, aq, _, _, _, _, _, _⟩ := hL_.reads; subst aA; subst aM; subst aq; have AGP := zK (show ga < lop ∧ gr < lop from by rw [elo_]; exact ⟨blk_lt BKa.out, blk_lt BKr.out⟩); have hyb_ := blk_below BKa.out hb; obtain ⟨aC, aD, aN, aQ⟩ := cells4 hyb_; have aE := blk_frozen hyb_ 0; have aG := blk_frozen hyb_ 1; have aT := blk_frozen hyb_ 2; have aU := blk_frozen hyb_ 3; have nb_ := zK (show Below w.heap.size w ((((w3.setCell ⟨ga, 0, none⟩ (.slice P0 p0.length p0k)).setCell ⟨ga, 1, none⟩ (.int .i64 pT)).setCell ⟨ga, 2, none⟩ (.slice P2 p2.length p2k)).setCell ⟨ga, 3, none⟩ (.slice P3 p3.length p3k)) from below_put4 (below_step HB.out hb) GEA.out (.slice P0 p0.length p0k) (.int .i64 pT) (.slice P2 p2.length p2k) (.slice P3 p3.length p3k)); have na_ := zK (blk_put4 hyb_ (.slice P0 p0.length p0k) (.int .i64 pT) (.slice P2 p2.length p2k) (.slice P3 p3.length p3k)); have nr_ := zK (blk_far4 (blk_below BKr.out hb) GER.out.2 (.slice P0 p0.length p0k) (.int .i64 pT) (.slice P2 p2.length p2k) (.slice P3 p3.length p3k)); have nl_ := zK (hL_.putlo AGP.out.1 (.slice P0 p0.length p0k) (.int .i64 pT) (.slice P2 p2.length p2k) (.slice P3 p3.length p3k)); have hrw_ := blk_below BKr.out hb; obtain ⟨hrr0, hrr1, hrr2, hrr3⟩ := cells4 hrw_; have hne_ := GER.out.2; clear HB BKa BKr hb hL_ ho0_ ho2_ ho3_ hN_ elo_ ehi_ hyb_ hrw_ hzBKa0 hzBKa1 hzBKa2 hzBKa3 hzBKr0 hzBKr1 hzBKr2 hzBKr3; have HB := nb_; have BKa := na_; have BKr := nr_; have LP := nl_; clear nb_ na_ nr_ nl_; obtain ⟨hzBKa0, hzBKa1, hzBKa2, hzBKa3⟩ := cells4 BKa.out; obtain ⟨hzBKr0, hzBKr1, hzBKr2, hzBKr3⟩ := cells4 BKr.out)
     | ((with_reducible refine gate_callee (f := 23) rfl ?_); refine goesL_ (some 15) rfl rfl Try.func23 (by kernel_rfl) rfl #[.agg #[.slice P0 p0.length p0k, .int .i64 pT, .slice P2 p2.length p2k, .slice P3 p3.length p3k]] rfl zg ?_; (with_reducible refine (spec_LoopOk.calls k _ _ p0 pT _ _ p2 _ _ p3 false _ LP.out.rd.2.1 LP.out.rd.1 LP.out.rd.2.2.2.1 LP.out.rd.2.2.1 LP.out.rd.2.2.2.2.2 LP.out.rd.2.2.2.2.1 Ao.out).mono ?_); rintro e w4 ⟨rfl, hb⟩; refine ⟨_, rfl, ?_⟩; replace HB := zK (below_step HB.out hb); replace BKa := zK (blk_below BKa.out hb); replace BKr := zK (blk_below BKr.out hb); replace LP := zK (LP.out.later hb); clear aC aD aN aQ aE aG aT aU hrr0 hrr1 hrr2 hrr3 hzBKa0 hzBKa1 hzBKa2 hzBKa3 hzBKr0 hzBKr1 hzBKr2 hzBKr3; clear hb; obtain ⟨hzBKa0, hzBKa1, hzBKa2, hzBKa3⟩ := cells4 BKa.out; obtain ⟨hzBKr0, hzBKr1, hzBKr2, hzBKr3⟩ := cells4 BKr.out; obtain ⟨ar, au, av, aw⟩ := zF4 BKr)
     )
   refine bodyPost_ret (results_ct rfl _ _ gr 28 #[.slice P0 p0.length p0k, .int .i64 pT, .slice P2 p2.length p2k, .slice P3 p3.length p3k] (0, 0) _ rfl (blk_put4 BKr.out (.slice P0 p0.length p0k) (.int .i64 pT) (.slice P2 p2.length p2k) (.slice P3 p3.length p3k)) Try.underlying28 rfl (by kernel_rfl)) rfl ?_
   have hF_ := fin_box4 LP.out.fin BKr.out (.slice P0 p0.length p0k) (.int .i64 pT) (.slice P2 p2.length p2k) (.slice P3 p3.length p3k)
   exact ⟨_, _, _, rfl, hF_.1, hF_.2.1, hF_.2.2, below_put4 HB.out GER.out.1 (.slice P0 p0.length p0k) (.int .i64 pT) (.slice P2 p2.length p2k) (.slice P3 p3.length p3k)⟩
 | true =>
   rw [if_pos rfl] at H
   replace H := Option.bind_eq_some_iff.mp H
   obtain ⟨⟨q0, qT, q2, q3⟩, Aq0, H⟩ := H
   have Aq := zK Aq0; clear Aq0
   by_cases cl : l2.length < 17592186044416
   · rw [if_pos cl] at H
     have LM := zK cl; clear cl; replace H := Option.bind_eq_some_iff.mp H
     obtain ⟨⟨rh, rw_⟩, Al0, H⟩ := H
     have Al := zK Al0; clear Al0; replace H := Option.bind_eq_some_iff.mp H
     obtain ⟨wq, Aw0, H⟩ := H
     have Aw := zK Aw0; clear Aw0; replace H := Option.bind_eq_some_iff.mp H
     obtain ⟨o2, Ap0, H⟩ := H
     have Ap := zK Ap0; clear Ap0
     go_enter Try.func38, Try.ntmps38
     go_wp2_with (first
       | ((with_reducible refine gate_dst (N := 3) rfl ?_); refine zX 3 #[.slice aj ae.length ak, .int .i64 a0_1, .slice al af.length am, .slice an ag.length ao] 28 ?_; intro ga hg w1 hbox hb; have aa := zK (below_step HB.out hb); have m0_ := zK (hbox); have GEA := zK (show w.heap.size ≤ ga from by rw [hg]; exact HB.out.size); clear HB; have HB := aa; have BKa := m0_; clear aa m0_; clear hb hbox hg; obtain ⟨hzBKa0, hzBKa1, hzBKa2, hzBKa3⟩ := cells4 BKa.out)
       | ((with_reducible refine gate_dst (N := 6) rfl ?_); refine zX 6 #[.slice none 0 0, .int .i64 0, .slice none 0 0, .slice none 0 0] 28 ?_; intro gr hg w2 hbox hb; have aa := zK (below_step HB.out hb); have ab := zK (blk_below BKa.out hb); have m0_ := zK (hbox); have GER := zK (show w.heap.size ≤ gr ∧ gr ≠ ga from by rw [hg]; exact ⟨HB.out.size, Nat.ne_of_gt (blk_lt BKa.out)⟩); clear HB BKa hzBKa0 hzBKa1 hzBKa2 hzBKa3; have HB := aa; have BKa := ab; have BKr := m0_; clear aa ab m0_; clear hb hbox hg; obtain ⟨hzBKa0, hzBKa1, hzBKa2, hzBKa3⟩ := cells4 BKa.out; obtain ⟨hzBKr0, hzBKr1, hzBKr2, hzBKr3⟩ := cells4 BKr.out)
       | ((with_reducible refine gate_callee (f := 68) rfl ?_); refine goesL_ (some 13) rfl rfl Try.func68 (by kernel_rfl) rfl #[.agg #[.slice aj ae.length ak, .int .i64 a0_1, .slice al af.length am, .slice an ag.length ao]] rfl zg ?_; (with_reducible refine (spec_l05Copy.calls2 k _ _ ae a0_1 _ _ af _ _ ag p0 pT p2 p3 _ (Kd.C_below HR0.out HB.out) HC0.out (Kd.C_below HR2.out HB.out) HC2.out (Kd.C_below HR3.out HB.out) HC3.out Ac.out).mono ?_); rintro e w3 ⟨aH, aI, aJ, N_, rfl, ho0_, ho2_, ho3_, hN_, hb⟩; refine ⟨_, rfl, ?_⟩; obtain ⟨lop, hip, ⟨elo_, ehi_⟩, hL_⟩ := LoopRd.new ho0_ ho2_ (Kd.S_R (Kd.S_lower ho3_ hN_)) HB.out.size; obtain ⟨P0, p0k, P2, p2k, P3, p3k, aA, aM, aq, _, _, _, _, _, _⟩ := hL_.reads; subst aA; subst aM; subst aq; have AGP := zK (show ga < lop ∧ gr < lop from by rw [elo_]; exact ⟨blk_lt BKa.out, blk_lt BKr.out⟩); have hyb_ := blk_below BKa.out hb; obtain ⟨aC, aD, aN, aQ⟩ := cells4 hyb_; have aE := blk_frozen hyb_ 0; have aG := blk_frozen hyb_ 1; have aT := blk_frozen hyb_ 2; have aU := blk_frozen hyb_ 3; have nb_ := zK (show Below w.heap.size w ((((w3.setCell ⟨ga, 0, none⟩ (.slice P0 p0.length p0k)).setCell ⟨ga, 1, none⟩ (.int .i64 pT)).setCell ⟨ga, 2, none⟩ (.slice P2 p2.length p2k)).setCell ⟨ga, 3, none⟩ (.slice P3 p3.length p3k)) from below_put4 (below_step HB.out hb) GEA.out (.slice P0 p0.length p0k) (.int .i64 pT) (.slice P2 p2.length p2k) (.slice P3 p3.length p3k)); have na_ := zK (blk_put4 hyb_ (.slice P0 p0.length p0k) (.int .i64 pT) (.slice P2 p2.length p2k) (.slice P3 p3.length p3k)); have nr_ := zK (blk_far4 (blk_below BKr.out hb) GER.out.2 (.slice P0 p0.length p0k) (.int .i64 pT) (.slice P2 p2.length p2k) (.slice P3 p3.length p3k)); have nl_ := zK (hL_.putlo AGP.out.1 (.slice P0 p0.length p0k) (.int .i64 pT) (.slice P2 p2.length p2k) (.slice P3 p3.length p3k)); have hrw_ := blk_below BKr.out hb; obtain ⟨hrr0, hrr1, hrr2, hrr3⟩ := cells4 hrw_; have hne_ := GER.out.2; clear HB BKa BKr hb hL_ ho0_ ho2_ ho3_ hN_ elo_ ehi_ hyb_ hrw_ hzBKa0 hzBKa1 hzBKa2 hzBKa3 hzBKr0 hzBKr1 hzBKr2 hzBKr3; have HB := nb_; have BKa := na_; have BKr := nr_; have LP := nl_; clear nb_ na_ nr_ nl_; obtain ⟨hzBKa0, hzBKa1, hzBKa2, hzBKa3⟩ := cells4 BKa.out; obtain ⟨hzBKr0, hzBKr1, hzBKr2, hzBKr3⟩ := cells4 BKr.out)
       | ((with_reducible refine gate_callee (f := 23) rfl ?_); refine goesL_ (some 15) rfl rfl Try.func23 (by kernel_rfl) rfl #[.agg #[.slice P0 p0.length p0k, .int .i64 pT, .slice P2 p2.length p2k, .slice P3 p3.length p3k]] rfl zg ?_; (with_reducible refine (spec_LoopOk.calls k _ _ p0 pT _ _ p2 _ _ p3 true _ LP.out.rd.2.1 LP.out.rd.1 LP.out.rd.2.2.2.1 LP.out.rd.2.2.1 LP.out.rd.2.2.2.2.2 LP.out.rd.2.2.2.2.1 Ao.out).mono ?_); rintro e w4 ⟨rfl, hb⟩; refine ⟨_, rfl, ?_⟩; replace HB := zK (below_step HB.out hb); replace BKa := zK (blk_below BKa.out hb); replace BKr := zK (blk_below BKr.out hb); replace LP := zK (LP.out.later hb); clear aC aD aN aQ aE aG aT aU hrr0 hrr1 hrr2 hrr3 hzBKa0 hzBKa1 hzBKa2 hzBKa3 hzBKr0 hzBKr1 hzBKr2 hzBKr3; clear hb; obtain ⟨hzBKa0, hzBKa1, hzBKa2, hzBKa3⟩ := cells4 BKa.out; obtain ⟨hzBKr0, hzBKr1, hzBKr2, hzBKr3⟩ := cells4 BKr.out)
       | ((with_reducible refine gate_callee (f := 68) rfl ?_); refine goesL_ (some 19) rfl rfl Try.func68 (by kernel_rfl) rfl #[.agg #[.slice P0 p0.length p0k, .int .i64 pT, .slice P2 p2.length p2k, .slice P3 p3.length p3k]] rfl zg ?_; (with_reducible refine (spec_l05Copy.calls2 k _ _ p0 pT _ _ p2 _ _ p3 q0 qT q2 q3 _ LP.out.rd.2.1 LP.out.rd.1 LP.out.rd.2.2.2.1 LP.out.rd.2.2.1 LP.out.rd.2.2.2.2.2 LP.out.rd.2.2.2.2.1 Aq.out).mono ?_); rintro e w5 ⟨aH, aI, aJ, N_, rfl, ho0_, ho2_, ho3_, hN_, hb⟩; refine ⟨_, rfl, ?_⟩; obtain ⟨PWq, hL_⟩ := LoopMem.mk ho0_ ho2_ ho3_ hN_; obtain ⟨B, hB_, hL_⟩ : ∃ B, (w.heap.size ≤ B ∧ hip ≤ B ∧ B ≤ w5.heap.size) ∧ LoopMem B w5 PWq aH q0 aI q2 aJ q3 := ⟨_, ⟨HB.out.size, LP.out.1, hb.size⟩, hL_⟩; obtain ⟨Q0, q0k, Q2, q2k, Q3, q3k, aA, aM, aq, _, _, _, _, _, _⟩ := hL_.reads; subst aA; subst aM; subst aq; have AGB := zK hB_; replace HB := zK (below_step HB.out hb); replace BKa := zK (blk_below BKa.out hb); replace BKr := zK (blk_below BKr.out hb); replace LP := zK (LP.out.later hb); have HL := zK (hL_); clear hzBKa0 hzBKa1 hzBKa2 hzBKa3 hzBKr0 hzBKr1 hzBKr2 hzBKr3; clear hb hL_ hB_ ho0_ ho2_ ho3_ hN_; obtain ⟨hzBKa0, hzBKa1, hzBKa2, hzBKa3⟩ := cells4 BKa.out; obtain ⟨hzBKr0, hzBKr1, hzBKr2, hzBKr3⟩ := cells4 BKr.out)
       | ((with_reducible refine gate_dst (N := 8) rfl ?_); refine zX 8 #[.slice none 0 0, .int .i64 0, .slice none 0 0, .slice none 0 0] 28 ?_; intro go hg w6 hbox hb; have aC : w6.cell? ⟨go, 0, none⟩ = some (.slice none 0 0) := (blk_cell hbox 0).trans rfl; have aD : w6.cell? ⟨go, 1, none⟩ = some (.int .i64 0) := (blk_cell hbox 1).trans rfl; have aN : w6.cell? ⟨go, 2, none⟩ = some (.slice none 0 0) := (blk_cell hbox 2).trans rfl; have aQ : w6.cell? ⟨go, 3, none⟩ = some (.slice none 0 0) := (blk_cell hbox 3).trans rfl; have aE := blk_frozen hbox 0; have aG := blk_frozen hbox 1; have aT := blk_frozen hbox 2; have aU := blk_frozen hbox 3; have aa := zK (below_put4 (below_step HB.out hb) (show w.heap.size ≤ go from by rw [hg]; exact HB.out.size) (.slice Q0 q0.length q0k) (.int .i64 qT) (.slice Q2 q2.length q2k) (.slice Q3 q3.length q3k)); have ab := zK (blk_far4 (blk_below BKa.out hb) (show ga ≠ go from by rw [hg]; exact Nat.ne_of_lt (blk_lt BKa.out)) (.slice Q0 q0.length q0k) (.int .i64 qT) (.slice Q2 q2.length q2k) (.slice Q3 q3.length q3k)); have ac := zK (blk_far4 (blk_below BKr.out hb) (show gr ≠ go from by rw [hg]; exact Nat.ne_of_lt (blk_lt BKr.out)) (.slice Q0 q0.length q0k) (.int .i64 qT) (.slice Q2 q2.length q2k) (.slice Q3 q3.length q3k)); have ad := zK ((LP.out.later hb).put4 (show hip ≤ go from by rw [hg]; exact LP.out.1) (.slice Q0 q0.length q0k) (.int .i64 qT) (.slice Q2 q2.length q2k) (.slice Q3 q3.length q3k)); have ah := zK (lm_box4 (HL.out.below hb) hbox (.slice Q0 q0.length q0k) (.int .i64 qT) (.slice Q2 q2.length q2k) (.slice Q3 q3.length q3k)); have m0_ := zK (blk_put4 hbox (.slice Q0 q0.length q0k) (.int .i64 qT) (.slice Q2 q2.length q2k) (.slice Q3 q3.length q3k)); have GEO := zK (show (w.heap.size ≤ go ∧ hip ≤ go) ∧ B ≤ go from by rw [hg]; exact ⟨⟨HB.out.size, LP.out.1⟩, Nat.le_trans AGB.out.2.2 (by first | exact Nat.le_refl _ | assumption)⟩); have NAO := zK (show ga ≠ go ∧ gr ≠ go from by rw [hg]; exact ⟨Nat.ne_of_lt (blk_lt BKa.out), Nat.ne_of_lt (blk_lt BKr.out)⟩); clear HB BKa BKr LP HL hzBKa0 hzBKa1 hzBKa2 hzBKa3 hzBKr0 hzBKr1 hzBKr2 hzBKr3; have HB := aa; have BKa := ab; have BKr := ac; have LP := ad; have HL := ah; have BKo := m0_; clear aa ab ac ad ah m0_; clear hb hbox hg; obtain ⟨hzBKa0, hzBKa1, hzBKa2, hzBKa3⟩ := cells4 BKa.out; obtain ⟨hzBKr0, hzBKr1, hzBKr2, hzBKr3⟩ := cells4 BKr.out; obtain ⟨hzBKo0, hzBKo1, hzBKo2, hzBKo3⟩ := cells4 BKo.out)
       | ((with_reducible refine gate_dst (N := 21) rfl ?_); refine Kd.R_lit (Kd.int .i64) _ 3 ?hg (N := 21) ?hd (xs := ([] : List Int)) (inner := []) (ok := fun _ => True) (okp := fun _ => True) ?hr ?hp (fun _ hk => hk) trivial (Below.refl _ _) (Nat.le_refl _) (by simp) ?_; (case hd => rfl); (case hg => rfl); (case hr => first | (go_simp; done) | (go_simp; rfl)); (case hp => exact (Reps.none _ _)); intro vE_ w7 ho hb hg_ hnew_; obtain ⟨N, hbN_, hR_⟩ := lr_new HL.out hb ho (Nat.le_trans GEO.out.2 (Nat.le_of_lt (blk_lt BKo.out))); have HBN := zK (And.intro hbN_ (Nat.le_trans AGB.out.1 hbN_)); replace HB := zK (below_step HB.out hb); replace BKa := zK (blk_below BKa.out hb); replace BKr := zK (blk_below BKr.out hb); replace LP := zK (LP.out.later hb); replace BKo := zK (blk_below BKo.out hb); have HR := zK (hR_); clear HL hzBKa0 hzBKa1 hzBKa2 hzBKa3 hzBKr0 hzBKr1 hzBKr2 hzBKr3 hzBKo0 hzBKo1 hzBKo2 hzBKo3 aC aD aN aQ aE aG aT aU; clear hb hR_ hbN_ hg_ hnew_ ho; obtain ⟨hzBKa0, hzBKa1, hzBKa2, hzBKa3⟩ := cells4 BKa.out; obtain ⟨hzBKr0, hzBKr1, hzBKr2, hzBKr3⟩ := cells4 BKr.out; obtain ⟨hzBKo0, hzBKo1, hzBKo2, hzBKo3⟩ := cells4 BKo.out)
       | ((with_reducible refine gate_builtin (b := .append) (xs := #[.tmp 21, .tmp 22]) rfl ?_); at_builtin; refine Kd.R_append_rows (Kd.int .i64) (w0 := w7) N rfl (.tmp 21) (.tmp 22) 24 3 (.int .i64 0) 8 rfl Try.underlying24 info3 rfl (by decide) (by omega) vE_ [] l2 _ _ _ (fun _ => True) (fun _ => False) rfl rfl ?aO ?aR (fun _ _ h => h) (fun _ h => h.elim) ?aF ?aB ?aS ?aL ?_; (case aR => exact (Kd.C_below HRx.out HB.out)); (case aB => exact Below.refl _ _); (case aF => exact (fun _ _ => trivial)); (case aO => exact HR.out.2.2.2.2); (case aS => exact HR.out.1); (case aL => have := LM.out; simp only [List.length_nil]; omega); intro vD_ w8 ho hb hg_ hat_; rw [List.nil_append] at ho; have hR_ := lr_grow HR.out hb ho; obtain ⟨D0, d0k, aA⟩ := Kd.R_slice ho; subst aA; have hv_ := HR.out.2.2.2.2; replace BKa := zK (blk_grown BKa.out hg_ (Kd.R_ne hv_ BKa.out (by decide))); replace BKr := zK (blk_grown BKr.out hg_ (Kd.R_ne hv_ BKr.out (by decide))); replace BKo := zK (blk_grown BKo.out hg_ (Kd.R_ne hv_ BKo.out (by decide))); replace HB := zK (below_via HB.out HBN.out.2 hb); replace LP := zK (LP.out.under hb (Nat.le_trans AGB.out.2.1 HBN.out.1)); replace HR := zK hR_; clear hv_ ho hb hg_ hat_ hR_ hzBKa0 hzBKa1 hzBKa2 hzBKa3 hzBKr0 hzBKr1 hzBKr2 hzBKr3 hzBKo0 hzBKo1 hzBKo2 hzBKo3; obtain ⟨hzBKa0, hzBKa1, hzBKa2, hzBKa3⟩ := cells4 BKa.out; obtain ⟨hzBKr0, hzBKr1, hzBKr2, hzBKr3⟩ := cells4 BKr.out; obtain ⟨hzBKo0, hzBKo1, hzBKo2, hzBKo3⟩ := cells4 BKo.out)
       | ((with_reducible refine gate_dst (N := 9) rfl ?_); refine zX 9 #[.int .i64 0, .slice none 0 0] 74 ?_; intro gw hg w9 hbox hb; have aC : w9.cell? ⟨gw, 0, none⟩ = some (.int .i64 0) := (blk_cell hbox 0).trans rfl; have aD : w9.cell? ⟨gw, 1, none⟩ = some (.slice none 0 0) := (blk_cell hbox 1).trans rfl; have aE := blk_frozen hbox 0; have aG := blk_frozen hbox 1; have hNg_ : N ≤ gw := (by rw [hg]; exact HR.out.1); have hwg_ : w.heap.size ≤ gw := (by rw [hg]; exact HB.out.size); have aa := zK (show Below w.heap.size w ((w9.setCell ⟨gw, 0, none⟩ (.int .i64 a1)).setCell ⟨gw, 1, none⟩ (.slice D0 l2.length d0k)) from zS (zS (below_step HB.out hb) hwg_) hwg_); have ab := zK (l2_of (lr_put (lr_put (lr_below HR.out hb) hbox hNg_ 0 (.int .i64 a1)) (blk_put hbox 0 (.int .i64 a1) rfl) hNg_ 1 (.slice D0 l2.length d0k)) HBN.out.1); have ac := zK (blk_far2 (a := 0) (b := 1) (blk_below BKa.out hb) (show ga ≠ gw from by rw [hg]; exact Nat.ne_of_lt (blk_lt BKa.out)) (.int .i64 a1) (.slice D0 l2.length d0k)); have ad := zK (blk_far2 (a := 0) (b := 1) (blk_below BKr.out hb) (show gr ≠ gw from by rw [hg]; exact Nat.ne_of_lt (blk_lt BKr.out)) (.int .i64 a1) (.slice D0 l2.length d0k)); have ah := zK (blk_far2 (a := 0) (b := 1) (blk_below BKo.out hb) (show go ≠ gw from by rw [hg]; exact Nat.ne_of_lt (blk_lt BKo.out)) (.int .i64 a1) (.slice D0 l2.length d0k)); have ai := zK (show (((w9.setCell ⟨gw, 0, none⟩ (.int .i64 a1)).setCell ⟨gw, 1, none⟩ (.slice D0 l2.length d0k))).heap[gw]? = some (.cells #[.int .i64 a1, .slice D0 l2.length d0k] 74 (0, 0)) from blk_put (blk_put hbox 0 _ rfl) 1 _ rfl); have n6_ := zK ((LP.out.later hb).far2 (a1 := 0) (a2 := 1) (show hip ≤ gw from by rw [hg]; exact LP.out.1) (.int .i64 a1) (.slice D0 l2.length d0k)); have GEW := zK hNg_; clear HB HR LP BKa BKr BKo hNg_ hwg_ hzBKa0 hzBKa1 hzBKa2 hzBKa3 hzBKr0 hzBKr1 hzBKr2 hzBKr3 hzBKo0 hzBKo1 hzBKo2 hzBKo3; have HB := aa; have H2 := ab; have BKa := ac; have BKr := ad; have BKo := ah; have BKw := ai; have LP := n6_; clear aa ab ac ad ah ai n6_ hb hbox hg; obtain ⟨hzBKa0, hzBKa1, hzBKa2, hzBKa3⟩ := cells4 BKa.out; obtain ⟨hzBKr0, hzBKr1, hzBKr2, hzBKr3⟩ := cells4 BKr.out; obtain ⟨hzBKo0, hzBKo1, hzBKo2, hzBKo3⟩ := cells4 BKo.out; obtain ⟨hzBKw0, hzBKw1⟩ := cells2 BKw.out)
       )
     try clear aC
     try clear aD
     try clear aE
     try clear aG
     try clear hzBKa0
     try clear hzBKa1
     try clear hzBKa2
     try clear hzBKa3
     try clear hzBKr0
     try clear hzBKr1
     try clear hzBKr2
     try clear hzBKr3
     try clear hzBKo0
     try clear hzBKo1
     try clear hzBKo2
     try clear hzBKo3
     try clear hzBKw0
     try clear hzBKw1
     go_loopg [10, 11] k (fun kq v10 v11 w' => ∃ (hv : Bool) (i : Int) (wa : List S74), v10 = .bool hv ∧ v11 = .int .i64 i ∧ Aside0 (spec_SetWant.l0 kq hv i wa ⟨a1, l2⟩ = some (rh, rw_)) ∧ Aside0 (kq ≤ k) ∧ Aside0 (LR2 B N w' PWq (.slice Q0 q0.length q0k) q0 (.slice Q2 q2.length q2k) q2 (.slice Q3 q3.length q3k) wa (.slice D0 l2.length d0k) l2) ∧ Aside0 (LoopRd w.heap.size lop hip w' (.slice P0 p0.length p0k) p0 (.slice P2 p2.length p2k) p2 (.slice P3 p3.length p3k) p3) ∧ Aside0 (w'.heap[ga]? = some (.cells #[.slice P0 p0.length p0k, .int .i64 pT, .slice P2 p2.length p2k, .slice P3 p3.length p3k] 28 (0, 0))) ∧ Aside0 (w'.heap[gr]? = some (.cells #[.slice none 0 0, .int .i64 0, .slice none 0 0, .slice none 0 0] 28 (0, 0))) ∧ Aside0 (w'.heap[go]? = some (.cells #[.slice Q0 q0.length q0k, .int .i64 qT, .slice Q2 q2.length q2k, .slice Q3 q3.length q3k] 28 (0, 0))) ∧ Aside0 (w'.heap[gw]? = some (.cells #[.int .i64 a1, .slice D0 l2.length d0k] 74 (0, 0))) ∧ Aside0 (Below w.heap.size w w'))
     case atStart => exact ⟨false, 0, q3, rfl, rfl, Al, ⟨Nat.le_refl _⟩, H2, LP, BKa, BKr, BKo, BKw, HB⟩
     case round =>
      clear Al H2 LP BKa BKr BKo BKw HB
      obtain ⟨hv, i, wa, rfl, rfl, HA, HK1, H2, LP, BKa, BKr, BKo, BKw, HB⟩ := hrel
      have hlw_ : q3.length = wa.length := (Kd.R_reads' H2.out.2.2.2.2.1).1
      cases gk with
      | zero => exact absurd HA.out (by simp [spec_SetWant.l0])
      | succ k1 =>
       have R_ := HA.out; clear HA
       simp only [spec_SetWant.l0] at R_
       by_cases c3 : i < (wa.length : Int)
       · rw [if_pos c3] at R_
         have cj : i < ((q3.length : Nat) : Int) := by omega
         have c3b : decide (i < ((q3.length : Nat) : Int)) = true := decide_eq_true cj
         by_cases ci : 0 ≤ i
         · rw [if_pos ci] at R_
           obtain ⟨gW, u1_, eW_, hW_, hx0, hx1, hfx0, hfx1, hS_⟩ := l2_at H2.out i ci cj
           cases eW_
           obtain ⟨cW_, hcW_⟩ := hW_.2.2
           have XW := zK (And.intro (hS_ a1) (And.intro (blk_kinds BKa.out hcW_ (by decide)) (And.intro (blk_kinds BKr.out hcW_ (by decide)) (And.intro (blk_kinds BKo.out hcW_ (by decide)) (And.intro hW_.1 hW_.2.1)))))
           clear hS_ hcW_ hW_ hlw_ c3; have pi := eq_true ci
           have qk : (i < ((q3.length : Nat) : Int)) = True := eq_true cj
           clear ci cj
           obtain ⟨hzBKa0, hzBKa1, hzBKa2, hzBKa3⟩ := cells4 BKa.out
           obtain ⟨hzBKr0, hzBKr1, hzBKr2, hzBKr3⟩ := cells4 BKr.out
           obtain ⟨hzBKo0, hzBKo1, hzBKo2, hzBKo3⟩ := cells4 BKo.out
           obtain ⟨hzBKw0, hzBKw1⟩ := cells2 BKw.out
           by_cases c5 : (rd_T74 wa i).f0 = a1
           · rw [if_pos c5] at R_
             have c5b : ((rd_T74 wa i).f0 == a1) = true := beq_iff_eq.mpr c5
             have HA := zK R_; clear R_ c5
             go_wp2_with (first
               | ((with_reducible refine gate_store (t := 74) (p := 44) rfl ?_); refine store_event (t := 74) (p := 44) (v := ?vo_w8) (w1 := ((wr.setCell ⟨gW, i.toNat * 2, none⟩ (.int .i64 a1)).setCell ⟨gW, i.toNat * 2 + 1, none⟩ (.slice D0 l2.length d0k))) ?hg ?ho ?hn ?hr ?_; (case ho => rfl); (case hg => rfl); (case hn => rfl); (case hr => first | (go_simp; done) | (go_simp; rfl)); intro ws hw; have nb_ := zK (show Below w.heap.size w ws from by rw [hw]; exact zS (zS HB.out (Nat.le_trans AGB.out.1 XW.out.2.2.2.2.1)) (Nat.le_trans AGB.out.1 XW.out.2.2.2.2.1)); have ac := zK XW.out.1; rw [← hw] at ac; have nl_ := zK (show LoopRd w.heap.size lop hip ws _ p0 _ p2 _ p3 from by rw [hw]; exact LP.out.far2 (Nat.le_trans AGB.out.2.1 XW.out.2.2.2.2.1) _ _); have nBKa_ := zK (show ws.heap[ga]? = some (.cells #[.slice P0 p0.length p0k, .int .i64 pT, .slice P2 p2.length p2k, .slice P3 p3.length p3k] 28 (0, 0)) from by rw [hw]; exact blk_far2 BKa.out XW.out.2.1 _ _); have nBKr_ := zK (show ws.heap[gr]? = some (.cells #[.slice none 0 0, .int .i64 0, .slice none 0 0, .slice none 0 0] 28 (0, 0)) from by rw [hw]; exact blk_far2 BKr.out XW.out.2.2.1 _ _); have nBKo_ := zK (show ws.heap[go]? = some (.cells #[.slice Q0 q0.length q0k, .int .i64 qT, .slice Q2 q2.length q2k, .slice (some ⟨gW, 0, none⟩) q3.length q3k] 28 (0, 0)) from by rw [hw]; exact blk_far2 BKo.out XW.out.2.2.2.1 _ _); have nBKw_ := zK (show ws.heap[gw]? = some (.cells #[.int .i64 a1, .slice D0 l2.length d0k] 74 (0, 0)) from by rw [hw]; exact blk_far2 BKw.out (Nat.ne_of_gt (Nat.lt_of_lt_of_le XW.out.2.2.2.2.2 GEW.out)) _ _); clear HB H2 LP BKa BKr BKo BKw XW hw hx0 hx1 hfx0 hfx1 hzBKa0 hzBKa1 hzBKa2 hzBKa3 hzBKr0 hzBKr1 hzBKr2 hzBKr3 hzBKo0 hzBKo1 hzBKo2 hzBKo3 hzBKw0 hzBKw1; have HB := nb_; have H2 := ac; have LP := nl_; have BKa := nBKa_; have BKr := nBKr_; have BKo := nBKo_; have BKw := nBKw_; clear nb_ ac nl_ nBKa_ nBKr_ nBKo_ nBKw_)
               )
             go_roundg k1
             case measure => have := HK1.out; omega
             case rel => exact ⟨true, wrap64 (i + 1), wa.set i.toNat ⟨a1, l2⟩, rfl, rfl, HA, ⟨by have := HK1.out; omega⟩, H2, LP, BKa, BKr, BKo, BKw, HB⟩
           · rw [if_neg c5] at R_
             have c5b : ((rd_T74 wa i).f0 == a1) = false := beq_eq_false_iff_ne.mpr c5
             have HA := zK R_; clear R_ c5
             go_wp2
             clear XW hx0 hx1 hfx0 hfx1 hzBKa0 hzBKa1 hzBKa2 hzBKa3 hzBKr0 hzBKr1 hzBKr2 hzBKr3 hzBKo0 hzBKo1 hzBKo2 hzBKo3 hzBKw0 hzBKw1
             go_roundg k1
             case measure => have := HK1.out; omega
             case rel => exact ⟨hv, wrap64 (i + 1), wa, rfl, rfl, HA, ⟨by have := HK1.out; omega⟩, H2, LP, BKa, BKr, BKo, BKw, HB⟩
         · rw [if_neg ci] at R_
           cases R_
       · rw [if_neg c3, Option.some.injEq, Prod.mk.injEq] at R_
         obtain ⟨eh_, ew_⟩ := R_
         subst eh_; subst ew_
         have c3b : decide (i < ((q3.length : Nat) : Int)) = false := decide_eq_false (by omega)
         clear c3 hlw_; have Q := Aw.out
         unfold spec_SetWant.q at Q
         cases hv with
         | true =>
           rw [if_pos rfl, Option.some.injEq] at Q
           have Nq := zK Q; clear Q
           cases o2 with
           | false =>
             rw [if_neg (by simp)] at H
             simp only [Option.some.injEq, Prod.mk.injEq] at H
             obtain ⟨rfl, rfl, rfl, rfl, rfl⟩ := H
             obtain ⟨hzBKa0, hzBKa1, hzBKa2, hzBKa3⟩ := cells4 BKa.out
             obtain ⟨hzBKr0, hzBKr1, hzBKr2, hzBKr3⟩ := cells4 BKr.out
             obtain ⟨hzBKo0, hzBKo1, hzBKo2, hzBKo3⟩ := cells4 BKo.out
             obtain ⟨hzBKw0, hzBKw1⟩ := cells2 BKw.out
             have HF := zK (l2_fin H2.out)
             rw [Nq.out] at HF
             have hl_ : q3.length = wq.length := (Kd.R_reads' HF.out.2.2).1
             rw [hl_] at HF BKo c3b hzBKo3
             clear H2 BKw hl_
             go_wp2_with (first
               | ((with_reducible refine gate_callee (f := 23) rfl ?_); refine goesL_ (some 54) rfl rfl Try.func23 (by kernel_rfl) rfl #[.agg #[.slice Q0 q0.length q0k, .int .i64 qT, .slice Q2 q2.length q2k, .slice Q3 wq.length q3k]] rfl zg ?_; (with_reducible refine (spec_LoopOk.calls k _ _ q0 qT _ _ q2 _ _ wq false _ (fin_rd HF.out).2.1 (fin_rd HF.out).1 (fin_rd HF.out).2.2.2.1 (fin_rd HF.out).2.2.1 (fin_rd HF.out).2.2.2.2.2 (fin_rd HF.out).2.2.2.2.1 Ap.out).mono ?_); rintro e w11 ⟨rfl, hb⟩; refine ⟨_, rfl, ?_⟩; replace HB := zK (below_step HB.out hb); replace BKa := zK (blk_below BKa.out hb); replace BKr := zK (blk_below BKr.out hb); replace BKo := zK (blk_below BKo.out hb); replace LP := zK (LP.out.later hb); replace HF := zK (fin_below HF.out hb); clear hzBKa0 hzBKa1 hzBKa2 hzBKa3 hzBKr0 hzBKr1 hzBKr2 hzBKr3 hzBKo0 hzBKo1 hzBKo2 hzBKo3 hzBKw0 hzBKw1; clear hb; obtain ⟨hzBKa0, hzBKa1, hzBKa2, hzBKa3⟩ := cells4 BKa.out; obtain ⟨hzBKr0, hzBKr1, hzBKr2, hzBKr3⟩ := cells4 BKr.out; obtain ⟨hzBKo0, hzBKo1, hzBKo2, hzBKo3⟩ := cells4 BKo.out; obtain ⟨ar, au, av, aw⟩ := zF4 BKr)
               )
             refine bodyPost_ret (results_ct rfl _ _ gr 28 #[.slice P0 p0.length p0k, .int .i64 pT, .slice P2 p2.length p2k, .slice P3 p3.length p3k] (0, 0) _ rfl (blk_put4 BKr.out (.slice P0 p0.length p0k) (.int .i64 pT) (.slice P2 p2.length p2k) (.slice P3 p3.length p3k)) Try.underlying28 rfl (by kernel_rfl)) rfl ?_
             have hF_ := fin_box4 LP.out.fin BKr.out (.slice P0 p0.length p0k) (.int .i64 pT) (.slice P2 p2.length p2k) (.slice P3 p3.length p3k)
             exact ⟨_, _, _, rfl, hF_.1, hF_.2.1, hF_.2.2, below_put4 HB.out GER.out.1 (.slice P0 p0.length p0k) (.int .i64 pT) (.slice P2 p2.length p2k) (.slice P3 p3.length p3k)⟩
           | true =>
             rw [if_pos rfl] at H
             simp only [Option.some.injEq, Prod.mk.injEq] at H
             obtain ⟨rfl, rfl, rfl, rfl, rfl⟩ := H
             obtain ⟨hzBKa0, hzBKa1, hzBKa2, hzBKa3⟩ := cells4 BKa.out
             obtain ⟨hzBKr0, hzBKr1, hzBKr2, hzBKr3⟩ := cells4 BKr.out
             obtain ⟨hzBKo0, hzBKo1, hzBKo2, hzBKo3⟩ := cells4 BKo.out
             obtain ⟨hzBKw0, hzBKw1⟩ := cells2 BKw.out
             have HF := zK (l2_fin H2.out)
             rw [Nq.out] at HF
             have hl_ : q3.length = wq.length := (Kd.R_reads' HF.out.2.2).1
             rw [hl_] at HF BKo c3b hzBKo3
             clear H2 BKw hl_
             go_wp2_with (first
               | ((with_reducible refine gate_callee (f := 23) rfl ?_); refine goesL_ (some 54) rfl rfl Try.func23 (by kernel_rfl) rfl #[.agg #[.slice Q0 q0.length q0k, .int .i64 qT, .slice Q2 q2.length q2k, .slice Q3 wq.length q3k]] rfl zg ?_; (with_reducible refine (spec_LoopOk.calls k _ _ q0 qT _ _ q2 _ _ wq true _ (fin_rd HF.out).2.1 (fin_rd HF.out).1 (fin_rd HF.out).2.2.2.1 (fin_rd HF.out).2.2.1 (fin_rd HF.out).2.2.2.2.2 (fin_rd HF.out).2.2.2.2.1 Ap.out).mono ?_); rintro e w11 ⟨rfl, hb⟩; refine ⟨_, rfl, ?_⟩; replace HB := zK (below_step HB.out hb); replace BKa := zK (blk_below BKa.out hb); replace BKr := zK (blk_below BKr.out hb); replace BKo := zK (blk_below BKo.out hb); replace LP := zK (LP.out.later hb); replace HF := zK (fin_below HF.out hb); clear hzBKa0 hzBKa1 hzBKa2 hzBKa3 hzBKr0 hzBKr1 hzBKr2 hzBKr3 hzBKo0 hzBKo1 hzBKo2 hzBKo3 hzBKw0 hzBKw1; clear hb; obtain ⟨hzBKa0, hzBKa1, hzBKa2, hzBKa3⟩ := cells4 BKa.out; obtain ⟨hzBKr0, hzBKr1, hzBKr2, hzBKr3⟩ := cells4 BKr.out; obtain ⟨hzBKo0, hzBKo1, hzBKo2, hzBKo3⟩ := cells4 BKo.out; obtain ⟨ar, au, av, aw⟩ := zF4 BKr)
               )
             refine bodyPost_ret (results_ct rfl _ _ gr 28 #[.slice Q0 q0.length q0k, .int .i64 qT, .slice Q2 q2.length q2k, .slice Q3 wq.length q3k] (0, 0) _ rfl (blk_put4 BKr.out (.slice Q0 q0.length q0k) (.int .i64 qT) (.slice Q2 q2.length q2k) (.slice Q3 wq.length q3k)) Try.underlying28 rfl (by kernel_rfl)) rfl ?_
             have hF_ := fin_box4 (fin_lower HF.out AGB.out.1) BKr.out (.slice Q0 q0.length q0k) (.int .i64 qT) (.slice Q2 q2.length q2k) (.slice Q3 wq.length q3k)
             exact ⟨_, _, _, rfl, hF_.1, hF_.2.1, hF_.2.2, below_put4 HB.out GER.out.1 (.slice Q0 q0.length q0k) (.int .i64 qT) (.slice Q2 q2.length q2k) (.slice Q3 wq.length q3k)⟩
         | false =>
           rw [if_neg (by simp)] at Q
           by_cases cw : wa.length < 4398046511104
           · rw [if_pos cw, Option.some.injEq] at Q
             have Nq := zK Q.symm; have LW := zK cw; clear Q cw
             cases o2 with
             | false =>
               rw [if_neg (by simp)] at H
               simp only [Option.some.injEq, Prod.mk.injEq] at H
               obtain ⟨rfl, rfl, rfl, rfl, rfl⟩ := H
               obtain ⟨hzBKa0, hzBKa1, hzBKa2, hzBKa3⟩ := cells4 BKa.out
               obtain ⟨hzBKr0, hzBKr1, hzBKr2, hzBKr3⟩ := cells4 BKr.out
               obtain ⟨hzBKo0, hzBKo1, hzBKo2, hzBKo3⟩ := cells4 BKo.out
               obtain ⟨hzBKw0, hzBKw1⟩ := cells2 BKw.out
               go_wp2_with (first
                 | ((with_reducible refine gate_builtin (b := .append) (xs := #[.tmp 48, .tmp 50]) rfl ?_); at_builtin; refine Kd.R_append k74 (w0 := wr) B rfl (.tmp 48) (.tmp 50) 26 74 (.agg #[(.int .i64 0), (.slice none 0 0)]) 32 rfl Try.underlying26 info74 rfl (by decide) (by omega) (.slice Q3 q3.length q3k) wa (⟨a1, l2⟩ : S74) [.int .i64 a1, .slice D0 l2.length d0k] (fun k_ => (PWq k_ ∧ k_ < N) ∨ N ≤ k_) (fun k_ => N ≤ k_ ∧ k_ < wr.heap.size) rfl rfl ?aP ?aK ?aF ?aO ?aB ?aS ?aL ?_; (case aP => exact k74_mkM _ _ _ (⟨a1, l2⟩ : S74) (l2_row H2.out)); (case aK => exact fun k_ hk_ => ⟨.inr hk_.1, fun e_ => Nat.not_le.2 (H2.out.2.2.2.2.2.1 k_ e_.symm).2 hk_.1⟩); (case aF => exact fun k_ hk_ => .inr (Nat.le_trans H2.out.1 hk_)); (case aO => exact H2.out.2.2.2.2.1); (case aB => exact Below.refl _ _); (case aS => exact Nat.le_trans HBN.out.1 H2.out.1); (case aL => have := LW.out; omega); intro v1_ ap ho hb hg hat; rw [← Nq.out] at ho; have hF_ := l2_app H2.out ho hg; obtain ⟨Z3, z3k, aq⟩ := Kd.R_slice ho; subst aq; have hW_ := H2.out.2.2.2.2.1; have hO_ := l2_base H2.out; have nBKa_ := zK (blk_grown BKa.out hg (Kd.R_ne hW_ BKa.out (by decide))); have nBKr_ := zK (blk_grown BKr.out hg (Kd.R_ne hW_ BKr.out (by decide))); have nBKo_ := zK (blk_grown BKo.out hg (Kd.R_ne hW_ BKo.out (by decide))); have hyy3 : ap.cell? ⟨go, 3, none⟩ = some (.slice Q3 q3.length q3k) := (blk_cell nBKo_.out 3).trans rfl; have hyf3 := blk_frozen nBKo_.out 3; replace BKa := zK ((Below.heap_setCell ap ⟨go, 3, none⟩ (.slice Z3 wq.length z3k) ga NAO.out.1).trans nBKa_.out); replace BKr := zK ((Below.heap_setCell ap ⟨go, 3, none⟩ (.slice Z3 wq.length z3k) gr NAO.out.2).trans nBKr_.out); replace BKo := zK (show (ap.setCell ⟨go, 3, none⟩ (.slice Z3 wq.length z3k)).heap[go]? = some (.cells #[.slice Q0 q0.length q0k, .int .i64 qT, .slice Q2 q2.length q2k, .slice Z3 wq.length z3k] 28 (0, 0)) from blk_put nBKo_.out 3 _ rfl); replace HB := zK (show Below w.heap.size w (ap.setCell ⟨go, 3, none⟩ (.slice Z3 wq.length z3k)) from zS (below_via HB.out AGB.out.1 hb) GEO.out.1.1); have HF := zK (fin_box hF_ nBKo_.out 3 (.slice Z3 wq.length z3k)); replace LP := zK ((LP.out.grow hg (fun k_ hk_ => Nat.le_trans AGB.out.2.1 (hO_ k_ hk_))).far1 (a1 := 3) GEO.out.1.2 (.slice Z3 wq.length z3k)); clear H2 BKw hW_ hO_ ho hb hg hat hF_ nBKa_ nBKr_ nBKo_ hzBKa0 hzBKa1 hzBKa2 hzBKa3 hzBKr0 hzBKr1 hzBKr2 hzBKr3 hzBKo0 hzBKo1 hzBKo2 hzBKo3 hzBKw0 hzBKw1; obtain ⟨hzBKa0, hzBKa1, hzBKa2, hzBKa3⟩ := cells4 BKa.out; obtain ⟨hzBKr0, hzBKr1, hzBKr2, hzBKr3⟩ := cells4 BKr.out; obtain ⟨hzBKo0, hzBKo1, hzBKo2, hzBKo3⟩ := cells4 BKo.out)
                 | ((with_reducible refine gate_callee (f := 23) rfl ?_); refine goesL_ (some 54) rfl rfl Try.func23 (by kernel_rfl) rfl #[.agg #[.slice Q0 q0.length q0k, .int .i64 qT, .slice Q2 q2.length q2k, .slice Z3 wq.length z3k]] rfl zg ?_; (with_reducible refine (spec_LoopOk.calls k _ _ q0 qT _ _ q2 _ _ wq false _ (fin_rd HF.out).2.1 (fin_rd HF.out).1 (fin_rd HF.out).2.2.2.1 (fin_rd HF.out).2.2.1 (fin_rd HF.out).2.2.2.2.2 (fin_rd HF.out).2.2.2.2.1 Ap.out).mono ?_); rintro e w11 ⟨rfl, hb⟩; refine ⟨_, rfl, ?_⟩; replace HB := zK (below_step HB.out hb); replace BKa := zK (blk_below BKa.out hb); replace BKr := zK (blk_below BKr.out hb); replace BKo := zK (blk_below BKo.out hb); replace LP := zK (LP.out.later hb); replace HF := zK (fin_below HF.out hb); clear hyy3 hyf3 hzBKa0 hzBKa1 hzBKa2 hzBKa3 hzBKr0 hzBKr1 hzBKr2 hzBKr3 hzBKo0 hzBKo1 hzBKo2 hzBKo3; clear hb; obtain ⟨hzBKa0, hzBKa1, hzBKa2, hzBKa3⟩ := cells4 BKa.out; obtain ⟨hzBKr0, hzBKr1, hzBKr2, hzBKr3⟩ := cells4 BKr.out; obtain ⟨hzBKo0, hzBKo1, hzBKo2, hzBKo3⟩ := cells4 BKo.out; obtain ⟨ar, au, av, aw⟩ := zF4 BKr)
                 )
               refine bodyPost_ret (results_ct rfl _ _ gr 28 #[.slice P0 p0.length p0k, .int .i64 pT, .slice P2 p2.length p2k, .slice P3 p3.length p3k] (0, 0) _ rfl (blk_put4 BKr.out (.slice P0 p0.length p0k) (.int .i64 pT) (.slice P2 p2.length p2k) (.slice P3 p3.length p3k)) Try.underlying28 rfl (by kernel_rfl)) rfl ?_
               have hF_ := fin_box4 LP.out.fin BKr.out (.slice P0 p0.length p0k) (.int .i64 pT) (.slice P2 p2.length p2k) (.slice P3 p3.length p3k)
               exact ⟨_, _, _, rfl, hF_.1, hF_.2.1, hF_.2.2, below_put4 HB.out GER.out.1 (.slice P0 p0.length p0k) (.int .i64 pT) (.slice P2 p2.length p2k) (.slice P3 p3.length p3k)⟩
             | true =>
               rw [if_pos rfl] at H
               simp only [Option.some.injEq, Prod.mk.injEq] at H
               obtain ⟨rfl, rfl, rfl, rfl, rfl⟩ := H
               obtain ⟨hzBKa0, hzBKa1, hzBKa2, hzBKa3⟩ := cells4 BKa.out
               obtain ⟨hzBKr0, hzBKr1, hzBKr2, hzBKr3⟩ := cells4 BKr.out
               obtain ⟨hzBKo0, hzBKo1, hzBKo2, hzBKo3⟩ := cells4 BKo.out
               obtain ⟨hzBKw0, hzBKw1⟩ := cells2 BKw.out
               go_wp2_with (first
                 | ((with_reducible refine gate_builtin (b := .append) (xs := #[.tmp 48, .tmp 50]) rfl ?_); at_builtin; refine Kd.R_append k74 (w0 := wr) B rfl (.tmp 48) (.tmp 50) 26 74 (.agg #[(.int .i64 0), (.slice none 0 0)]) 32 rfl Try.underlying26 info74 rfl (by decide) (by omega) (.slice Q3 q3.length q3k) wa (⟨a1, l2⟩ : S74) [.int .i64 a1, .slice D0 l2.length d0k] (fun k_ => (PWq k_ ∧ k_ < N) ∨ N ≤ k_) (fun k_ => N ≤ k_ ∧ k_ < wr.heap.size) rfl rfl ?aP ?aK ?aF ?aO ?aB ?aS ?aL ?_; (case aP => exact k74_mkM _ _ _ (⟨a1, l2⟩ : S74) (l2_row H2.out)); (case aK => exact fun k_ hk_ => ⟨.inr hk_.1, fun e_ => Nat.not_le.2 (H2.out.2.2.2.2.2.1 k_ e_.symm).2 hk_.1⟩); (case aF => exact fun k_ hk_ => .inr (Nat.le_trans H2.out.1 hk_)); (case aO => exact H2.out.2.2.2.2.1); (case aB => exact Below.refl _ _); (case aS => exact Nat.le_trans HBN.out.1 H2.out.1); (case aL => have := LW.out; omega); intro v1_ ap ho hb hg hat; rw [← Nq.out] at ho; have hF_ := l2_app H2.out ho hg; obtain ⟨Z3, z3k, aq⟩ := Kd.R_slice ho; subst aq; have hW_ := H2.out.2.2.2.2.1; have hO_ := l2_base H2.out; have nBKa_ := zK (blk_grown BKa.out hg (Kd.R_ne hW_ BKa.out (by decide))); have nBKr_ := zK (blk_grown BKr.out hg (Kd.R_ne hW_ BKr.out (by decide))); have nBKo_ := zK (blk_grown BKo.out hg (Kd.R_ne hW_ BKo.out (by decide))); have hyy3 : ap.cell? ⟨go, 3, none⟩ = some (.slice Q3 q3.length q3k) := (blk_cell nBKo_.out 3).trans rfl; have hyf3 := blk_frozen nBKo_.out 3; replace BKa := zK ((Below.heap_setCell ap ⟨go, 3, none⟩ (.slice Z3 wq.length z3k) ga NAO.out.1).trans nBKa_.out); replace BKr := zK ((Below.heap_setCell ap ⟨go, 3, none⟩ (.slice Z3 wq.length z3k) gr NAO.out.2).trans nBKr_.out); replace BKo := zK (show (ap.setCell ⟨go, 3, none⟩ (.slice Z3 wq.length z3k)).heap[go]? = some (.cells #[.slice Q0 q0.length q0k, .int .i64 qT, .slice Q2 q2.length q2k, .slice Z3 wq.length z3k] 28 (0, 0)) from blk_put nBKo_.out 3 _ rfl); replace HB := zK (show Below w.heap.size w (ap.setCell ⟨go, 3, none⟩ (.slice Z3 wq.length z3k)) from zS (below_via HB.out AGB.out.1 hb) GEO.out.1.1); have HF := zK (fin_box hF_ nBKo_.out 3 (.slice Z3 wq.length z3k)); replace LP := zK ((LP.out.grow hg (fun k_ hk_ => Nat.le_trans AGB.out.2.1 (hO_ k_ hk_))).far1 (a1 := 3) GEO.out.1.2 (.slice Z3 wq.length z3k)); clear H2 BKw hW_ hO_ ho hb hg hat hF_ nBKa_ nBKr_ nBKo_ hzBKa0 hzBKa1 hzBKa2 hzBKa3 hzBKr0 hzBKr1 hzBKr2 hzBKr3 hzBKo0 hzBKo1 hzBKo2 hzBKo3 hzBKw0 hzBKw1; obtain ⟨hzBKa0, hzBKa1, hzBKa2, hzBKa3⟩ := cells4 BKa.out; obtain ⟨hzBKr0, hzBKr1, hzBKr2, hzBKr3⟩ := cells4 BKr.out; obtain ⟨hzBKo0, hzBKo1, hzBKo2, hzBKo3⟩ := cells4 BKo.out)
                 | ((with_reducible refine gate_callee (f := 23) rfl ?_); refine goesL_ (some 54) rfl rfl Try.func23 (by kernel_rfl) rfl #[.agg #[.slice Q0 q0.length q0k, .int .i64 qT, .slice Q2 q2.length q2k, .slice Z3 wq.length z3k]] rfl zg ?_; (with_reducible refine (spec_LoopOk.calls k _ _ q0 qT _ _ q2 _ _ wq true _ (fin_rd HF.out).2.1 (fin_rd HF.out).1 (fin_rd HF.out).2.2.2.1 (fin_rd HF.out).2.2.1 (fin_rd HF.out).2.2.2.2.2 (fin_rd HF.out).2.2.2.2.1 Ap.out).mono ?_); rintro e w11 ⟨rfl, hb⟩; refine ⟨_, rfl, ?_⟩; replace HB := zK (below_step HB.out hb); replace BKa := zK (blk_below BKa.out hb); replace BKr := zK (blk_below BKr.out hb); replace BKo := zK (blk_below BKo.out hb); replace LP := zK (LP.out.later hb); replace HF := zK (fin_below HF.out hb); clear hyy3 hyf3 hzBKa0 hzBKa1 hzBKa2 hzBKa3 hzBKr0 hzBKr1 hzBKr2 hzBKr3 hzBKo0 hzBKo1 hzBKo2 hzBKo3; clear hb; obtain ⟨hzBKa0, hzBKa1, hzBKa2, hzBKa3⟩ := cells4 BKa.out; obtain ⟨hzBKr0, hzBKr1, hzBKr2, hzBKr3⟩ := cells4 BKr.out; obtain ⟨hzBKo0, hzBKo1, hzBKo2, hzBKo3⟩ := cells4 BKo.out; obtain ⟨ar, au, av, aw⟩ := zF4 BKr)
                 )
               refine bodyPost_ret (results_ct rfl _ _ gr 28 #[.slice Q0 q0.length q0k, .int .i64 qT, .slice Q2 q2.length q2k, .slice Z3 wq.length z3k] (0, 0) _ rfl (blk_put4 BKr.out (.slice Q0 q0.length q0k) (.int .i64 qT) (.slice Q2 q2.length q2k) (.slice Z3 wq.length z3k)) Try.underlying28 rfl (by kernel_rfl)) rfl ?_
               have hF_ := fin_box4 (fin_lower HF.out AGB.out.1) BKr.out (.slice Q0 q0.length q0k) (.int .i64 qT) (.slice Q2 q2.length q2k) (.slice Z3 wq.length z3k)
               exact ⟨_, _, _, rfl, hF_.1, hF_.2.1, hF_.2.2, below_put4 HB.out GER.out.1 (.slice Q0 q0.length q0k) (.int .i64 qT) (.slice Q2 q2.length q2k) (.slice Z3 wq.length z3k)⟩
           · rw [if_neg cw] at Q
             cases Q
   · rw [if_neg cl] at H
     cases H
end Go.Proofs.Ytmjhbdmicejppaa.Px
