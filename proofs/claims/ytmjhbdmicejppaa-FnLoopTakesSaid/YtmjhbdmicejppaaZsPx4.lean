import Derived.Test.YtmjhbdmicejppaaZsPx0
import Derived.Test.YtmjhbdmicejppaaZsPx1
import Derived.Test.YtmjhbdmicejppaaZsPx3
namespace Go.Proofs.Ytmjhbdmicejppaa.Px
open Go.RowKit Go.Proofs.YtmjhbdmicejppaaW.PrintWords Go.Proofs.YtmjhbdmicejppaaW.PrintLast Go.Proofs.YtmjhbdmicejppaaW.PrintMore
attribute [local go_sem] max2_int min2_int max_two min_two max_three min_three max_four min_four   
set_option linter.unusedVariables false
set_option linter.unusedSimpArgs false
def spec_l05Step.l0 : Nat → List Int → Int → List (S69) → List (S74) → Int → Option (List Int × Int × (List (S69)) × (List (S74)))
 | 0, _, _, _, _, _ => none
 | k + 1, tr, tu, ch, wa, i => if i < (ch.length : Int) then (if 0 ≤ i then ((spec_l05Tray.f tr tu ch wa (rd_T69 ch i).f0).bind fun t => (if 0 ≤ t then (if t < (tr.length : Int) then (if rd tr t = 0 then (spec_l05Step.l0 k tr tu ch wa (wrap64 (i + 1))) else ((spec_l05Wants.f k tr tu ch wa (rd tr t) i).bind fun b => (if b = true then (if ((rd_T69 ch i).f2.length : Int) < (rd_T69 ch i).f1 then (if (rd_T69 ch i).f2.length < 17592186044416 then (spec_l05Step.l0 k (tr.set t.toNat 0) tu (ch.set i.toNat ⟨(rd_T69 ch i).f0, (rd_T69 ch i).f1, (rd_T69 ch i).f2 ++ [rd tr t]⟩) wa (wrap64 (i + 1))) else (none)) else (spec_l05Step.l0 k tr tu ch wa (wrap64 (i + 1)))) else (spec_l05Step.l0 k tr tu ch wa (wrap64 (i + 1)))))) else (none)) else (none))) else (none)) else (some (tr, tu, ch, wa))
def spec_l05Step.f (k : Nat) (a : List Int) (b : Int) (c : List (S69)) (d : List (S74)) : Option (List Int × Int × (List (S69)) × (List (S74))) := (spec_l05Copy.f k a b c d).bind fun bt => (if (bt.1.length : Int) = 0 then (none) else (spec_l05Step.l0 k bt.1 (Int.tmod (wrap64 (bt.2.1 + 1)) (bt.1.length : Int)) bt.2.2.1 bt.2.2.2 0))
set_option maxHeartbeats 8000000 in
set_option maxRecDepth 100000 in
theorem spec_l05Step.calls (k : Nat) (ah : Option Addr) (ai : Nat) (ac : List Int) (a0_1 : Int) (aj : Option Addr) (ak : Nat) (ae : List (S69)) (al : Option Addr) (am : Nat) (af : List (S74)) (r1 : List Int) (r2 : Int) (r3 : List (S69)) (r4 : List (S74)) (w : World) (ao : Kd.C (Kd.int .i64) w ah ac.length ac) (hc0_0 : ac.length ≤ ai) (ap : Kd.C k69 w aj ae.length ae) (hc0_2 : ae.length ≤ ak) (aq : Kd.C k74 w al af.length af) (hc0_3 : af.length ≤ am) (h : spec_l05Step.f k ac a0_1 ae af = some (r1, r2, r3, r4)) :
 Calls Try.prog 56 #[.agg #[.slice ah ac.length ai, .int .i64 a0_1, .slice aj ae.length ak, .slice al af.length am]] w fun e w' => ∃ v0_ v2_ v3_ : Value, e = .returned (.agg #[v0_, .int .i64 r2, v2_, v3_]) ∧ Kd.R (Kd.int .i64) 3 w' w.heap.size (fun _ => True) v0_ r1 ∧ Kd.S k69 69 w' w.heap.size (fun k_ => some k_ ≠ (v0_ : Value).ownBlock) v2_ r3 ∧ Kd.S k74 74 w' w.heap.size (fun k_ => some k_ ≠ (v0_ : Value).ownBlock) v3_ r4 ∧ Below w.heap.size w w' := by
 have hu28 := Try.underlying28; have hu69 := Try.underlying69; have HR0 := zK ao; have aC := zK hc0_0; have HR2 := zK ap; have az := zK hc0_2; have HR3 := zK aq; have aD := zK hc0_3; clear ao hc0_0 ap hc0_2 aq hc0_3
 have H := h; unfold spec_l05Step.f at H
 clear h; replace H := Option.bind_eq_some_iff.mp H
 obtain ⟨⟨tr0, tu0, ch0, wa0⟩, A10, H⟩ := H
 have A1 := zK A10; clear A10
 (try dsimp only at H)
 by_cases c3 : (tr0.length : Int) = 0
 ·rw [if_pos c3] at H
  exact absurd H (by simp)
 rw [if_neg c3] at H
 have c3b0 : ((tr0.length : Int) == 0) = false := beq_eq_false_iff_ne.mpr c3
 have c3b1 : ((tr0.length : Int) != 0) = true := bne_iff_ne.mpr c3
 have c3b2 : ¬ (tr0 = []) := fun h_ => c3 (by rw [h_]; rfl)
 have H' := zK H; clear H
 go_enter Try.func56, Try.ntmps56
 go_wp2_with (first | ((with_reducible refine gate_dst (N := 1) rfl ?_); refine zX 1 #[.slice ah ac.length ai, .int .i64 a0_1, .slice aj ae.length ak, .slice al af.length am] 28 ?_; intro g1 hg w1 hbox hb; have HB := zK hb; have ar := zK hbox; clear hb hbox hg) | ((with_reducible refine gate_dst (N := 2) rfl ?_); refine zX 2 #[.slice none 0 0, .int .i64 0, .slice none 0 0, .slice none 0 0] 28 ?_; intro g2 hg w2 hbox hb; have n1 := zK (blk_below ar.out hb); have n2 := zK (below_step HB.out hb); have GE2 := zK (show w.heap.size ≤ g2 from by rw [hg]; exact HB.out.size); clear HB ar; have HB := n2; have ar := n1; clear n1 n2; have aa := zK hbox; clear hb hbox hg; obtain ⟨hz0, hz1, hz2, hz3⟩ := zL4 ar) | ((with_reducible refine gate_callee (f := 68) rfl ?_); refine goesL_ (some 8) rfl rfl Try.func68 (by kernel_rfl) rfl #[.agg #[.slice ah ac.length ai, .int .i64 a0_1, .slice aj ae.length ak, .slice al af.length am]] rfl zg ?_; (with_reducible refine (spec_l05Copy.calls2 k _ _ ac a0_1 _ _ ae _ _ af tr0 tu0 ch0 wa0 _ ?side1 aC.out ?side3 az.out ?side5 aD.out A1.out).mono ?_); (case side1 => exact zs (Kd.C_below HR0.out HB.out)); (case side3 => exact zs (Kd.C_below HR2.out HB.out)); (case side5 => exact zs (Kd.C_below HR3.out HB.out)); rintro e w3 ⟨v0, v2, v3, N_, rfl, ho0, ho2, ho3, hN, hb⟩; refine ⟨_, rfl, ?_⟩; have hB_ : Below w.heap.size w _ := (by repeat (first | exact HB.out | apply zB | apply zC | apply zE)); obtain ⟨PW, hL⟩ := LoopMem.mk (Kd.R_lower ho0 (below_size hB_)) (Kd.S_lower ho2 (below_size hB_)) ho3 (Nat.le_trans (below_size hB_) hN); have HL := zK hL; replace aa := zK (blk_below (zk aa) hb); replace HB := zK (below_step hB_ hb); clear ar hb ho0 ho2 ho3 hN hB_ hL; obtain ⟨B0, d0, B2, d2, B3, d3, rfl, rfl, rfl, l0_, l2_, l3_, _, _, _⟩ := HL.out.reads; clear l0_ l2_ l3_) | ((with_reducible refine gate_dst (N := 3) rfl ?_); refine zX 3 #[.slice none 0 0, .int .i64 0, .slice none 0 0, .slice none 0 0] 28 ?_; intro g3 hg w4 hbox hb; have hB_ : Below w.heap.size w _ := (by repeat (first | exact HB.out | apply zB | apply zC | apply zE)); have n1 := zK (blk_below (zk aa) hb); have NB := zK (show g2 ≠ g3 from by rw [hg]; exact Nat.ne_of_lt (blk_lt (zk aa))); have n2 := zK (below_step hB_ hb); have aE := zK (show w.heap.size ≤ g3 from by rw [hg]; exact hB_.size); have n3 := zK (LoopMem.below (by repeat (first | exact HL.out | refine LoopMem.below ?_ (zB (Below.refl _ _) _) | refine LoopMem.below ?_ (zC (Below.refl _ _) _) | refine LoopMem.below ?_ (below_drew (Below.refl _ _)))) hb); clear HB aa HL; have HB := n2; have aa := n1; have HL := n3; clear n1 n2 n3 hB_; have ab := zK hbox; clear hb hbox hg; obtain ⟨av, aw, ax, ay⟩ := zL4 ab; obtain ⟨hf0, hf1, hf2, hf3⟩ := zF4 ab))
 have BK3' : ((((((w4.setCell ⟨g3, 0, none⟩ (.slice B0 tr0.length d0)).setCell ⟨g3, 1, none⟩ (.int .i64 tu0)).setCell ⟨g3, 2, none⟩ (.slice B2 ch0.length d2)).setCell ⟨g3, 3, none⟩ (.slice B3 wa0.length d3)).setCell ⟨g3, 1, none⟩ (.int .i64 (Int.tmod (wrap64 (tu0 + 1)) (tr0.length : Int))))).heap[g3]? = some (.cells #[.slice B0 tr0.length d0, .int .i64 (Int.tmod (wrap64 (tu0 + 1)) (tr0.length : Int)), .slice B2 ch0.length d2, .slice B3 wa0.length d3] 28 (0, 0)) := blk_put (blk_put (blk_put (blk_put (blk_put ab.out 0 _ rfl) 1 _ rfl) 2 _ rfl) 3 _ rfl) 1 _ rfl
 have b0 := blk_put ab.out 0 (.slice B0 tr0.length d0) rfl
 have b1 := blk_put b0 1 (.int .i64 tu0) rfl
 have b2 := blk_put b1 2 (.slice B2 ch0.length d2) rfl
 have b3 := blk_put b2 3 (.slice B3 wa0.length d3) rfl
 replace HL := zK (((((HL.out.box ab.out 0 (.slice B0 tr0.length d0)).box b0 1 (.int .i64 tu0)).box b1 2 (.slice B2 ch0.length d2)).box b2 3 (.slice B3 wa0.length d3)).box b3 1 (.int .i64 (Int.tmod (wrap64 (tu0 + 1)) (tr0.length : Int)))); replace aa := zK (blk_far (p := ⟨g3, 1, none⟩) (blk_far (p := ⟨g3, 3, none⟩) (blk_far (p := ⟨g3, 2, none⟩) (blk_far (p := ⟨g3, 1, none⟩) (blk_far (p := ⟨g3, 0, none⟩) aa.out NB.out (.slice B0 tr0.length d0)) NB.out (.int .i64 tu0)) NB.out (.slice B2 ch0.length d2)) NB.out (.slice B3 wa0.length d3)) NB.out (.int .i64 (Int.tmod (wrap64 (tu0 + 1)) (tr0.length : Int)))); replace HB := zK (zS (j := 1) (v := .int .i64 (Int.tmod (wrap64 (tu0 + 1)) (tr0.length : Int))) (zS (j := 3) (v := .slice B3 wa0.length d3) (zS (j := 2) (v := .slice B2 ch0.length d2) (zS (j := 1) (v := .int .i64 tu0) (zS (j := 0) (v := .slice B0 tr0.length d0) HB.out aE.out) aE.out) aE.out) aE.out) aE.out); clear b0 b1 b2 b3 hz0 hz1 hz2 hz3 av aw ax ay hf0 hf1 hf2 hf3 c3b0 c3b1 c3b2 ab; have ab := zK BK3'; clear BK3'
 generalize Int.tmod (wrap64 (tu0 + 1)) (tr0.length : Int) = T at H' HL aa ab HB ⊢
 generalize Value.slice B0 tr0.length d0 = V0 at HL aa ab HB ⊢
 generalize Value.slice B2 ch0.length d2 = V2 at HL aa ab HB ⊢
 generalize Value.slice B3 wa0.length d3 = V3 at HL aa ab HB ⊢
 go_loopg [4] k (fun kq v4 w' => ∃ (i : Int) (tr : List Int) (ch : List S69), v4 = .int .i64 i ∧ Aside0 (spec_l05Step.l0 kq tr T ch wa0 i = some (r1, r2, r3, r4)) ∧ Aside0 (kq ≤ k) ∧ Aside0 (LoopMem w.heap.size w' PW V0 tr V2 ch V3 wa0) ∧ Aside0 (w'.heap[g2]? = some (.cells #[.slice none 0 0, .int .i64 0, .slice none 0 0, .slice none 0 0] 28 (0, 0))) ∧ Aside0 (w'.heap[g3]? = some (.cells #[V0, .int .i64 T, V2, V3] 28 (0, 0))) ∧ Aside0 (Below w.heap.size w w'))
 case atStart => exact ⟨0, tr0, ch0, rfl, H', ⟨Nat.le_refl _⟩, HL, aa, ab, HB⟩
 case round =>
 clear H' HL aa ab HB
 obtain ⟨i, tr, ch, rfl, HA, au, HL, aa, ab, HB⟩ := hrel
 cases gk with
 | zero => exact absurd HA.out (by simp [spec_l05Step.l0])
 | succ k1 =>
  have H := HA.out; clear HA
  simp only [spec_l05Step.l0] at H
  obtain ⟨B0', d0', B2', d2', B3', d3', e0, e2, e3, L0, L2, L3, C0, C2, C3⟩ := HL.out.reads
  subst e0 e2 e3
  obtain ⟨hz0, hz1, hz2, hz3⟩ := zL4 ab
  by_cases c1 : i < (ch.length : Int)
  ·rw [if_pos c1] at H
   have c1b : decide (i < (ch.length : Int)) = true := decide_eq_true c1
   by_cases c2 : 0 ≤ i
   ·rw [if_pos c2] at H
    replace H := Option.bind_eq_some_iff.mp H
    obtain ⟨t, A60, H⟩ := H
    have A6 := zK A60; clear A60; have H' := zK H; clear H; have aC := zK C0; have az := zK C2; have aD := zK C3; have HL0 := zK L0; have HL2 := zK L2; have HL3 := zK L3; clear C0 C2 C3 L0 L2 L3
    obtain ⟨ad, A5, c5, e, hx0, hx1, hx2, hl5, hi5⟩ := at_T69 az.out i c2 c1
    cases e
    have p1 := eq_true c2
    have q1 : (i < ((ch.length : Nat) : Int)) = True := eq_true c1
    go_wp2
    refine start_ (n := 9) (S := fun w' => w'.cell? ⟨g3, 0, none⟩ = some (.slice B0' tr.length d0') ∧ w'.cell? ⟨g3, 1, none⟩ = some (.int .i64 T) ∧ w'.cell? ⟨g3, 2, none⟩ = some (.slice (some ad) ch.length d2') ∧ w'.cell? ⟨g3, 3, none⟩ = some (.slice B3' wa0.length d3') ∧ w'.cell? (ad.add (i.toNat * 3)) = some (.int .i64 (rd_T69 ch i).f0)) (ds := []) (zv 9 0) (by kernel_rfl) rfl rfl ⟨hz0, hz1, hz2, hz3, hx0⟩ (fun hHeld => ?_)
    refine zu 1 (some 25) (zv 9 2) (by kernel_rfl) ?_
    refine zu 3 (some 27) (zv 9 10) (by kernel_rfl) ?_
    refine zt 0 (some 24) (zv 9 11) (by kernel_rfl) hHeld ?_
    refine zt 2 (some 26) (zv 9 15) (by kernel_rfl) hHeld ?_
    refine zu 4 (some 28) (zv 9 31) (by kernel_rfl) ?_
    refine zu 5 (some 29) (zv 9 63) (by kernel_rfl) ?_
    refine zt 6 (some 30) (zv 9 127) (by kernel_rfl) hHeld ?_
    refine one_ (i := 7) (N := some 31) (zv 9 255) rfl rfl (by kernel_rfl) (by decide) (fun K hK => ?_)
    refine goes_ Try.func77 (by kernel_rfl) rfl #[.agg #[.slice B0' tr.length d0', .int .i64 T, .slice (some ad) ch.length d2', .slice B3' wa0.length d3'], .int .i64 (rd_T69 ch i).f0] (by rfl) rfl rfl (by simp only [List.map_toArray, List.map_cons, List.map_nil]; rfl) ?_
    with_reducible refine (spec_l05Tray.calls B0' d0' tr T (some ad) d2' ch B3' d3' wa0 (rd_T69 ch i).f0 t _ (Kd.C_drew aC.out) HL0.out (Kd.C_drew az.out) HL2.out (Kd.C_drew aD.out) HL3.out A6.out).mono ?_
    rintro e w5 ⟨rfl, hb5⟩
    refine ⟨_, rfl, ?_⟩
    refine hK.out _ _ ⟨pw_cell_below hb5 hHeld.1, pw_cell_below hb5 hHeld.2.1, pw_cell_below hb5 hHeld.2.2.1, pw_cell_below hb5 hHeld.2.2.2.1, pw_cell_below hb5 hHeld.2.2.2.2⟩ (fun hHeld => ?_)
    clear hK K
    refine norm_ (a' := ?_) ?_ ?_
    rotate_left
    ·show Act.put _ (some 31) _ = _
     simp only [Act.put, zp, zq, zr, i64_w, i32_w]
     rfl
    refine zu 8 (some 5) (zv 9 511) (by kernel_rfl) ?_
    refine done_ (by kernel_rfl) ?_
    have hbr : Below wr.heap.size wr w5 := below_then (below_drew (Below.refl _ _)) (Nat.le_refl _) hb5
    have aG := zK (HL.out.below hbr)
    have an := zK (blk_below aa.out hbr)
    have ag := zK (blk_below ab.out hbr)
    have HB5 := zK (below_step HB.out hbr)
    have C05 := zK (Kd.C_below aC.out hbr)
    have C25 := zK (Kd.C_below az.out hbr)
    have C35 := zK (Kd.C_below aD.out hbr)
    obtain ⟨av, aw, ax, ay⟩ := zL4 ag
    have hw1 := pw_cell_below hbr hx1; have hw2 := pw_cell_below hbr hx2; have H := H'.out; clear H' hb5 hbr hz0 hz1 hz2 hz3 hx0 hx1 hx2 HL aa ab HB aC az aD
    by_cases c4 : 0 ≤ t
    ·rw [if_pos c4] at H
     by_cases c5h : t < (tr.length : Int)
     ·rw [if_pos c5h] at H
      have H' := zK H; clear H
      obtain ⟨gT, eT, hbT, _, hcT, hfT, hLT⟩ := aG.out.tray t c4 c5h 0
      cases eT
      have HBT := zK hbT; clear hbT hfT hLT; have p5 := eq_true c4
      have q5 : (t < ((tr.length : Nat) : Int)) = True := eq_true c5h
      go_wp2
      have H := H'.out; clear H'
      by_cases c6 : rd tr t = 0
      ·rw [if_pos c6] at H
       have c6a : (rd tr t == 0) = true := beq_iff_eq.mpr c6
       have c6b : (rd tr t != 0) = false := by rw [bne, c6a]; rfl
       have H' := zK H; clear H
       refine start_ (n := 24) (S := fun w' => w'.cell? ⟨g3, 0, none⟩ = some (.slice (some ⟨gT, 0, none⟩) tr.length d0') ∧ w'.cell? ⟨g3, 1, none⟩ = some (.int .i64 T) ∧ w'.cell? ⟨g3, 2, none⟩ = some (.slice (some ad) ch.length d2') ∧ w'.cell? ⟨g3, 3, none⟩ = some (.slice B3' wa0.length d3') ∧ w'.cell? ⟨(ad.add (i.toNat * 3)).block, (ad.add (i.toNat * 3)).off + 1, none⟩ = some (.int .i64 (rd_T69 ch i).f1) ∧ w'.cell? ⟨(ad.add (i.toNat * 3)).block, (ad.add (i.toNat * 3)).off + 2, none⟩ = some (.slice A5 (rd_T69 ch i).f2.length c5)) (ds := []) (zv 24 0) (by kernel_rfl) rfl rfl ⟨av, aw, ax, ay, hw1, hw2⟩ (fun hHeld => ?_)
       refine zu 0 (some 37) (zv 24 1) (by kernel_rfl) ?_
       refine zu 1 (some 38) (zv 24 3) (by kernel_rfl) ?_
       refine zu 2 (some 39) (zv 24 7) (by kernel_rfl) ?_
       refine pure_ (i := 3) (N := some 40) (v := undef) (a' := ?_) (zv 24 15) rfl rfl (by kernel_rfl) (fun _ _ _ h => h) (Or.inr ⟨by rfl, rfl⟩) ?_ ?_
       rotate_left
       ·simp only [Act.put, zp, zq, zr, i64_w, i32_w]
        rfl
       refine pure_ (i := 4) (N := some 41) (v := undef) (a' := ?_) (zv 24 31) rfl rfl (by kernel_rfl) (fun _ _ _ h => h) (Or.inr ⟨by rfl, rfl⟩) ?_ ?_
       rotate_left
       ·simp only [Act.put, zp, zq, zr, i64_w, i32_w]
        rfl
       refine pure_ (i := 5) (N := some 42) (v := undef) (a' := ?_) (zv 24 63) rfl rfl (by kernel_rfl) (fun _ _ _ h => h) (Or.inr ⟨by rfl, rfl⟩) ?_ ?_
       rotate_left
       ·simp only [Act.put, zp, zq, zr, i64_w, i32_w]
        rfl
       refine pure_ (i := 6) (N := some 43) (v := undef) (a' := ?_) (zv 24 127) rfl rfl (by kernel_rfl) (fun _ _ _ h => h) (Or.inr ⟨by rfl, rfl⟩) ?_ ?_
       rotate_left
       ·simp only [Act.put, zp, zq, zr, i64_w, i32_w]
        rfl
       refine zu 7 (some 44) (zv 24 255) (by kernel_rfl) ?_
       refine zu 8 (some 45) (zv 24 511) (by kernel_rfl) ?_
       refine pure_ (i := 9) (N := some 46) (v := undef) (a' := ?_) (zv 24 1023) rfl rfl (by kernel_rfl) (fun _ _ _ h => h) (Or.inr ⟨by rfl, rfl⟩) ?_ ?_
       rotate_left
       ·simp only [Act.put, zp, zq, zr, i64_w, i32_w]
        rfl
       refine pure_ (i := 10) (N := some 47) (v := undef) (a' := ?_) (zv 24 2047) rfl rfl (by kernel_rfl) (fun _ _ _ h => h) (Or.inr ⟨by rfl, rfl⟩) ?_ ?_
       rotate_left
       ·simp only [Act.put, zp, zq, zr, i64_w, i32_w]
        rfl
       refine pure_ (i := 11) (N := some 48) (v := undef) (a' := ?_) (zv 24 4095) rfl rfl (by kernel_rfl) (fun _ _ _ h => h) (Or.inr ⟨by rfl, rfl⟩) ?_ ?_
       rotate_left
       ·simp only [Act.put, zp, zq, zr, i64_w, i32_w]
        rfl
       refine pure_ (i := 12) (N := some 49) (v := undef) (a' := ?_) (zv 24 8191) rfl rfl (by kernel_rfl) (fun _ _ _ h => h) (Or.inr ⟨by rfl, rfl⟩) ?_ ?_
       rotate_left
       ·simp only [Act.put, zp, zq, zr, i64_w, i32_w]
        rfl
       refine pure_ (i := 13) (N := some 50) (v := undef) (a' := ?_) (zv 24 16383) rfl rfl (by kernel_rfl) (fun _ _ _ h => h) (Or.inr ⟨by rfl, rfl⟩) ?_ ?_
       rotate_left
       ·simp only [Act.put, zp, zq, zr, i64_w, i32_w]
        rfl
       refine pure_ (i := 14) (N := some 51) (v := undef) (a' := ?_) (zv 24 32767) rfl rfl (by kernel_rfl) (fun _ _ _ h => h) (Or.inr ⟨by rfl, rfl⟩) ?_ ?_
       rotate_left
       ·simp only [Act.put, zp, zq, zr, i64_w, i32_w]
        rfl
       refine pure_ (i := 15) (N := some 52) (v := undef) (a' := ?_) (zv 24 65535) rfl rfl (by kernel_rfl) (fun _ _ _ h => h) (Or.inr ⟨by rfl, rfl⟩) ?_ ?_
       rotate_left
       ·simp only [Act.put, zp, zq, zr, i64_w, i32_w]
        rfl
       refine pure_ (i := 16) (N := some 53) (v := undef) (a' := ?_) (zv 24 131071) rfl rfl (by kernel_rfl) (fun _ _ _ h => h) (Or.inr ⟨by rfl, rfl⟩) ?_ ?_
       rotate_left
       ·simp only [Act.put, zp, zq, zr, i64_w, i32_w]
        rfl
       refine pure_ (i := 17) (N := some 54) (v := undef) (a' := ?_) (zv 24 262143) rfl rfl (by kernel_rfl) (fun _ _ _ h => h) (Or.inr ⟨by rfl, rfl⟩) ?_ ?_
       rotate_left
       ·simp only [Act.put, zp, zq, zr, i64_w, i32_w]
        rfl
       refine pure_ (i := 18) (N := some 55) (v := undef) (a' := ?_) (zv 24 524287) rfl rfl (by kernel_rfl) (fun _ _ _ h => h) (Or.inr ⟨by rfl, rfl⟩) ?_ ?_
       rotate_left
       ·simp only [Act.put, zp, zq, zr, i64_w, i32_w]
        rfl
       refine pure_ (i := 19) (N := some 56) (v := undef) (a' := ?_) (zv 24 1048575) rfl rfl (by kernel_rfl) (fun _ _ _ h => h) (Or.inr ⟨by rfl, rfl⟩) ?_ ?_
       rotate_left
       ·simp only [Act.put, zp, zq, zr, i64_w, i32_w]
        rfl
       refine pure_ (i := 20) (N := some 57) (v := undef) (a' := ?_) (zv 24 2097151) rfl rfl (by kernel_rfl) (fun _ _ _ h => h) (Or.inr ⟨by rfl, rfl⟩) ?_ ?_
       rotate_left
       ·simp only [Act.put, zp, zq, zr, i64_w, i32_w]
        rfl
       refine pure_ (i := 21) (N := some 58) (v := undef) (a' := ?_) (zv 24 4194303) rfl rfl (by kernel_rfl) (fun _ _ _ h => h) (Or.inr ⟨by rfl, rfl⟩) ?_ ?_
       rotate_left
       ·simp only [Act.put, zp, zq, zr, i64_w, i32_w]
        rfl
       refine pure_ (i := 22) (N := some 59) (v := undef) (a' := ?_) (zv 24 8388607) rfl rfl (by kernel_rfl) (fun _ _ _ h => h) (Or.inr ⟨by rfl, rfl⟩) ?_ ?_
       rotate_left
       ·simp only [Act.put, zp, zq, zr, i64_w, i32_w]
        rfl
       refine zu 23 (some 60) (zv 24 16777215) (by kernel_rfl) ?_
       refine done_ (by kernel_rfl) ?_
       have hbr : Below w5.heap.size w5 w5.drew := below_drew (Below.refl _ _)
       go_wp2
       go_roundg k1
       case measure => have := au.out; omega
       case rel => exact ⟨wrap64 (i + 1), tr, ch, rfl, H', ⟨by have := au.out; omega⟩, ⟨aG.out.below hbr⟩, ⟨blk_below an.out hbr⟩, ⟨blk_below ag.out hbr⟩, ⟨below_step HB5.out hbr⟩⟩
      ·rw [if_neg c6] at H
       have c6a : (rd tr t == 0) = false := beq_eq_false_iff_ne.mpr c6
       have c6b : (rd tr t != 0) = true := bne_iff_ne.mpr c6
       replace H := Option.bind_eq_some_iff.mp H
       obtain ⟨b, A70, H⟩ := H
       have A7 := zK A70; clear A70; have H' := zK H; clear H
       cases b with
       | false =>
        refine start_ (n := 24) (S := fun w' => w'.cell? ⟨g3, 0, none⟩ = some (.slice (some ⟨gT, 0, none⟩) tr.length d0') ∧ w'.cell? ⟨g3, 1, none⟩ = some (.int .i64 T) ∧ w'.cell? ⟨g3, 2, none⟩ = some (.slice (some ad) ch.length d2') ∧ w'.cell? ⟨g3, 3, none⟩ = some (.slice B3' wa0.length d3') ∧ w'.cell? ⟨(ad.add (i.toNat * 3)).block, (ad.add (i.toNat * 3)).off + 1, none⟩ = some (.int .i64 (rd_T69 ch i).f1) ∧ w'.cell? ⟨(ad.add (i.toNat * 3)).block, (ad.add (i.toNat * 3)).off + 2, none⟩ = some (.slice A5 (rd_T69 ch i).f2.length c5)) (ds := []) (zv 24 0) (by kernel_rfl) rfl rfl ⟨av, aw, ax, ay, hw1, hw2⟩ (fun hHeld => ?_)
        refine zu 0 (some 37) (zv 24 1) (by kernel_rfl) ?_
        refine zu 1 (some 38) (zv 24 3) (by kernel_rfl) ?_
        refine zu 2 (some 39) (zv 24 7) (by kernel_rfl) ?_
        refine zu 4 (some 41) (zv 24 23) (by kernel_rfl) ?_
        refine zu 5 (some 42) (zv 24 55) (by kernel_rfl) ?_
        refine zt 3 (some 40) (zv 24 63) (by kernel_rfl) hHeld ?_
        refine one_ (i := 6) (N := some 43) (zv 24 127) rfl rfl (by kernel_rfl) (by decide) (fun K hK => ?_)
        refine goes_ Try.func91 (by kernel_rfl) rfl #[.agg #[.slice (some ⟨gT, 0, none⟩) tr.length d0', .int .i64 T, .slice (some ad) ch.length d2', .slice B3' wa0.length d3'], .int .i64 (rd tr t), .int .i64 i] (by rfl) rfl rfl (by simp only [List.map_toArray, List.map_cons, List.map_nil]; rfl) ?_
        with_reducible refine (spec_l05Wants.calls k1 (some ⟨gT, 0, none⟩) d0' tr T (some ad) d2' ch B3' d3' wa0 (rd tr t) i false _ (Kd.C_drew C05.out) HL0.out (Kd.C_drew C25.out) HL2.out (Kd.C_drew C35.out) HL3.out A7.out).mono ?_
        rintro e w6 ⟨rfl, hb6⟩
        refine ⟨_, rfl, ?_⟩
        refine hK.out _ _ ⟨pw_cell_below hb6 hHeld.1, pw_cell_below hb6 hHeld.2.1, pw_cell_below hb6 hHeld.2.2.1, pw_cell_below hb6 hHeld.2.2.2.1, pw_cell_below hb6 hHeld.2.2.2.2.1, pw_cell_below hb6 hHeld.2.2.2.2.2⟩ (fun hHeld => ?_)
        clear hK K
        refine norm_ (a' := ?_) ?_ ?_
        rotate_left
        ·show Act.put _ (some 43) _ = _
         simp only [Act.put, zp, zq, zr, i64_w, i32_w]
         rfl
        refine zu 7 (some 44) (zv 24 255) (by kernel_rfl) ?_
        refine zu 8 (some 45) (zv 24 511) (by kernel_rfl) ?_
        refine pure_ (i := 9) (N := some 46) (v := undef) (a' := ?_) (zv 24 1023) rfl rfl (by kernel_rfl) (fun _ _ _ h => h) (Or.inr ⟨by rfl, rfl⟩) ?_ ?_
        rotate_left
        ·simp only [Act.put, zp, zq, zr, i64_w, i32_w]
         rfl
        refine pure_ (i := 10) (N := some 47) (v := undef) (a' := ?_) (zv 24 2047) rfl rfl (by kernel_rfl) (fun _ _ _ h => h) (Or.inr ⟨by rfl, rfl⟩) ?_ ?_
        rotate_left
        ·simp only [Act.put, zp, zq, zr, i64_w, i32_w]
         rfl
        refine pure_ (i := 11) (N := some 48) (v := undef) (a' := ?_) (zv 24 4095) rfl rfl (by kernel_rfl) (fun _ _ _ h => h) (Or.inr ⟨by rfl, rfl⟩) ?_ ?_
        rotate_left
        ·simp only [Act.put, zp, zq, zr, i64_w, i32_w]
         rfl
        refine pure_ (i := 12) (N := some 49) (v := undef) (a' := ?_) (zv 24 8191) rfl rfl (by kernel_rfl) (fun _ _ _ h => h) (Or.inr ⟨by rfl, rfl⟩) ?_ ?_
        rotate_left
        ·simp only [Act.put, zp, zq, zr, i64_w, i32_w]
         rfl
        refine pure_ (i := 13) (N := some 50) (v := undef) (a' := ?_) (zv 24 16383) rfl rfl (by kernel_rfl) (fun _ _ _ h => h) (Or.inr ⟨by rfl, rfl⟩) ?_ ?_
        rotate_left
        ·simp only [Act.put, zp, zq, zr, i64_w, i32_w]
         rfl
        refine pure_ (i := 14) (N := some 51) (v := undef) (a' := ?_) (zv 24 32767) rfl rfl (by kernel_rfl) (fun _ _ _ h => h) (Or.inr ⟨by rfl, rfl⟩) ?_ ?_
        rotate_left
        ·simp only [Act.put, zp, zq, zr, i64_w, i32_w]
         rfl
        refine pure_ (i := 15) (N := some 52) (v := undef) (a' := ?_) (zv 24 65535) rfl rfl (by kernel_rfl) (fun _ _ _ h => h) (Or.inr ⟨by rfl, rfl⟩) ?_ ?_
        rotate_left
        ·simp only [Act.put, zp, zq, zr, i64_w, i32_w]
         rfl
        refine pure_ (i := 16) (N := some 53) (v := undef) (a' := ?_) (zv 24 131071) rfl rfl (by kernel_rfl) (fun _ _ _ h => h) (Or.inr ⟨by rfl, rfl⟩) ?_ ?_
        rotate_left
        ·simp only [Act.put, zp, zq, zr, i64_w, i32_w]
         rfl
        refine pure_ (i := 17) (N := some 54) (v := undef) (a' := ?_) (zv 24 262143) rfl rfl (by kernel_rfl) (fun _ _ _ h => h) (Or.inr ⟨by rfl, rfl⟩) ?_ ?_
        rotate_left
        ·simp only [Act.put, zp, zq, zr, i64_w, i32_w]
         rfl
        refine pure_ (i := 18) (N := some 55) (v := undef) (a' := ?_) (zv 24 524287) rfl rfl (by kernel_rfl) (fun _ _ _ h => h) (Or.inr ⟨by rfl, rfl⟩) ?_ ?_
        rotate_left
        ·simp only [Act.put, zp, zq, zr, i64_w, i32_w]
         rfl
        refine pure_ (i := 19) (N := some 56) (v := undef) (a' := ?_) (zv 24 1048575) rfl rfl (by kernel_rfl) (fun _ _ _ h => h) (Or.inr ⟨by rfl, rfl⟩) ?_ ?_
        rotate_left
        ·simp only [Act.put, zp, zq, zr, i64_w, i32_w]
         rfl
        refine pure_ (i := 20) (N := some 57) (v := undef) (a' := ?_) (zv 24 2097151) rfl rfl (by kernel_rfl) (fun _ _ _ h => h) (Or.inr ⟨by rfl, rfl⟩) ?_ ?_
        rotate_left
        ·simp only [Act.put, zp, zq, zr, i64_w, i32_w]
         rfl
        refine pure_ (i := 21) (N := some 58) (v := undef) (a' := ?_) (zv 24 4194303) rfl rfl (by kernel_rfl) (fun _ _ _ h => h) (Or.inr ⟨by rfl, rfl⟩) ?_ ?_
        rotate_left
        ·simp only [Act.put, zp, zq, zr, i64_w, i32_w]
         rfl
        refine pure_ (i := 22) (N := some 59) (v := undef) (a' := ?_) (zv 24 8388607) rfl rfl (by kernel_rfl) (fun _ _ _ h => h) (Or.inr ⟨by rfl, rfl⟩) ?_ ?_
        rotate_left
        ·simp only [Act.put, zp, zq, zr, i64_w, i32_w]
         rfl
        refine zu 23 (some 60) (zv 24 16777215) (by kernel_rfl) ?_
        refine done_ (by kernel_rfl) ?_
        have hbr : Below w5.heap.size w5 w6 := below_then (below_drew (Below.refl _ _)) (Nat.le_refl _) hb6
        have n1 := zK (aG.out.below hbr)
        have n2 := zK (blk_below an.out hbr)
        have n3 := zK (blk_below ag.out hbr)
        have n4 := zK (below_step HB5.out hbr)
        have H2 := zK (show spec_l05Step.l0 k1 tr T ch wa0 (wrap64 (i + 1)) = some (r1, r2, r3, r4) from by have h_ := H'.out; rwa [if_neg (by simp)] at h_)
        go_wp2
        go_roundg k1
        case measure => have := au.out; omega
        case rel => exact ⟨wrap64 (i + 1), tr, ch, rfl, H2, ⟨by have := au.out; omega⟩, n1, n2, n3, n4⟩
       | true =>
        have H := H'.out; clear H'
        rw [if_pos rfl] at H
        by_cases c8 : ((rd_T69 ch i).f2.length : Int) < (rd_T69 ch i).f1
        ·rw [if_pos c8] at H
         have c8b : decide (((rd_T69 ch i).f2.length : Int) < (rd_T69 ch i).f1) = true := decide_eq_true c8
         by_cases c9 : (rd_T69 ch i).f2.length < 17592186044416
         ·rw [if_pos c9] at H
          have H' := zK H; clear H
          refine start_ (n := 24) (S := fun w' => w'.cell? ⟨g3, 0, none⟩ = some (.slice (some ⟨gT, 0, none⟩) tr.length d0') ∧ w'.cell? ⟨g3, 1, none⟩ = some (.int .i64 T) ∧ w'.cell? ⟨g3, 2, none⟩ = some (.slice (some ad) ch.length d2') ∧ w'.cell? ⟨g3, 3, none⟩ = some (.slice B3' wa0.length d3') ∧ w'.cell? ⟨(ad.add (i.toNat * 3)).block, (ad.add (i.toNat * 3)).off + 1, none⟩ = some (.int .i64 (rd_T69 ch i).f1) ∧ w'.cell? ⟨(ad.add (i.toNat * 3)).block, (ad.add (i.toNat * 3)).off + 2, none⟩ = some (.slice A5 (rd_T69 ch i).f2.length c5)) (ds := []) (zv 24 0) (by kernel_rfl) rfl rfl ⟨av, aw, ax, ay, hw1, hw2⟩ (fun hHeld => ?_)
          refine zu 0 (some 37) (zv 24 1) (by kernel_rfl) ?_
          refine zu 1 (some 38) (zv 24 3) (by kernel_rfl) ?_
          refine zu 2 (some 39) (zv 24 7) (by kernel_rfl) ?_
          refine zu 4 (some 41) (zv 24 23) (by kernel_rfl) ?_
          refine zu 5 (some 42) (zv 24 55) (by kernel_rfl) ?_
          refine zt 3 (some 40) (zv 24 63) (by kernel_rfl) hHeld ?_
          refine one_ (i := 6) (N := some 43) (zv 24 127) rfl rfl (by kernel_rfl) (by decide) (fun K hK => ?_)
          refine goes_ Try.func91 (by kernel_rfl) rfl #[.agg #[.slice (some ⟨gT, 0, none⟩) tr.length d0', .int .i64 T, .slice (some ad) ch.length d2', .slice B3' wa0.length d3'], .int .i64 (rd tr t), .int .i64 i] (by rfl) rfl rfl (by simp only [List.map_toArray, List.map_cons, List.map_nil]; rfl) ?_
          with_reducible refine (spec_l05Wants.calls k1 (some ⟨gT, 0, none⟩) d0' tr T (some ad) d2' ch B3' d3' wa0 (rd tr t) i true _ (Kd.C_drew C05.out) HL0.out (Kd.C_drew C25.out) HL2.out (Kd.C_drew C35.out) HL3.out A7.out).mono ?_
          rintro e w6 ⟨rfl, hb6⟩
          refine ⟨_, rfl, ?_⟩
          refine hK.out _ _ ⟨pw_cell_below hb6 hHeld.1, pw_cell_below hb6 hHeld.2.1, pw_cell_below hb6 hHeld.2.2.1, pw_cell_below hb6 hHeld.2.2.2.1, pw_cell_below hb6 hHeld.2.2.2.2.1, pw_cell_below hb6 hHeld.2.2.2.2.2⟩ (fun hHeld => ?_)
          clear hK K
          refine norm_ (a' := ?_) ?_ ?_
          rotate_left
          ·show Act.put _ (some 43) _ = _
           simp only [Act.put, zp, zq, zr, i64_w, i32_w]
           rfl
          refine zu 7 (some 44) (zv 24 255) (by kernel_rfl) ?_
          refine zu 8 (some 45) (zv 24 511) (by kernel_rfl) ?_
          refine zu 9 (some 46) (zv 24 1023) (by kernel_rfl) ?_
          refine zu 11 (some 48) (zv 24 3071) (by kernel_rfl) ?_
          refine zu 16 (some 53) (zv 24 68607) (by kernel_rfl) ?_
          refine zu 18 (some 55) (zv 24 330751) (by kernel_rfl) ?_
          refine zt 10 (some 47) (zv 24 331775) (by kernel_rfl) hHeld ?_
          refine zu 12 (some 49) (zv 24 335871) (by kernel_rfl) ?_
          refine zu 13 (some 50) (zv 24 344063) (by kernel_rfl) ?_
          refine zt 14 (some 51) (zv 24 360447) (by kernel_rfl) hHeld ?_
          refine zu 15 (some 52) (zv 24 393215) (by kernel_rfl) ?_
          refine zt 17 (some 54) (zv 24 524287) (by kernel_rfl) hHeld ?_
          refine zu 19 (some 56) (zv 24 1048575) (by kernel_rfl) ?_
          refine zu 20 (some 57) (zv 24 2097151) (by kernel_rfl) ?_
          refine zt 21 (some 58) (zv 24 4194303) (by kernel_rfl) hHeld ?_
          refine zu 22 (some 59) (zv 24 8388607) (by kernel_rfl) ?_
          refine zu 23 (some 60) (zv 24 16777215) (by kernel_rfl) ?_
          refine done_ (by kernel_rfl) ?_
          have hbr : Below w5.heap.size w5 w6 := below_then (below_drew (Below.refl _ _)) (Nat.le_refl _) hb6
          have n1 := zK (aG.out.below hbr)
          have n2 := zK (blk_below an.out hbr)
          have n3 := zK (blk_below ag.out hbr)
          have n4 := zK (below_step HB5.out hbr)
          clear hb6
          go_wp2
          have hd : Below w6.heap.size w6 w6.drew := below_drew (Below.refl _ _)
          have hLd := n1.out.below hd
          obtain ⟨gC, A8, c8_, oki, eC, hbC, htC, hgC, hR8, aH, hok8, hH8⟩ := hLd.lend i c2 c1
          cases eC
          have HLd := zK hLd; have HBC := zK hbC; have HTC := zK htC; have HGC := zK hgC; have aA := zK hR8; have HFR8 := zK aH; have HOK8 := zK hok8; have HH8 := zK hH8; have HL9 := zK c9
          have hu0 : w6.cell? ⟨g3, 2, none⟩ = some (.slice (some ⟨gC, 0, none⟩) ch.length d2') := (blk_cell n3.out 2).trans rfl
          have hu1 : w6.cell? ⟨gC, i.toNat * 3 + 2, none⟩ = some (.slice A8 (rd_T69 ch i).f2.length c8_) := (Kd.H_at hH8 c2 c1).1 2 _ rfl
          have info3 : (Try.prog.info? 3).map (fun i => (i.zero, i.size, i.bytes)) = some (some (.int .i64 0), 1, 8) := by kernel_rfl
          clear hd hLd hbC htC hgC hR8 aH hok8 hH8 c9
          refine start_ (n := 15) (S := fun w' => w'.cell? ⟨g3, 2, none⟩ = some (.slice (some ⟨gC, 0, none⟩) ch.length d2') ∧ w'.cell? ⟨gC, i.toNat * 3 + 2, none⟩ = some (.slice A8 (rd_T69 ch i).f2.length c8_)) (ds := [14]) (zv 15 0) (by kernel_rfl) rfl rfl ⟨hu0, hu1⟩ (fun hHeld => ?_)
          refine zu 0 (some 61) (zv 15 1) (by kernel_rfl) ?_
          refine zu 2 (some 63) (zv 15 5) (by kernel_rfl) ?_
          refine zu 3 (some 64) (zv 15 13) (by kernel_rfl) ?_
          refine zu 5 (some 66) (zv 15 45) (by kernel_rfl) ?_
          refine zu 9 (some 70) (zv 15 557) (by kernel_rfl) ?_
          refine zt 1 (some 62) (zv 15 559) (by kernel_rfl) hHeld ?_
          refine zt 4 (some 65) (zv 15 575) (by kernel_rfl) hHeld ?_
          refine zu 6 (some 67) (zv 15 639) (by kernel_rfl) ?_
          refine zu 7 (some 68) (zv 15 767) (by kernel_rfl) ?_
          refine zt 8 (some 69) (zv 15 1023) (by kernel_rfl) hHeld ?_
          refine one_ (i := 10) (N := some 71) (zv 15 2047) rfl rfl (by kernel_rfl) (by decide) (fun K hK => ?_)
          refine value_ (w1 := ?_) (v := ?_) (by rfl) rfl ?_ ?_
          rotate_left 2
          ·go_simp
           constructor
           ·rfl
           ·rfl
          refine hK.out _ _ ⟨pw_cell_below (zB (Below.refl _ _) _) hHeld.1, pw_cell_below (zB (Below.refl _ _) _) hHeld.2⟩ (fun hHeld => ?_)
          clear hK K
          refine norm_ (a' := ?_) ?_ ?_
          rotate_left
          ·show Act.put _ (some 71) _ = _
           simp only [Act.put, zp, zq, zr, i64_w, i32_w]
           rfl
          refine one_ (i := 11) (N := some 72) (zv 15 4095) rfl rfl (by kernel_rfl) (by decide) (fun K hK => ?_)
          refine Kd.R_append_step (Kd.int .i64) (w0 := w) (W := w6.drew) w.heap.size (by rfl) (.tmp 69) (.tmp 71) 24 3 (.int .i64 0) 8 rfl Try.underlying24 info3 rfl (by decide) (by omega) (.slice A8 (rd_T69 ch i).f2.length c8_) (rd_T69 ch i).f2 (rd tr t) [.int .i64 (rd tr t)] oki (fun _ => False) rfl rfl ?aP (fun _ hk => hk.elim) ?aF ?aO ?aB ?aS ?aL ?_
          (case aP => exact rfl)
          (case aF => exact fun k hk => HFR8.out k hk)
          (case aO => exact aA.out)
          (case aB => exact below_drew n4.out)
          (case aS => exact n4.out.size)
          (case aL => have := HL9.out; omega)
          intro v7 w7 ho7 hb7 hg7 hat7
          obtain ⟨A9, k9, rfl⟩ := Kd.R_slice ho7
          rw [show ((rd_T69 ch i).f2 ++ [rd tr t]).length = (rd_T69 ch i).f2.length + 1 from by simp] at ho7 hat7
          obtain ⟨hcz, hfz, hLp⟩ := HLd.out.put i c2 c1 HOK8.out HGC.out aA.out HH8.out hg7 ho7
          have b3_ := blk_grown (w := w6.drew) (blk_below n3.out (below_drew (Below.refl _ _))) hg7 (Kd.R_ne aA.out (blk_below n3.out (below_drew (Below.refl _ _))) (by decide))
          refine hK.out _ _ ⟨(blk_cell b3_ 2).trans rfl, hcz⟩ (fun hHeld => ?_)
          clear hK K
          refine norm_ (a' := ?_) ?_ ?_
          rotate_left
          ·show Act.put _ (some 72) _ = _
           simp only [Act.put, zp, zq, zr, i64_w, i32_w]
           rfl
          refine zu 12 (some 73) (zv 15 8191) (by kernel_rfl) ?_
          refine zu 13 (some 74) (zv 15 16383) (by kernel_rfl) ?_
          refine last_ (i := 14) (N := none) (zv 15 32767) rfl rfl (by kernel_rfl) (by decide) (fun K hK => ?_)
          refine skip_ (w1 := ?_) (by rfl) rfl ?_ ?_
          rotate_left
          ·go_simp
           rfl
          refine hK.out _ _ ?_
          clear hK K
          refine done_ (by kernel_rfl) ?_
          have b2 := blk_grown (w := w6.drew) (blk_below n2.out (below_drew (Below.refl _ _))) hg7 (Kd.R_ne aA.out (blk_below n2.out (below_drew (Below.refl _ _))) (by decide))
          have b3 := blk_grown (w := w6.drew) (blk_below n3.out (below_drew (Below.refl _ _))) hg7 (Kd.R_ne aA.out (blk_below n3.out (below_drew (Below.refl _ _))) (by decide))
          obtain ⟨cC, hcC⟩ := HTC.out
          have hc7 := blk_grown hcC hg7 (fun e_ => (HOK8.out gC (aA.out.1 gC e_.symm)).2 rfl)
          have n23 : g2 ≠ gC := blk_ne b2 hc7 (by decide)
          have n33 : g3 ≠ gC := blk_ne b3 hc7 (by decide)
          have b2' := blk_far (p := ⟨gC, i.toNat * 3 + 2, none⟩) b2 n23 (.slice A9 ((rd_T69 ch i).f2.length + 1) k9)
          have b3' := blk_far (p := ⟨gC, i.toNat * 3 + 2, none⟩) b3 n33 (.slice A9 ((rd_T69 ch i).f2.length + 1) k9)
          obtain ⟨gT', eT', hbT', ⟨cT, htT⟩, hcT', hfT', hLT'⟩ := hLp.tray t c4 c5h 0
          cases eT'
          have n2T : g2 ≠ gT := blk_ne b2' htT (by decide)
          have n3T : g3 ≠ gT := blk_ne b3' htT (by decide)
          have B2e := zK (blk_far (p := ⟨gT, t.toNat, none⟩) b2' n2T (.int .i64 0))
          have B3e := zK (blk_far (p := ⟨gT, t.toNat, none⟩) b3' n3T (.int .i64 0))
          have HLe := zK hLT'
          have HBe := zK (zS (g := gT) (j := t.toNat) (v := .int .i64 0) (zS (g := gC) (j := i.toNat * 3 + 2) (v := .slice A9 ((rd_T69 ch i).f2.length + 1) k9) hb7 HBC.out) HBT.out)
          have hv0 : (w7.setCell ⟨gC, i.toNat * 3 + 2, none⟩ (.slice A9 ((rd_T69 ch i).f2.length + 1) k9)).cell? ⟨g3, 0, none⟩ = some (.slice (some ⟨gT, 0, none⟩) tr.length d0') := (blk_cell b3' 0).trans rfl
          clear b2 b3 b2' b3' hc7 hLT' hb7 hg7 hat7 ho7 hbT' hLp
          go_wp2
          go_roundg k1
          case measure => have := au.out; omega
          case rel => exact ⟨wrap64 (i + 1), tr.set t.toNat 0, ch.set i.toNat ⟨(rd_T69 ch i).f0, (rd_T69 ch i).f1, (rd_T69 ch i).f2 ++ [rd tr t]⟩, rfl, H', ⟨by have := au.out; omega⟩, HLe, B2e, B3e, HBe⟩
         ·rw [if_neg c9] at H
          exact absurd H (by simp)
        ·rw [if_neg c8] at H
         have c8b : decide (((rd_T69 ch i).f2.length : Int) < (rd_T69 ch i).f1) = false := decide_eq_false c8
         have H' := zK H; clear H
         refine start_ (n := 24) (S := fun w' => w'.cell? ⟨g3, 0, none⟩ = some (.slice (some ⟨gT, 0, none⟩) tr.length d0') ∧ w'.cell? ⟨g3, 1, none⟩ = some (.int .i64 T) ∧ w'.cell? ⟨g3, 2, none⟩ = some (.slice (some ad) ch.length d2') ∧ w'.cell? ⟨g3, 3, none⟩ = some (.slice B3' wa0.length d3') ∧ w'.cell? ⟨(ad.add (i.toNat * 3)).block, (ad.add (i.toNat * 3)).off + 1, none⟩ = some (.int .i64 (rd_T69 ch i).f1) ∧ w'.cell? ⟨(ad.add (i.toNat * 3)).block, (ad.add (i.toNat * 3)).off + 2, none⟩ = some (.slice A5 (rd_T69 ch i).f2.length c5)) (ds := []) (zv 24 0) (by kernel_rfl) rfl rfl ⟨av, aw, ax, ay, hw1, hw2⟩ (fun hHeld => ?_)
         refine zu 0 (some 37) (zv 24 1) (by kernel_rfl) ?_
         refine zu 1 (some 38) (zv 24 3) (by kernel_rfl) ?_
         refine zu 2 (some 39) (zv 24 7) (by kernel_rfl) ?_
         refine zu 4 (some 41) (zv 24 23) (by kernel_rfl) ?_
         refine zu 5 (some 42) (zv 24 55) (by kernel_rfl) ?_
         refine zt 3 (some 40) (zv 24 63) (by kernel_rfl) hHeld ?_
         refine one_ (i := 6) (N := some 43) (zv 24 127) rfl rfl (by kernel_rfl) (by decide) (fun K hK => ?_)
         refine goes_ Try.func91 (by kernel_rfl) rfl #[.agg #[.slice (some ⟨gT, 0, none⟩) tr.length d0', .int .i64 T, .slice (some ad) ch.length d2', .slice B3' wa0.length d3'], .int .i64 (rd tr t), .int .i64 i] (by rfl) rfl rfl (by simp only [List.map_toArray, List.map_cons, List.map_nil]; rfl) ?_
         with_reducible refine (spec_l05Wants.calls k1 (some ⟨gT, 0, none⟩) d0' tr T (some ad) d2' ch B3' d3' wa0 (rd tr t) i true _ (Kd.C_drew C05.out) HL0.out (Kd.C_drew C25.out) HL2.out (Kd.C_drew C35.out) HL3.out A7.out).mono ?_
         rintro e w6 ⟨rfl, hb6⟩
         refine ⟨_, rfl, ?_⟩
         refine hK.out _ _ ⟨pw_cell_below hb6 hHeld.1, pw_cell_below hb6 hHeld.2.1, pw_cell_below hb6 hHeld.2.2.1, pw_cell_below hb6 hHeld.2.2.2.1, pw_cell_below hb6 hHeld.2.2.2.2.1, pw_cell_below hb6 hHeld.2.2.2.2.2⟩ (fun hHeld => ?_)
         clear hK K
         refine norm_ (a' := ?_) ?_ ?_
         rotate_left
         ·show Act.put _ (some 43) _ = _
          simp only [Act.put, zp, zq, zr, i64_w, i32_w]
          rfl
         refine zu 7 (some 44) (zv 24 255) (by kernel_rfl) ?_
         refine zu 8 (some 45) (zv 24 511) (by kernel_rfl) ?_
         refine zu 9 (some 46) (zv 24 1023) (by kernel_rfl) ?_
         refine zu 11 (some 48) (zv 24 3071) (by kernel_rfl) ?_
         refine zu 16 (some 53) (zv 24 68607) (by kernel_rfl) ?_
         refine zu 18 (some 55) (zv 24 330751) (by kernel_rfl) ?_
         refine zt 10 (some 47) (zv 24 331775) (by kernel_rfl) hHeld ?_
         refine zu 12 (some 49) (zv 24 335871) (by kernel_rfl) ?_
         refine zu 13 (some 50) (zv 24 344063) (by kernel_rfl) ?_
         refine zt 14 (some 51) (zv 24 360447) (by kernel_rfl) hHeld ?_
         refine zu 15 (some 52) (zv 24 393215) (by kernel_rfl) ?_
         refine zt 17 (some 54) (zv 24 524287) (by kernel_rfl) hHeld ?_
         refine zu 19 (some 56) (zv 24 1048575) (by kernel_rfl) ?_
         refine zu 20 (some 57) (zv 24 2097151) (by kernel_rfl) ?_
         refine zt 21 (some 58) (zv 24 4194303) (by kernel_rfl) hHeld ?_
         refine zu 22 (some 59) (zv 24 8388607) (by kernel_rfl) ?_
         refine zu 23 (some 60) (zv 24 16777215) (by kernel_rfl) ?_
         refine done_ (by kernel_rfl) ?_
         have hbr : Below w5.heap.size w5 w6 := below_then (below_drew (Below.refl _ _)) (Nat.le_refl _) hb6
         have n1 := zK (aG.out.below hbr)
         have n2 := zK (blk_below an.out hbr)
         have n3 := zK (blk_below ag.out hbr)
         have n4 := zK (below_step HB5.out hbr)
         go_wp2
         go_roundg k1
         case measure => have := au.out; omega
         case rel => exact ⟨wrap64 (i + 1), tr, ch, rfl, H', ⟨by have := au.out; omega⟩, n1, n2, n3, n4⟩
     ·rw [if_neg c5h] at H
      exact absurd H (by simp)
    ·rw [if_neg c4] at H
     exact absurd H (by simp)
   ·rw [if_neg c2] at H
    exact absurd H (by simp)
  ·rw [if_neg c1] at H
   have c1b : decide (i < (ch.length : Int)) = false := decide_eq_false c1
   simp only [Option.some.injEq, Prod.mk.injEq] at H
   obtain ⟨rfl, rfl, rfl, rfl⟩ := H
   obtain ⟨av, aw, ax, ay⟩ := zL4 aa
   obtain ⟨hf0, hf1, hf2, hf3⟩ := zF4 aa
   go_wp2
   have b0 := blk_put aa.out 0 (.slice B0' tr.length d0') rfl
   have b1 := blk_put b0 1 (.int .i64 T) rfl
   have b2 := blk_put b1 2 (.slice B2' ch.length d2') rfl
   have m := ((((HL.out.box aa.out 0 (.slice B0' tr.length d0')).box b0 1 (.int .i64 T)).box b1 2 (.slice B2' ch.length d2')).box b2 3 (.slice B3' wa0.length d3'))
   refine bodyPost_ret (results_cell_row rfl _ _ g2 28 #[.slice B0' tr.length d0', .int .i64 T, .slice B2' ch.length d2', .slice B3' wa0.length d3'] (0, 0) _ rfl (blk_put (blk_put (blk_put (blk_put aa.out 0 _ rfl) 1 _ rfl) 2 _ rfl) 3 _ rfl) Try.underlying28 rfl (by kernel_rfl)) rfl ?_
   exact ⟨_, _, _, rfl, Kd.R_mono m.1 (fun _ _ => trivial), Kd.S_mono m.2.1 (fun _ hk => hk.1), Kd.S_mono m.2.2.1 (fun k_ hk e_ => m.1.1 k_ e_.symm hk), zS (zS (zS (zS HB.out GE2.out) GE2.out) GE2.out) GE2.out⟩
def spec_EmptyAt.l0 : Nat → Int → Int → List Int → Int → List (S69) → List (S74) → Option (Int × Bool)
 | 0, _, _, _, _, _, _ => none
 | k + 1, a, b, c, d, e, f => if b ≤ 600 then ((spec_l05Tray.f c d e f a).bind fun g => (if 0 ≤ g then (if g < (c.length : Int) then (if (rd c g) = 0 then (some (b, true)) else ((spec_l05Step.f k c d e f).bind fun i => (spec_EmptyAt.l0 k a (wrap64 (b + 1)) i.1 i.2.1 i.2.2.1 i.2.2.2))) else (none)) else (none))) else (some (0, false))
def spec_EmptyAt.f (k : Nat) (a : List Int) (b : Int) (c : List (S69)) (d : List (S74)) (e : Int) : Option (Int × Bool) := (spec_TrayAt.f k a b c d e).bind fun f => (if f < 0 then (some (0, false)) else (spec_EmptyAt.l0 k e 0 a b c d))
def spec_EmptyAt.T6 : Bool × List (List Nat × List Nat) := (true, [([], []), ([0], [0]), ([], []), ([], []), ([2, 3], [2, 3]), ([1, 4], [1, 4]), ([5], [5]), ([6], [6])])
def spec_EmptyAt.B6 : List Nat := [0, 1, 0, 0, 12, 31, 63, 127]
theorem spec_EmptyAt.tab6 : rtab .any (opsOf Try.f36 6) = spec_EmptyAt.T6 := by kernel_rfl
theorem spec_EmptyAt.bits6 : waitsOk spec_EmptyAt.T6.2 spec_EmptyAt.B6 = true := by kernel_rfl
set_option maxHeartbeats 8000000 in
set_option maxRecDepth 100000 in
theorem spec_EmptyAt.calls (k : Nat) (P0_0_ : Nat → Prop) (aA : Option Addr) (aB : Nat) (ap : List Int) (a0_1 : Int) (P0_2_ : Nat → Prop) (aC : Option Addr) (aD : Nat) (aq : List (S69)) (P0_3_ : Nat → Prop) (aE : Option Addr) (aF : Nat) (ar : List (S74)) (a1 : Int) (r1 : Int) (r2 : Bool) (w : World) (hs0_0 : Kd.V (Kd.int .i64) 3 w w.heap.size (fun k_ => P0_0_ k_) (.slice aA ap.length aB) ap) (hs0_2 : Kd.V k69 69 w w.heap.size (fun k_ => P0_2_ k_) (.slice aC aq.length aD) aq) (hs0_3 : Kd.V k74 74 w w.heap.size (fun k_ => P0_3_ k_) (.slice aE ar.length aF) ar) (h : spec_EmptyAt.f k ap a0_1 aq ar a1 = some (r1, r2)) :
  Calls Try.prog 36 #[.agg #[.slice aA ap.length aB, .int .i64 a0_1, .slice aC aq.length aD, .slice aE ar.length aF], .int .i64 a1] w fun e w' => e = .returned (.tuple #[.int .i64 r1, .bool r2]) ∧ Below w.heap.size w w' := by
 have hu28 := Try.underlying28
 have aj := zK (show Kd.V (Kd.int .i64) 3 w w.heap.size (fun k_ => ((P0_0_ k_ ∨ P0_2_ k_ ∨ P0_3_ k_) ∨ w.heap.size ≤ k_)) (.slice aA ap.length aB) ap from Kd.V_mono hs0_0 (fun k_ hk => .inl (.inl hk)))
 have ak := zK (show Kd.V k69 69 w w.heap.size (fun k_ => ((P0_0_ k_ ∨ P0_2_ k_ ∨ P0_3_ k_) ∨ w.heap.size ≤ k_)) (.slice aC aq.length aD) aq from Kd.V_mono hs0_2 (fun k_ hk => .inl (.inr (.inl hk))))
 have al := zK (show Kd.V k74 74 w w.heap.size (fun k_ => ((P0_0_ k_ ∨ P0_2_ k_ ∨ P0_3_ k_) ∨ w.heap.size ≤ k_)) (.slice aE ar.length aF) ar from Kd.V_mono hs0_3 (fun k_ hk => .inl (.inr (.inr hk))))
 have HB := zK (Below.refl w.heap.size w)
 have H := h; unfold spec_EmptyAt.f at H
 clear h; replace H := Option.bind_eq_some_iff.mp H
 obtain ⟨aM, A30, H⟩ := H
 (try dsimp only at H)
 have A3 := zK A30; clear A30
 by_cases c4 : aM < 0
 ·rw [if_pos c4] at H
  have bn : decide (aM < 0) = true := decide_eq_true c4
  clear c4
  simp only [Option.some.injEq, Prod.mk.injEq] at H
  obtain ⟨rfl, rfl⟩ := H
  go_enter Try.func36, Try.ntmps36
  go_wp2_with (first | ((with_reducible refine gate_dst (N := 2) rfl ?_); refine zX 2 #[.slice aA ap.length aB, .int .i64 a0_1, .slice aC aq.length aD, .slice aE ar.length aF] 28 ?_; intro af hg w5 hbox hb; replace aj := zK (Kd.V_below (Kd.V_elderB (by (with_reducible repeat (first | apply Kd.V_alloc | apply Kd.V_drewN | apply Kd.V_drew)); exact aj.out) af (Nat.le_of_eq hg.symm)) hb); replace ak := zK (Kd.V_below (Kd.V_elderB (by (with_reducible repeat (first | apply Kd.V_alloc | apply Kd.V_drewN | apply Kd.V_drew)); exact ak.out) af (Nat.le_of_eq hg.symm)) hb); replace al := zK (Kd.V_below (Kd.V_elderB (by (with_reducible repeat (first | apply Kd.V_alloc | apply Kd.V_drewN | apply Kd.V_drew)); exact al.out) af (Nat.le_of_eq hg.symm)) hb); have aa := zK (hbox); have bo := zK ((by rw [hg]; exact (below_size (zb HB)) : w.heap.size ≤ af)); have am := zK ((by rw [hg]; exact (below_size (zb HB)) : w.heap.size ≤ af)); replace HB := zK (below_step (zb HB) hb); clear hb hbox hg; obtain ⟨hcz6_0, hcz6_1, hcz6_2, hcz6_3⟩ := zL4 aa; obtain ⟨hfz6_0, hfz6_1, hfz6_2, hfz6_3⟩ := zF4 aa) | ((with_reducible refine gate_callee (f := 34) rfl ?_); refine goesL_ (some 9) rfl rfl Try.func34 (by kernel_rfl) rfl #[.agg #[.slice aA ap.length aB, .int .i64 a0_1, .slice aC aq.length aD, .slice aE ar.length aF], .int .i64 a1] rfl zg ?_; (with_reducible refine (spec_TrayAt.calls k _ _ ap a0_1 _ _ aq _ _ ar a1 aM _ ?side1 ?side2 ?side3 ?side4 ?side5 ?side6 A3.out).mono ?_); (case side1 => exact zs (Kd.V_reads' aj.out).2.2); (case side2 => exact (Kd.V_reads' aj.out).2.1); (case side3 => exact zs (Kd.V_reads' ak.out).2.2); (case side4 => exact (Kd.V_reads' ak.out).2.1); (case side5 => exact zs (Kd.V_reads' al.out).2.2); (case side6 => exact (Kd.V_reads' al.out).2.1); rintro e w7 ⟨rfl, hb⟩; refine ⟨_, rfl, ?_⟩; replace aj := zK (Kd.V_below (by (with_reducible repeat (first | apply Kd.V_alloc | apply Kd.V_drewN | apply Kd.V_drew)); exact aj.out) hb); replace ak := zK (Kd.V_below (by (with_reducible repeat (first | apply Kd.V_alloc | apply Kd.V_drewN | apply Kd.V_drew)); exact ak.out) hb); replace al := zK (Kd.V_below (by (with_reducible repeat (first | apply Kd.V_alloc | apply Kd.V_drewN | apply Kd.V_drew)); exact al.out) hb); replace aa := zK (blk_below (g := af) (o := .cells #[.slice aA ap.length aB, .int .i64 a0_1, .slice aC aq.length aD, .slice aE ar.length aF] 28 (0, 0)) (zk aa) hb); replace HB := zK (below_step (zb HB) hb); (try clear hb)))
  go_ret2
  exact ⟨ze, zb HB⟩
 ·rw [if_neg c4] at H
  have bn : decide (aM < 0) = false := decide_eq_false c4
  clear c4; have H' := zK H; clear H
  go_enter Try.func36, Try.ntmps36
  go_wp2_with (first | ((with_reducible refine gate_dst (N := 2) rfl ?_); refine zX 2 #[.slice aA ap.length aB, .int .i64 a0_1, .slice aC aq.length aD, .slice aE ar.length aF] 28 ?_; intro af hg w8 hbox hb; replace aj := zK (Kd.V_below (Kd.V_elderB (by (with_reducible repeat (first | apply Kd.V_alloc | apply Kd.V_drewN | apply Kd.V_drew)); exact aj.out) af (Nat.le_of_eq hg.symm)) hb); replace ak := zK (Kd.V_below (Kd.V_elderB (by (with_reducible repeat (first | apply Kd.V_alloc | apply Kd.V_drewN | apply Kd.V_drew)); exact ak.out) af (Nat.le_of_eq hg.symm)) hb); replace al := zK (Kd.V_below (Kd.V_elderB (by (with_reducible repeat (first | apply Kd.V_alloc | apply Kd.V_drewN | apply Kd.V_drew)); exact al.out) af (Nat.le_of_eq hg.symm)) hb); have aa := zK (hbox); have bo := zK ((by rw [hg]; exact (below_size (zb HB)) : w.heap.size ≤ af)); have am := zK ((by rw [hg]; exact (below_size (zb HB)) : w.heap.size ≤ af)); replace HB := zK (below_step (zb HB) hb); clear hb hbox hg; obtain ⟨a5, a6, a7, a8⟩ := zL4 aa; obtain ⟨a9, ba, bb, bc⟩ := zF4 aa) | ((with_reducible refine gate_callee (f := 34) rfl ?_); refine goesL_ (some 9) rfl rfl Try.func34 (by kernel_rfl) rfl #[.agg #[.slice aA ap.length aB, .int .i64 a0_1, .slice aC aq.length aD, .slice aE ar.length aF], .int .i64 a1] rfl zg ?_; (with_reducible refine (spec_TrayAt.calls k _ _ ap a0_1 _ _ aq _ _ ar a1 aM _ ?side1 ?side2 ?side3 ?side4 ?side5 ?side6 A3.out).mono ?_); (case side1 => exact zs (Kd.V_reads' aj.out).2.2); (case side2 => exact (Kd.V_reads' aj.out).2.1); (case side3 => exact zs (Kd.V_reads' ak.out).2.2); (case side4 => exact (Kd.V_reads' ak.out).2.1); (case side5 => exact zs (Kd.V_reads' al.out).2.2); (case side6 => exact (Kd.V_reads' al.out).2.1); rintro e w10 ⟨rfl, hb⟩; refine ⟨_, rfl, ?_⟩; replace aj := zK (Kd.V_below (by (with_reducible repeat (first | apply Kd.V_alloc | apply Kd.V_drewN | apply Kd.V_drew)); exact aj.out) hb); replace ak := zK (Kd.V_below (by (with_reducible repeat (first | apply Kd.V_alloc | apply Kd.V_drewN | apply Kd.V_drew)); exact ak.out) hb); replace al := zK (Kd.V_below (by (with_reducible repeat (first | apply Kd.V_alloc | apply Kd.V_drewN | apply Kd.V_drew)); exact al.out) hb); replace aa := zK (blk_below (g := af) (o := .cells #[.slice aA ap.length aB, .int .i64 a0_1, .slice aC aq.length aD, .slice aE ar.length aF] 28 (0, 0)) (zk aa) hb); replace HB := zK (below_step (zb HB) hb); (try clear hb)))
  go_loopg [6] k (fun kq v6 w' => ∃ (aI : Int) (ab : List Int) (ai : Int) (ah : List (S69)) (ag : List (S74)) (u222000 : Value) (u222002 : Value) (u222003 : Value), v6 = .int .i64 aI ∧ Aside0 (spec_EmptyAt.l0 kq a1 aI ab ai ah ag = some (r1, r2)) ∧ Aside0 (kq ≤ k) ∧ Aside0 (Kd.V (Kd.int .i64) 3 w' w.heap.size (fun k_ => ((P0_0_ k_ ∨ P0_2_ k_ ∨ P0_3_ k_) ∨ w.heap.size ≤ k_) ∧ k_ ≠ af) u222000 ab) ∧ Aside0 (Kd.V k69 69 w' w.heap.size (fun k_ => ((P0_0_ k_ ∨ P0_2_ k_ ∨ P0_3_ k_) ∨ w.heap.size ≤ k_) ∧ k_ ≠ af) u222002 ah) ∧ Aside0 (Kd.V k74 74 w' w.heap.size (fun k_ => ((P0_0_ k_ ∨ P0_2_ k_ ∨ P0_3_ k_) ∨ w.heap.size ≤ k_) ∧ k_ ≠ af) u222003 ag) ∧ Aside0 (w'.heap[af]? = some (.cells #[u222000, .int .i64 ai, u222002, u222003] 28 (0, 0))) ∧ Aside0 (Below w.heap.size w w'))
  case atStart => exact ⟨(0), (ap), (a0_1), (aq), (ar), (.slice aA ap.length aB), (.slice aC aq.length aD), (.slice aE ar.length aF), zf, H', ⟨Nat.le_refl _⟩, ⟨by (with_reducible repeat (first | apply Kd.V_alloc | apply Kd.V_drewN | apply Kd.V_drew)); exact aj.out⟩, ⟨by (with_reducible repeat (first | apply Kd.V_alloc | apply Kd.V_drewN | apply Kd.V_drew)); exact ak.out⟩, ⟨by (with_reducible repeat (first | apply Kd.V_alloc | apply Kd.V_drewN | apply Kd.V_drew)); exact al.out⟩, ⟨zk aa⟩, ⟨zb HB⟩⟩
  case round =>
   clear H' bn a5 a6 a7 a8 a9 ba bb bc
   obtain ⟨aI, ab, ai, ah, ag, u222000, u222002, u222003, rfl, HA, HK1, ac, ad, ae, aa, HB⟩ := hrel
   cases gk with
   | zero => exact absurd HA.out (by simp [spec_EmptyAt.l0])
   | succ k1 =>
    have H := HA.out; clear HA
    simp only [spec_EmptyAt.l0] at H
    by_cases bm : aI ≤ 600
    ·rw [if_pos bm] at H
     have bp : decide (aI ≤ 600) = true := decide_eq_true bm
     clear bm; replace H := Option.bind_eq_some_iff.mp H
     obtain ⟨an, bq, H⟩ := H
     (try dsimp only at H)
     have A12 := zK bq; clear bq
     by_cases c13 : 0 ≤ an
     ·rw [if_pos c13] at H
      have c13b0 : decide (0 ≤ an) = true := decide_eq_true c13
      clear c13
      by_cases c14 : an < (ab.length : Int)
      ·rw [if_pos c14] at H
       have c14b0 : decide (an < (ab.length : Int)) = true := decide_eq_true c14
       clear c14
       by_cases bd : (rd ab an) = 0
       ·rw [if_pos bd] at H
        have br : ((rd ab an) == 0) = true := beq_iff_eq.mpr bd
        have bs : ((rd ab an) != 0) = false := bne_eq_false_iff_eq.mpr bd
        clear bd
        simp only [Option.some.injEq, Prod.mk.injEq] at H
        obtain ⟨rfl, rfl⟩ := H
        try go_wp2
        replace ac := zK (Kd.V_drew ac.out); replace ad := zK (Kd.V_drew ad.out); replace ae := zK (Kd.V_drew ae.out); replace aa := zK (zD aa.out); replace HB := zK (zE HB.out)
        obtain ⟨Ao17, bf, eo17⟩ := Kd.V_slice ac.out
        (first | subst eo17)
        obtain ⟨bg, bh, eo18⟩ := Kd.V_slice ad.out
        (first | subst eo18)
        obtain ⟨bi, bj, eo19⟩ := Kd.V_slice ae.out
        (first | subst eo19)
        have aQ : 0 ≤ (an : Int) := zd
        have aR : an < (ab.length : Int) := zd
        obtain ⟨ao, bk, au⟩ := Kd.at_int (Kd.V_reads' ac.out).2.2 an aQ aR
        cases bk
        replace aQ := eq_true aQ; replace aR := eq_true aR
        refine start_ (n := 8) (S := fun w' => w'.cell? ⟨af, 0, none⟩ = some (.slice (some ao) ab.length bf) ∧ w'.cell? ⟨af, 1, none⟩ = some (.int .i64 ai) ∧ w'.cell? ⟨af, 2, none⟩ = some (.slice bg ah.length bh) ∧ w'.cell? ⟨af, 3, none⟩ = some (.slice bi ag.length bj) ∧ w'.cell? (ao.add (an).toNat) = some (.int .i64 (rd ab an))) (ds := []) (zv 8 0) (by kernel_rfl) rfl rfl ⟨(blk_cell aa.out 0).trans rfl, (blk_cell aa.out 1).trans rfl, (blk_cell aa.out 2).trans rfl, (blk_cell aa.out 3).trans rfl, au⟩ (fun hHeld => ?_); refine with_tabW spec_EmptyAt.tab6 spec_EmptyAt.bits6 (fun HT_ HW_ => ?_)
        generalize wr.drew = w16 at ac ad ae aa HB au hHeld ⊢
        refine zu 0 (some 15) (zv 8 1) (any_of HT_.out (by kernel_rfl)) ?_
        refine zu 3 (some 18) (zv 8 9) (any_of HT_.out (by kernel_rfl)) ?_
        refine zt 1 (some 16) (zv 8 11) (take_ofW HT_.out HW_.out (by kernel_rfl)) hHeld ?_
        refine zt 2 (some 17) (zv 8 15) (take_ofW HT_.out HW_.out (by kernel_rfl)) hHeld ?_
        refine one_ (i := 4) (N := some 19) (zv 8 31) rfl rfl (one_of HT_.out (by kernel_rfl)) (by decide) (fun K hK => ?_)
        refine goes_ Try.func77 (by kernel_rfl) rfl #[.agg #[.slice (some ao) ab.length bf, .int .i64 ai, .slice bg ah.length bh, .slice bi ag.length bj], .int .i64 a1] (by rfl) rfl rfl zg ?_
        with_reducible refine (spec_l05Tray.calls _ _ ab ai _ _ ah _ _ ag a1 an _ ?side1 ?side2 ?side3 ?side4 ?side5 ?side6 A12.out).mono ?_
        (case side1 => exact zs (Kd.V_reads' ac.out).2.2)
        (case side2 => exact (Kd.V_reads' ac.out).2.1)
        (case side3 => exact zs (Kd.V_reads' ad.out).2.2)
        (case side4 => exact (Kd.V_reads' ad.out).2.1)
        (case side5 => exact zs (Kd.V_reads' ae.out).2.2)
        (case side6 => exact (Kd.V_reads' ae.out).2.1)
        rintro e w20 ⟨rfl, hb⟩
        have bl := (hb.cell (World.block_lt_of_cell? _ _ (hHeld.2.2.2.2))).trans (hHeld.2.2.2.2)
        refine ⟨_, rfl, ?_⟩
        replace ac := zK (Kd.V_below (by (with_reducible repeat (first | apply Kd.V_alloc | apply Kd.V_drewN | apply Kd.V_drew)); exact ac.out) hb); replace ad := zK (Kd.V_below (by (with_reducible repeat (first | apply Kd.V_alloc | apply Kd.V_drewN | apply Kd.V_drew)); exact ad.out) hb); replace ae := zK (Kd.V_below (by (with_reducible repeat (first | apply Kd.V_alloc | apply Kd.V_drewN | apply Kd.V_drew)); exact ae.out) hb); replace aa := zK (blk_below (g := af) (o := .cells #[.slice (some ao) ab.length bf, .int .i64 ai, .slice bg ah.length bh, .slice bi ag.length bj] 28 (0, 0)) (zk aa) hb); replace HB := zK (below_step (zb HB) hb); (try clear hb); (try clear hb2); (try clear hk); (try clear hi)
        refine hK.out _ _ ⟨(blk_cell aa.out 0).trans rfl, (blk_cell aa.out 1).trans rfl, (blk_cell aa.out 2).trans rfl, (blk_cell aa.out 3).trans rfl, bl⟩ (fun hHeld => ?_)
        clear hK K
        refine norm_ (a' := ?_) ?_ ?_
        rotate_left
        ·show Act.put _ (some 19) _ = _
         simp only [Act.put, zp, zq, zr, i64_w, i32_w]
         rfl
        refine zu 5 (some 20) (zv 8 63) (any_of HT_.out (by kernel_rfl)) ?_
        refine zt 6 (some 21) (zv 8 127) (take_ofW HT_.out HW_.out (by kernel_rfl)) hHeld ?_
        refine zu 7 (some 22) (zv 8 255) (any_of HT_.out (by kernel_rfl)) ?_
        refine done_ (done_of HT_.out (by kernel_rfl)) ?_
        try go_wp2
        go_ret2
        exact ⟨ze, zb HB⟩
       ·rw [if_neg bd] at H
        have br : ((rd ab an) == 0) = false := beq_eq_false_iff_ne.mpr bd
        have bs : ((rd ab an) != 0) = true := bne_iff_ne.mpr bd
        replace H := Option.bind_eq_some_iff.mp H
        obtain ⟨⟨aJ, aN, aO, aS⟩, bu, H⟩ := H
        (try dsimp only at H)
        have A21 := zK bu; clear bu; have H' := zK H; clear H
        try go_wp2
        replace ac := zK (Kd.V_drew ac.out); replace ad := zK (Kd.V_drew ad.out); replace ae := zK (Kd.V_drew ae.out); replace aa := zK (zD aa.out); replace HB := zK (zE HB.out)
        obtain ⟨Ao23, aP, eo23⟩ := Kd.V_slice ac.out
        (first | subst eo23)
        obtain ⟨aK, aL, eo24⟩ := Kd.V_slice ad.out
        (first | subst eo24)
        obtain ⟨aG, aH, eo25⟩ := Kd.V_slice ae.out
        (first | subst eo25)
        have aQ : 0 ≤ (an : Int) := zd
        have aR : an < (ab.length : Int) := zd
        obtain ⟨ao, bk, au⟩ := Kd.at_int (Kd.V_reads' ac.out).2.2 an aQ aR
        cases bk
        replace aQ := eq_true aQ; replace aR := eq_true aR
        refine start_ (n := 8) (S := fun w' => w'.cell? ⟨af, 0, none⟩ = some (.slice (some ao) ab.length aP) ∧ w'.cell? ⟨af, 1, none⟩ = some (.int .i64 ai) ∧ w'.cell? ⟨af, 2, none⟩ = some (.slice aK ah.length aL) ∧ w'.cell? ⟨af, 3, none⟩ = some (.slice aG ag.length aH) ∧ w'.cell? (ao.add (an).toNat) = some (.int .i64 (rd ab an))) (ds := []) (zv 8 0) (by kernel_rfl) rfl rfl ⟨(blk_cell aa.out 0).trans rfl, (blk_cell aa.out 1).trans rfl, (blk_cell aa.out 2).trans rfl, (blk_cell aa.out 3).trans rfl, au⟩ (fun hHeld => ?_); refine with_tabW spec_EmptyAt.tab6 spec_EmptyAt.bits6 (fun HT_ HW_ => ?_)
        generalize wr.drew = w22 at ac ad ae aa HB au hHeld ⊢
        refine zu 0 (some 15) (zv 8 1) (any_of HT_.out (by kernel_rfl)) ?_
        refine zu 3 (some 18) (zv 8 9) (any_of HT_.out (by kernel_rfl)) ?_
        refine zt 1 (some 16) (zv 8 11) (take_ofW HT_.out HW_.out (by kernel_rfl)) hHeld ?_
        refine zt 2 (some 17) (zv 8 15) (take_ofW HT_.out HW_.out (by kernel_rfl)) hHeld ?_
        refine one_ (i := 4) (N := some 19) (zv 8 31) rfl rfl (one_of HT_.out (by kernel_rfl)) (by decide) (fun K hK => ?_)
        refine goes_ Try.func77 (by kernel_rfl) rfl #[.agg #[.slice (some ao) ab.length aP, .int .i64 ai, .slice aK ah.length aL, .slice aG ag.length aH], .int .i64 a1] (by rfl) rfl rfl zg ?_
        with_reducible refine (spec_l05Tray.calls _ _ ab ai _ _ ah _ _ ag a1 an _ ?side1 ?side2 ?side3 ?side4 ?side5 ?side6 A12.out).mono ?_
        (case side1 => exact zs (Kd.V_reads' ac.out).2.2)
        (case side2 => exact (Kd.V_reads' ac.out).2.1)
        (case side3 => exact zs (Kd.V_reads' ad.out).2.2)
        (case side4 => exact (Kd.V_reads' ad.out).2.1)
        (case side5 => exact zs (Kd.V_reads' ae.out).2.2)
        (case side6 => exact (Kd.V_reads' ae.out).2.1)
        rintro e w26 ⟨rfl, hb⟩
        have bl := (hb.cell (World.block_lt_of_cell? _ _ (hHeld.2.2.2.2))).trans (hHeld.2.2.2.2)
        refine ⟨_, rfl, ?_⟩
        replace ac := zK (Kd.V_below (by (with_reducible repeat (first | apply Kd.V_alloc | apply Kd.V_drewN | apply Kd.V_drew)); exact ac.out) hb); replace ad := zK (Kd.V_below (by (with_reducible repeat (first | apply Kd.V_alloc | apply Kd.V_drewN | apply Kd.V_drew)); exact ad.out) hb); replace ae := zK (Kd.V_below (by (with_reducible repeat (first | apply Kd.V_alloc | apply Kd.V_drewN | apply Kd.V_drew)); exact ae.out) hb); replace aa := zK (blk_below (g := af) (o := .cells #[.slice (some ao) ab.length aP, .int .i64 ai, .slice aK ah.length aL, .slice aG ag.length aH] 28 (0, 0)) (zk aa) hb); replace HB := zK (below_step (zb HB) hb); (try clear hb); (try clear hb2); (try clear hk); (try clear hi)
        refine hK.out _ _ ⟨(blk_cell aa.out 0).trans rfl, (blk_cell aa.out 1).trans rfl, (blk_cell aa.out 2).trans rfl, (blk_cell aa.out 3).trans rfl, bl⟩ (fun hHeld => ?_)
        clear hK K
        refine norm_ (a' := ?_) ?_ ?_
        rotate_left
        ·show Act.put _ (some 19) _ = _
         simp only [Act.put, zp, zq, zr, i64_w, i32_w]
         rfl
        refine zu 5 (some 20) (zv 8 63) (any_of HT_.out (by kernel_rfl)) ?_
        refine zt 6 (some 21) (zv 8 127) (take_ofW HT_.out HW_.out (by kernel_rfl)) hHeld ?_
        refine zu 7 (some 22) (zv 8 255) (any_of HT_.out (by kernel_rfl)) ?_
        refine done_ (done_of HT_.out (by kernel_rfl)) ?_
        obtain ⟨hcz27_0, hcz27_1, hcz27_2, hcz27_3⟩ := zL4 aa
        obtain ⟨hfz27_0, hfz27_1, hfz27_2, hfz27_3⟩ := zF4 aa
        try go_wp2_with ((with_reducible refine gate_callee (f := 56) rfl ?_); refine goesL_ (some 25) rfl rfl Try.func56 (by kernel_rfl) rfl #[.agg #[.slice (some ao) ab.length aP, .int .i64 ai, .slice aK ah.length aL, .slice aG ag.length aH]] rfl zg ?_; (with_reducible refine (spec_l05Step.calls k1 _ _ ab ai _ _ ah _ _ ag aJ aN aO aS _ ?side1 ?side2 ?side3 ?side4 ?side5 ?side6 A21.out).mono ?_); (case side1 => exact zs (Kd.V_reads' ac.out).2.2); (case side2 => exact (Kd.V_reads' ac.out).2.1); (case side3 => exact zs (Kd.V_reads' ad.out).2.2); (case side4 => exact (Kd.V_reads' ad.out).2.1); (case side5 => exact zs (Kd.V_reads' ae.out).2.2); (case side6 => exact (Kd.V_reads' ae.out).2.1); rintro e w28 ⟨v226, v230, v233, rfl, ho0, ho1, ho2, hb⟩; refine ⟨_, rfl, ?_⟩; replace ac := zK (Kd.V_mono (Kd.V_told (Kd.V_told (Kd.V_told (Kd.V_old (by (with_reducible repeat (first | apply Kd.V_alloc | apply Kd.V_drewN | apply Kd.V_drew)); exact ac.out) hb) (Kd.R_base ho0)) (Kd.S_base ho1)) (Kd.S_base ho2)) (fun _ h_ => h_.1)); replace ad := zK (Kd.V_mono (Kd.V_told (Kd.V_told (Kd.V_told (Kd.V_old (by (with_reducible repeat (first | apply Kd.V_alloc | apply Kd.V_drewN | apply Kd.V_drew)); exact ad.out) hb) (Kd.R_base ho0)) (Kd.S_base ho1)) (Kd.S_base ho2)) (fun _ h_ => h_.1)); replace ae := zK (Kd.V_mono (Kd.V_told (Kd.V_told (Kd.V_told (Kd.V_old (by (with_reducible repeat (first | apply Kd.V_alloc | apply Kd.V_drewN | apply Kd.V_drew)); exact ae.out) hb) (Kd.R_base ho0)) (Kd.S_base ho1)) (Kd.S_base ho2)) (fun _ h_ => h_.1)); have a2 := zK (Kd.R_lower (Kd.R_newM (M := fun k_ => (w.heap.size ≤ k_)) ho0 (below_size (zb HB)) (fun k_ h_ => h_)) (below_size (zb HB))); have a3 := zK (Kd.S_lower (Kd.S_newM (M := fun k_ => (w.heap.size ≤ k_)) ho1 (below_size (zb HB)) (fun k_ h_ => h_)) (below_size (zb HB))); have a4 := zK (Kd.S_lower (Kd.S_newM (M := fun k_ => (w.heap.size ≤ k_)) ho2 (below_size (zb HB)) (fun k_ h_ => h_)) (below_size (zb HB))); replace aa := zK (blk_below (g := af) (o := .cells #[.slice (some ao) ab.length aP, .int .i64 ai, .slice aK ah.length aL, .slice aG ag.length aH] 28 (0, 0)) (zk aa) hb); replace HB := zK (below_step (zb HB) hb); (try clear hb); (try clear ho0); (try clear ho1); (try clear ho2); obtain ⟨aT, aU, eo29⟩ := Kd.R_slice a2.out; subst eo29; obtain ⟨hcz30_0, hcz30_1, hcz30_2, hcz30_3⟩ := zL4 aa; obtain ⟨hfz30_0, hfz30_1, hfz30_2, hfz30_3⟩ := zF4 aa; obtain ⟨aV, aW, eo31⟩ := Kd.S_slice a3.out; subst eo31; obtain ⟨aX, aY, eo32⟩ := Kd.S_slice a4.out; subst eo32)
        go_roundg k1
        case measure => have := HK1.out; omega
        case rel => exact ⟨(wrap64 (aI + 1)), (aJ), (aN), (aO), (aS), (.slice aT aJ.length aU), (.slice aV aO.length aW), (.slice aX aS.length aY), zf, H', ⟨by have := HK1.out; omega⟩, ⟨Kd.V_mono (Kd.R_V (by (with_reducible repeat (first | apply Kd.R_alloc | apply Kd.R_drewN | apply Kd.R_drew)); exact Kd.R_mono (ok' := fun k_ => (((w.heap.size ≤ k_)) ∧ k_ ≠ af)) (Kd.R_far (p := ⟨af, 3, none⟩) (Kd.R_far (p := ⟨af, 2, none⟩) (Kd.R_far (p := ⟨af, 1, none⟩) (Kd.R_far (p := ⟨af, 0, none⟩) (Kd.R_types (Kd.R_types a2.out aa.out (by decide)) aa.out (by decide)) (fun _ hk => hk.2) (.slice aT aJ.length aU)) (fun _ hk => hk.2) (.int .i64 aN)) (fun _ hk => hk.2) (.slice aV aO.length aW)) (fun _ hk => hk.2) (.slice aX aS.length aY)) (fun _ hk => ⟨hk.1.1.1, hk.1.2⟩))) (fun k_ hk => by first | exact ⟨(.inr (hk.1)), hk.2⟩ | exact (.inr (hk)))⟩, ⟨Kd.V_mono (Kd.S_V (by (with_reducible repeat (first | apply Kd.S_alloc | apply Kd.S_drewN | apply Kd.S_drew)); exact Kd.S_mono (ok' := fun k_ => (((w.heap.size ≤ k_)) ∧ k_ ≠ af)) (Kd.S_far (p := ⟨af, 3, none⟩) (Kd.S_far (p := ⟨af, 2, none⟩) (Kd.S_far (p := ⟨af, 1, none⟩) (Kd.S_far (p := ⟨af, 0, none⟩) (Kd.S_types (Kd.S_types a3.out aa.out (by decide)) aa.out (by decide)) (fun _ hk => hk.2) (.slice aT aJ.length aU)) (fun _ hk => hk.2) (.int .i64 aN)) (fun _ hk => hk.2) (.slice aV aO.length aW)) (fun _ hk => hk.2) (.slice aX aS.length aY)) (fun _ hk => ⟨hk.1.1.1, hk.1.2⟩))) (fun k_ hk => by first | exact ⟨(.inr (hk.1)), hk.2⟩ | exact (.inr (hk)))⟩, ⟨Kd.V_mono (Kd.S_V (by (with_reducible repeat (first | apply Kd.S_alloc | apply Kd.S_drewN | apply Kd.S_drew)); exact Kd.S_mono (ok' := fun k_ => (((w.heap.size ≤ k_)) ∧ k_ ≠ af)) (Kd.S_far (p := ⟨af, 3, none⟩) (Kd.S_far (p := ⟨af, 2, none⟩) (Kd.S_far (p := ⟨af, 1, none⟩) (Kd.S_far (p := ⟨af, 0, none⟩) (Kd.S_types (Kd.S_types a4.out aa.out (by decide)) aa.out (by decide)) (fun _ hk => hk.2) (.slice aT aJ.length aU)) (fun _ hk => hk.2) (.int .i64 aN)) (fun _ hk => hk.2) (.slice aV aO.length aW)) (fun _ hk => hk.2) (.slice aX aS.length aY)) (fun _ hk => ⟨hk.1.1.1, hk.1.2⟩))) (fun k_ hk => by first | exact ⟨(.inr (hk.1)), hk.2⟩ | exact (.inr (hk)))⟩, ⟨by (with_reducible repeat (first | refine zN ?_ _ | refine zD ?_ | refine zA ?_ _)); refine blk_put (cs := #[.slice aT aJ.length aU, .int .i64 aN, .slice aV aO.length aW, .slice aG ag.length aH]) ?_ 3 _ rfl; (with_reducible repeat (first | refine zN ?_ _ | refine zD ?_ | refine zA ?_ _)); refine blk_put (cs := #[.slice aT aJ.length aU, .int .i64 aN, .slice aK ah.length aL, .slice aG ag.length aH]) ?_ 2 _ rfl; (with_reducible repeat (first | refine zN ?_ _ | refine zD ?_ | refine zA ?_ _)); refine blk_put (cs := #[.slice aT aJ.length aU, .int .i64 ai, .slice aK ah.length aL, .slice aG ag.length aH]) ?_ 1 _ rfl; (with_reducible repeat (first | refine zN ?_ _ | refine zD ?_ | refine zA ?_ _)); refine blk_put (cs := #[.slice (some ao) ab.length aP, .int .i64 ai, .slice aK ah.length aL, .slice aG ag.length aH]) ?_ 0 _ rfl; (with_reducible repeat (first | refine zN ?_ _ | refine zD ?_ | refine zA ?_ _)); exact aa.out⟩, ⟨zb HB⟩⟩
      ·rw [if_neg c14] at H
       exact absurd H (by simp)
     ·rw [if_neg c13] at H
      exact absurd H (by simp)
    ·rw [if_neg bm] at H
     have bp : decide (aI ≤ 600) = false := decide_eq_false bm
     clear bm
     simp only [Option.some.injEq, Prod.mk.injEq] at H
     obtain ⟨rfl, rfl⟩ := H
     go_wp2
     go_ret2
     exact ⟨ze, zb HB⟩
mutual
def impl_copyLoop.l0 : Nat → List (S69) → Int → Int → List Int → Int → List (S69) → List (S74) → List Int → Int → List (S69) → Option (List Int × Int × (List (S69)) × (List (S74)))
 | 0, _, _, _, _, _, _, _, _, _, _ => none
 | k + 1, a, b, c, d, e, f, g, i, j, l => if c < b then (if 0 ≤ c then (if c < (a.length : Int) then ((slices_Clone_int_int.f ((rd_T69 a c).f2)).bind fun m => (if l.length < 3518437208883 then (impl_copyLoop.l0 k a b (wrap64 (c + 1)) d e f g i j (l ++ [(⟨(rd_T69 a c).f0, (rd_T69 a c).f1, m⟩ : S69)])) else (none))) else (none)) else (none)) else (impl_copyLoop.l1 k g (g.length : Int) 0 i j l ([] : List (S74)))
def impl_copyLoop.l1 : Nat → List (S74) → Int → Int → List Int → Int → List (S69) → List (S74) → Option (List Int × Int × (List (S69)) × (List (S74)))
 | 0, _, _, _, _, _, _, _ => none
 | k + 1, a, b, c, d, e, f, g => if c < b then (if 0 ≤ c then (if c < (a.length : Int) then ((slices_Clone_int_int.f ((rd_T74 a c).f1)).bind fun i => (if g.length < 4398046511104 then (impl_copyLoop.l1 k a b (wrap64 (c + 1)) d e f (g ++ [(⟨(rd_T74 a c).f0, i⟩ : S74)])) else (none))) else (none)) else (none)) else (some (d, e, f, g))
end
def impl_copyLoop.f (k : Nat) (a : List Int) (b : Int) (c : List (S69)) (d : List (S74)) : Option (List Int × Int × (List (S69)) × (List (S74))) := (slices_Clone_int_int.f a).bind fun e => (impl_copyLoop.l0 k c (c.length : Int) 0 a b c d e b ([] : List (S69)))
def impl_copyLoop.T1 : Bool × List (List Nat × List Nat) := (true, [([], []), ([0], [0]), ([1], [1]), ([], []), ([3], [3]), ([2, 4], [2, 4]), ([], []), ([6, 5, 2, 0, 1, 2, 3, 4, 5, 6], [5, 6])])
def impl_copyLoop.B1 : List Nat := [0, 1, 3, 0, 8, 31, 0, 127]
theorem impl_copyLoop.tab1 : rtab .any (opsOf Try.f53 1) = impl_copyLoop.T1 := by kernel_rfl
theorem impl_copyLoop.bits1 : waitsOk impl_copyLoop.T1.2 impl_copyLoop.B1 = true := by kernel_rfl
set_option maxHeartbeats 8000000 in
set_option maxRecDepth 100000 in
theorem impl_copyLoop.calls2 (k : Nat) (aI : Option Addr) (aJ : Nat) (aA : List Int) (a0_1 : Int) (aN : Option Addr) (aK : Nat) (ah : List (S69)) (aQ : Option Addr) (aM : Nat) (al : List (S74)) (r1 : List Int) (r2 : Int) (r3 : List (S69)) (r4 : List (S74)) (w : World) (cl : Kd.C (Kd.int .i64) w aI aA.length aA) (hc0_0 : aA.length ≤ aJ) (cm : Kd.C k69 w aN ah.length ah) (hc0_2 : ah.length ≤ aK) (cn : Kd.C k74 w aQ al.length al) (hc0_3 : al.length ≤ aM) (h : impl_copyLoop.f k aA a0_1 ah al = some (r1, r2, r3, r4)) :
  Calls Try.prog 53 #[.agg #[.slice aI aA.length aJ, .int .i64 a0_1, .slice aN ah.length aK, .slice aQ al.length aM]] w fun e w' => ∃ (v0_ v2_ v3_ : Value) (N_ : Nat), e = .returned (.agg #[v0_, .int .i64 r2, v2_, v3_]) ∧ Kd.R (Kd.int .i64) 3 w' w.heap.size (fun _ => True) v0_ r1 ∧ Kd.S k69 69 w' w.heap.size (fun k_ => some k_ ≠ (v0_ : Value).ownBlock ∧ k_ < N_) v2_ r3 ∧ Kd.S k74 74 w' N_ (fun k_ => some k_ ≠ (v0_ : Value).ownBlock) v3_ r4 ∧ w.heap.size ≤ N_ ∧ Below w.heap.size w w' := by
 have hu28 := Try.underlying28; have hu69 := Try.underlying69; have hu74 := Try.underlying74; have co := zK cl; have cp := zK hc0_0; clear cl hc0_0; have cD := zK cm; have HC0_2 := zK hc0_2; clear cm hc0_2; have cE := zK cn; have HC0_3 := zK hc0_3; clear cn hc0_3
 have HB := zK (Below.refl w.heap.size w)
 have H := h; unfold impl_copyLoop.f at H
 clear h; replace H := Option.bind_eq_some_iff.mp H
 obtain ⟨an, A20, H⟩ := H
 (try dsimp only at H)
 have A2 := zK A20; clear A20; have H' := zK H; clear H
 go_enter Try.func53, Try.ntmps53
 try go_wp2_with (first | ((with_reducible refine gate_dst (N := 1) rfl ?_); refine zX 1 #[.slice aI aA.length aJ, .int .i64 a0_1, .slice aN ah.length aK, .slice aQ al.length aM] 28 ?_; intro ai hg w3 hbox hb; have aa := zK (hbox); have GW235 := zK ((by rw [hg]; exact (below_size (zb HB)) : w.heap.size ≤ ai)); have av := zK ((by rw [hg]; exact (below_size (zb HB)) : w.heap.size ≤ ai)); replace HB := zK (below_step (zb HB) hb); clear hb hbox hg) | ((with_reducible refine gate_dst (N := 2) rfl ?_); refine zX 2 #[.slice none 0 0, .int .i64 0, .slice none 0 0, .slice none 0 0] 28 ?_; intro aj hg w4 hbox hb; have ag := zK (hbox); have GW236 := zK ((by rw [hg]; exact (below_size (zb HB)) : w.heap.size ≤ aj)); have az := zK ((by rw [hg]; exact (below_size (zb HB)) : w.heap.size ≤ aj)); replace HB := zK (below_step (zb HB) hb); have bg := zK ((by rw [hg]; exact Nat.ne_of_lt (blk_lt (g := ai) (o := .cells #[.slice aI aA.length aJ, .int .i64 a0_1, .slice aN ah.length aK, .slice aQ al.length aM] 28 (0, 0)) (zk aa)) : ai ≠ aj)); have bh := zK ((by rw [hg]; exact Nat.ne_of_gt (blk_lt (g := ai) (o := .cells #[.slice aI aA.length aJ, .int .i64 a0_1, .slice aN ah.length aK, .slice aQ al.length aM] 28 (0, 0)) (zk aa)) : aj ≠ ai)); replace aa := zK (blk_below (g := ai) (o := .cells #[.slice aI aA.length aJ, .int .i64 a0_1, .slice aN ah.length aK, .slice aQ al.length aM] 28 (0, 0)) (zk aa) hb); clear hb hbox hg))
 replace aa := zK (zD aa.out); replace ag := zK (zD ag.out); replace HB := zK (zE HB.out)
 refine start_ (n := 8) (S := fun w' => w'.cell? ⟨ai, 0, none⟩ = some (.slice aI aA.length aJ) ∧ w'.cell? ⟨ai, 1, none⟩ = some (.int .i64 a0_1) ∧ w'.cell? ⟨ai, 2, none⟩ = some (.slice aN ah.length aK) ∧ w'.cell? ⟨ai, 3, none⟩ = some (.slice aQ al.length aM)) (ds := []) (zv 8 0) (by kernel_rfl) rfl rfl ⟨(blk_cell aa.out 0).trans rfl, (blk_cell aa.out 1).trans rfl, (blk_cell aa.out 2).trans rfl, (blk_cell aa.out 3).trans rfl⟩ (fun hHeld => ?_); refine with_tabW impl_copyLoop.tab1 impl_copyLoop.bits1 (fun HT_ HW_ => ?_)
 generalize w4.drew = w5 at aa ag HB hHeld ⊢
 refine zu 0 (some 8) (zv 8 1) (any_of HT_.out (by kernel_rfl)) ?_
 refine zu 3 (some 11) (zv 8 9) (any_of HT_.out (by kernel_rfl)) ?_
 refine zt 1 (some 9) (zv 8 11) (take_ofW HT_.out HW_.out (by kernel_rfl)) hHeld ?_
 refine zt 4 (some 12) (zv 8 27) (take_ofW HT_.out HW_.out (by kernel_rfl)) hHeld ?_
 refine join_ (σ := Value × Nat) 1 (zv 8 127) (fun s_ => [(10, s_.1), (3, .pointer (some ⟨s_.2, 0, none⟩)), (13, .agg #[s_.1, .int .i64 a0_1, .slice none 0 0, .slice none 0 0])]) (fun s_ w' => (w'.cell? ⟨ai, 0, none⟩ = some (.slice aI aA.length aJ) ∧ w'.cell? ⟨ai, 1, none⟩ = some (.int .i64 a0_1) ∧ w'.cell? ⟨ai, 2, none⟩ = some (.slice aN ah.length aK) ∧ w'.cell? ⟨ai, 3, none⟩ = some (.slice aQ al.length aM)) ∧ (Kd.R (Kd.int .i64) 3 w' w.heap.size (fun _ => True) s_.1 an) ∧ (w'.heap[ai]? = some (.cells #[.slice aI aA.length aJ, .int .i64 a0_1, .slice aN ah.length aK, .slice aQ al.length aM] 28 (0, 0))) ∧ (w'.heap[aj]? = some (.cells #[.slice none 0 0, .int .i64 0, .slice none 0 0, .slice none 0 0] 28 (0, 0))) ∧ (w'.heap[s_.2]? = some (.cells #[.slice none 0 0, .int .i64 0, .slice none 0 0, .slice none 0 0] 28 (0, 0))) ∧ (w.heap.size ≤ s_.2) ∧ (w.heap.size ≤ s_.2) ∧ (ai ≠ s_.2) ∧ (s_.2 ≠ ai) ∧ (aj ≠ s_.2) ∧ (s_.2 ≠ aj) ∧ (Below w.heap.size w w')) ?_ ?_
 rotate_left
 ·intro hCont
  refine two_ (i := 2) (j := 6) (Ni := some 10) (Nj := some 3) (zv 8 31) (zv 8 91) rfl rfl rfl rfl (two_of HT_.out (by kernel_rfl)) (by decide) (by decide) (fun K hK => ?_) (fun K hK => ?_)
  ·skip
   refine goes_ Try.func58 (by kernel_rfl) rfl #[.slice aI aA.length aJ] (by rfl) rfl rfl zg ?_
   with_reducible refine (slices_Clone_int_int.calls _ _ aA an _ ?side1 ?side2 A2.out).mono ?_
   (case side1 => exact zs (Kd.C_below co.out HB.out))
   (case side2 => exact cp.out)
   rintro e w6 ⟨cu, rfl, ho0, hb⟩
   refine ⟨_, rfl, ?_⟩
   have a4 := zK (Kd.R_lower ho0 (below_size (zb HB))); replace aa := zK (blk_below (g := ai) (o := .cells #[.slice aI aA.length aJ, .int .i64 a0_1, .slice aN ah.length aK, .slice aQ al.length aM] 28 (0, 0)) (zk aa) hb); replace ag := zK (blk_below (g := aj) (o := .cells #[.slice none 0 0, .int .i64 0, .slice none 0 0, .slice none 0 0] 28 (0, 0)) (zk ag) hb); replace HB := zK (below_step (zb HB) hb); (try clear hb); (try clear hb2); (try clear hk); (try clear hi); (try clear ho0)
   obtain ⟨Ao7, co7, eo7⟩ := Kd.R_slice a4.out
   (first | subst eo7)
   refine hK.out _ _ ⟨(blk_cell aa.out 0).trans rfl, (blk_cell aa.out 1).trans rfl, (blk_cell aa.out 2).trans rfl, (blk_cell aa.out 3).trans rfl⟩ (fun hHeld => ?_)
   clear hK K
   refine norm_ (a' := ?_) ?_ ?_
   rotate_left
   ·show Act.put _ (some 10) _ = _
    simp only [Act.put, zp, zq, zr, i64_w, i32_w]
    rfl
   refine zu 5 (some 13) (zv 8 63) (any_of HT_.out (by kernel_rfl)) ?_
   refine one_ (i := 6) (N := some 3) (zv 8 127) rfl rfl (one_of HT_.out (by kernel_rfl)) (by decide) (fun K hK => ?_)
   refine box_step ?hg (N := 3) ?hd (cs := #[.slice none 0 0, .int .i64 0, .slice none 0 0, .slice none 0 0]) (t := 28) ?hr ?_; (case hd => rfl); (case hg => rfl); (case hr => first | (go_simp; done) | (go_simp; rfl))
   intro ac hg w8 hbox hb
   replace a4 := zK (Kd.R_below (zR a4) hb); have ab := zK (hbox); have bC := zK ((by rw [hg]; exact (below_size (zb HB)) : w.heap.size ≤ ac)); have aG := zK ((by rw [hg]; exact (below_size (zb HB)) : w.heap.size ≤ ac)); replace HB := zK (below_step (zb HB) hb); have ae := zK ((by rw [hg]; exact Nat.ne_of_lt (blk_lt (g := ai) (o := .cells #[.slice aI aA.length aJ, .int .i64 a0_1, .slice aN ah.length aK, .slice aQ al.length aM] 28 (0, 0)) (zk aa)) : ai ≠ ac)); have aC := zK ((by rw [hg]; exact Nat.ne_of_gt (blk_lt (g := ai) (o := .cells #[.slice aI aA.length aJ, .int .i64 a0_1, .slice aN ah.length aK, .slice aQ al.length aM] 28 (0, 0)) (zk aa)) : ac ≠ ai)); replace aa := zK (blk_below (g := ai) (o := .cells #[.slice aI aA.length aJ, .int .i64 a0_1, .slice aN ah.length aK, .slice aQ al.length aM] 28 (0, 0)) (zk aa) hb); have aq := zK ((by rw [hg]; exact Nat.ne_of_lt (blk_lt (g := aj) (o := .cells #[.slice none 0 0, .int .i64 0, .slice none 0 0, .slice none 0 0] 28 (0, 0)) (zk ag)) : aj ≠ ac)); have aH := zK ((by rw [hg]; exact Nat.ne_of_gt (blk_lt (g := aj) (o := .cells #[.slice none 0 0, .int .i64 0, .slice none 0 0, .slice none 0 0] 28 (0, 0)) (zk ag)) : ac ≠ aj)); replace ag := zK (blk_below (g := aj) (o := .cells #[.slice none 0 0, .int .i64 0, .slice none 0 0, .slice none 0 0] 28 (0, 0)) (zk ag) hb); clear hb hbox hg
   refine hK.out _ _ ⟨(blk_cell aa.out 0).trans rfl, (blk_cell aa.out 1).trans rfl, (blk_cell aa.out 2).trans rfl, (blk_cell aa.out 3).trans rfl⟩ (fun hHeld => ?_)
   clear hK K
   refine norm_ (a' := ?_) ?_ ?_
   rotate_left
   ·show Act.put _ (some 3) _ = _
    simp only [Act.put, zp, zq, zr, i64_w, i32_w]
    rfl
   exact norm_ (by simp only [putAll, Act.put, List.setIfInBounds_toArray, List.set_cons_zero, List.set_cons_succ] <;> first | rfl | (simp only [i64_w, i32_w]; done) | (simp only [i64_w, i32_w]; rfl)) (hCont (.slice Ao7 an.length co7, ac) _ ⟨hHeld, (zR a4), (zk aa), (zk ag), (zk ab), bC.out, aG.out, ae.out, aC.out, aq.out, aH.out, (zb HB)⟩)
  ·skip
   refine box_step ?hg (N := 3) ?hd (cs := #[.slice none 0 0, .int .i64 0, .slice none 0 0, .slice none 0 0]) (t := 28) ?hr ?_; (case hd => rfl); (case hg => rfl); (case hr => first | (go_simp; done) | (go_simp; rfl))
   intro ac hg w6 hbox hb
   have ab := zK (hbox); have bC := zK ((by rw [hg]; exact (below_size (zb HB)) : w.heap.size ≤ ac)); have aG := zK ((by rw [hg]; exact (below_size (zb HB)) : w.heap.size ≤ ac)); replace HB := zK (below_step (zb HB) hb); have ae := zK ((by rw [hg]; exact Nat.ne_of_lt (blk_lt (g := ai) (o := .cells #[.slice aI aA.length aJ, .int .i64 a0_1, .slice aN ah.length aK, .slice aQ al.length aM] 28 (0, 0)) (zk aa)) : ai ≠ ac)); have aC := zK ((by rw [hg]; exact Nat.ne_of_gt (blk_lt (g := ai) (o := .cells #[.slice aI aA.length aJ, .int .i64 a0_1, .slice aN ah.length aK, .slice aQ al.length aM] 28 (0, 0)) (zk aa)) : ac ≠ ai)); replace aa := zK (blk_below (g := ai) (o := .cells #[.slice aI aA.length aJ, .int .i64 a0_1, .slice aN ah.length aK, .slice aQ al.length aM] 28 (0, 0)) (zk aa) hb); have aq := zK ((by rw [hg]; exact Nat.ne_of_lt (blk_lt (g := aj) (o := .cells #[.slice none 0 0, .int .i64 0, .slice none 0 0, .slice none 0 0] 28 (0, 0)) (zk ag)) : aj ≠ ac)); have aH := zK ((by rw [hg]; exact Nat.ne_of_gt (blk_lt (g := aj) (o := .cells #[.slice none 0 0, .int .i64 0, .slice none 0 0, .slice none 0 0] 28 (0, 0)) (zk ag)) : ac ≠ aj)); replace ag := zK (blk_below (g := aj) (o := .cells #[.slice none 0 0, .int .i64 0, .slice none 0 0, .slice none 0 0] 28 (0, 0)) (zk ag) hb); clear hb hbox hg
   refine hK.out _ _ ⟨(blk_cell aa.out 0).trans rfl, (blk_cell aa.out 1).trans rfl, (blk_cell aa.out 2).trans rfl, (blk_cell aa.out 3).trans rfl⟩ (fun hHeld => ?_)
   clear hK K
   refine norm_ (a' := ?_) ?_ ?_
   rotate_left
   ·show Act.put _ (some 3) _ = _
    simp only [Act.put, zp, zq, zr, i64_w, i32_w]
    rfl
   refine one_ (i := 2) (N := some 10) (zv 8 95) rfl rfl (one_of HT_.out (by kernel_rfl)) (by decide) (fun K hK => ?_)
   refine goes_ Try.func58 (by kernel_rfl) rfl #[.slice aI aA.length aJ] (by rfl) rfl rfl zg ?_
   with_reducible refine (slices_Clone_int_int.calls _ _ aA an _ ?side1 ?side2 A2.out).mono ?_
   (case side1 => exact zs (Kd.C_below co.out HB.out))
   (case side2 => exact cp.out)
   rintro e w7 ⟨cu, rfl, ho0, hb⟩
   refine ⟨_, rfl, ?_⟩
   have a4 := zK (Kd.R_lower ho0 (below_size (zb HB))); replace aa := zK (blk_below (g := ai) (o := .cells #[.slice aI aA.length aJ, .int .i64 a0_1, .slice aN ah.length aK, .slice aQ al.length aM] 28 (0, 0)) (zk aa) hb); replace ag := zK (blk_below (g := aj) (o := .cells #[.slice none 0 0, .int .i64 0, .slice none 0 0, .slice none 0 0] 28 (0, 0)) (zk ag) hb); replace ab := zK (blk_below (g := ac) (o := .cells #[.slice none 0 0, .int .i64 0, .slice none 0 0, .slice none 0 0] 28 (0, 0)) (zk ab) hb); replace HB := zK (below_step (zb HB) hb); (try clear hb); (try clear hb2); (try clear hk); (try clear hi); (try clear ho0)
   obtain ⟨Ao8, co8, eo8⟩ := Kd.R_slice a4.out
   (first | subst eo8)
   refine hK.out _ _ ⟨(blk_cell aa.out 0).trans rfl, (blk_cell aa.out 1).trans rfl, (blk_cell aa.out 2).trans rfl, (blk_cell aa.out 3).trans rfl⟩ (fun hHeld => ?_)
   clear hK K
   refine norm_ (a' := ?_) ?_ ?_
   rotate_left
   ·show Act.put _ (some 10) _ = _
    simp only [Act.put, zp, zq, zr, i64_w, i32_w]
    rfl
   refine zu 5 (some 13) (zv 8 127) (any_of HT_.out (by kernel_rfl)) ?_
   exact norm_ (by simp only [putAll, Act.put, List.setIfInBounds_toArray, List.set_cons_zero, List.set_cons_succ] <;> first | rfl | (simp only [i64_w, i32_w]; done) | (simp only [i64_w, i32_w]; rfl)) (hCont (.slice Ao8 an.length co8, ac) _ ⟨hHeld, (zR a4), (zk aa), (zk ag), (zk ab), bC.out, aG.out, ae.out, aC.out, aq.out, aH.out, (zb HB)⟩)
 rintro ⟨cu, ac⟩ w9 ⟨hS_, h0_, h1_, h2_, h3_, h4_, h5_, h6_, h7_, h8_, h9_, h10_⟩
 have aR : Aside0 (Kd.R (Kd.int .i64) 3 w9 w.heap.size (fun _ => True) cu an) := ⟨h0_⟩
 have aT : Aside0 (w9.heap[ai]? = some (.cells #[.slice aI aA.length aJ, .int .i64 a0_1, .slice aN ah.length aK, .slice aQ al.length aM] 28 (0, 0))) := ⟨h1_⟩
 have aU : Aside0 (w9.heap[aj]? = some (.cells #[.slice none 0 0, .int .i64 0, .slice none 0 0, .slice none 0 0] 28 (0, 0))) := ⟨h2_⟩
 have aV : Aside0 (w9.heap[ac]? = some (.cells #[.slice none 0 0, .int .i64 0, .slice none 0 0, .slice none 0 0] 28 (0, 0))) := ⟨h3_⟩
 have a1 : Aside0 (w.heap.size ≤ ac) := ⟨h4_⟩
 have a2 : Aside0 (w.heap.size ≤ ac) := ⟨h5_⟩
 have a3 : Aside0 (ai ≠ ac) := ⟨h6_⟩
 have bf : Aside0 (ac ≠ ai) := ⟨h7_⟩
 have bo : Aside0 (aj ≠ ac) := ⟨h8_⟩
 have bB : Aside0 (ac ≠ aj) := ⟨h9_⟩
 have bk : Aside0 (Below w.heap.size w w9) := ⟨h10_⟩
 clear aa ag HB h0_ h1_ h2_ h3_ h4_ h5_ h6_ h7_ h8_ h9_ h10_; have a4 := aR; have aa := aT; have ag := aU; have ab := aV; have bC := a1; have aG := a2; have ae := a3; have aC := bf; have aq := bo; have aH := bB; have HB := bk; clear aR aT aU aV a1 a2 a3 bf bo bB bk
 have hHeld : w9.cell? ⟨ai, 0, none⟩ = some (.slice aI aA.length aJ) ∧ w9.cell? ⟨ai, 1, none⟩ = some (.int .i64 a0_1) ∧ w9.cell? ⟨ai, 2, none⟩ = some (.slice aN ah.length aK) ∧ w9.cell? ⟨ai, 3, none⟩ = some (.slice aQ al.length aM) := hS_
 obtain ⟨ax, ay, eo10⟩ := Kd.R_slice a4.out
 (first | subst eo10)
 refine norm_ (a' := ?_) ?_ ?_
 rotate_left
 ·simp only [putAll, Act.put, List.setIfInBounds_toArray, List.set_cons_zero, List.set_cons_succ]
  rfl
 refine one_ (i := 7) (N := none) (zv 8 255) rfl rfl (one_of HT_.out (by kernel_rfl)) (by decide) (fun K hK => ?_)
 have hs11 : w9.cell? ⟨ac, 0, none⟩ = some (.slice none 0 0) := (blk_cell ab.out 0).trans rfl
 have hfs11 := blk_frozen ab.out 0; have hns11_0 := ae.out; have hns11_1 := aq.out; have hms11_0 := aC.out; have hms11_1 := aH.out
 have hs12 : w9.cell? ⟨ac, 1, none⟩ = some (.int .i64 0) := (blk_cell ab.out 1).trans rfl
 have hfs12 := blk_frozen ab.out 1; have hns12_0 := ae.out; have hns12_1 := aq.out; have hms12_0 := aC.out; have hms12_1 := aH.out
 have hs13 : w9.cell? ⟨ac, 2, none⟩ = some (.slice none 0 0) := (blk_cell ab.out 2).trans rfl
 have hfs13 := blk_frozen ab.out 2; have hns13_0 := ae.out; have hns13_1 := aq.out; have hms13_0 := aC.out; have hms13_1 := aH.out
 have hs14 : w9.cell? ⟨ac, 3, none⟩ = some (.slice none 0 0) := (blk_cell ab.out 3).trans rfl
 have hfs14 := blk_frozen ab.out 3; have hns14_0 := ae.out; have hns14_1 := aq.out; have hms14_0 := aC.out; have hms14_1 := aH.out
 refine skip_ (w1 := ?_) (by rfl) rfl ?_ ?_
 rotate_left
 ·go_simp
  rfl
 refine hK.out _ _ ⟨((cell_far (p := ⟨ac, _, none⟩) ae.out _).trans (((cell_far (p := ⟨ac, _, none⟩) ae.out _).trans (((cell_far (p := ⟨ac, _, none⟩) ae.out _).trans (((cell_far (p := ⟨ac, _, none⟩) ae.out _).trans (hHeld.1)))))))), ((cell_far (p := ⟨ac, _, none⟩) ae.out _).trans (((cell_far (p := ⟨ac, _, none⟩) ae.out _).trans (((cell_far (p := ⟨ac, _, none⟩) ae.out _).trans (((cell_far (p := ⟨ac, _, none⟩) ae.out _).trans (hHeld.2.1)))))))), ((cell_far (p := ⟨ac, _, none⟩) ae.out _).trans (((cell_far (p := ⟨ac, _, none⟩) ae.out _).trans (((cell_far (p := ⟨ac, _, none⟩) ae.out _).trans (((cell_far (p := ⟨ac, _, none⟩) ae.out _).trans (hHeld.2.2.1)))))))), ((cell_far (p := ⟨ac, _, none⟩) ae.out _).trans (((cell_far (p := ⟨ac, _, none⟩) ae.out _).trans (((cell_far (p := ⟨ac, _, none⟩) ae.out _).trans (((cell_far (p := ⟨ac, _, none⟩) ae.out _).trans (hHeld.2.2.2))))))))⟩ (fun hHeld => ?_)
 clear hK K
 refine done_ (done_of HT_.out (by kernel_rfl)) ?_
 have hnb15 := bg.out; have hnc15 := bh.out; have hnb16 := ae.out; have hnc16 := aC.out
 obtain ⟨bX, bY, bZ, b0⟩ := zL4 aa
 obtain ⟨b1, b2, b3, b4⟩ := zF4 aa
 try go_wp2
 go_loopg [17] k (fun kq v17 w' => ∃ (ak : Int) (ao : List (S69)) (u241002 : Value), v17 = .int .i64 ak ∧ Aside0 (impl_copyLoop.l0 kq ah (ah.length : Int) ak aA a0_1 ah al an a0_1 ao = some (r1, r2, r3, r4)) ∧ Aside0 (kq ≤ k) ∧ Aside0 (Kd.R (Kd.int .i64) 3 w' w.heap.size (fun _ => True) (.slice ax an.length ay) an) ∧ Aside0 (Kd.S k69 69 w' w.heap.size (fun k_ => some k_ ≠ ((.slice ax an.length ay) : Value).ownBlock) u241002 ao) ∧ Aside0 (w'.heap[ai]? = some (.cells #[(.slice aI aA.length aJ), .int .i64 a0_1, (.slice aN ah.length aK), (.slice aQ al.length aM)] 28 (0, 0))) ∧ Aside0 (w'.heap[aj]? = some (.cells #[(.slice none 0 0), .int .i64 0, (.slice none 0 0), (.slice none 0 0)] 28 (0, 0))) ∧ Aside0 (w'.heap[ac]? = some (.cells #[(.slice ax an.length ay), .int .i64 a0_1, u241002, (.slice none 0 0)] 28 (0, 0))) ∧ Aside0 (Below w.heap.size w w'))
 case atStart => exact ⟨(0), (([] : List (S69))), (.slice none 0 0), zf, H', ⟨Nat.le_refl _⟩, ⟨by (with_reducible repeat (first | apply Kd.R_alloc | apply Kd.R_drewN | apply Kd.R_drew)); exact Kd.R_mono (Kd.R_far (p := ⟨ac, 3, none⟩) (Kd.R_far (p := ⟨ac, 2, none⟩) (Kd.R_far (p := ⟨ac, 1, none⟩) (Kd.R_far (p := ⟨ac, 0, none⟩) (Kd.R_types a4.out ab.out (by decide)) (fun _ hk => hk.2) (.slice ax an.length ay)) (fun _ hk => hk.2) (.int .i64 a0_1)) (fun _ hk => hk.2) (.slice none 0 0)) (fun _ hk => hk.2) (.slice none 0 0)) (fun _ hk => trivial)⟩, ⟨by first | exact Kd.S_nil _ _ _ _ _ | exact Kd.N_nil _ _ _ _ _ | exact Kd.V_nil _ _ _ _ _ | exact Kd.Q_nil _ _ _ _ _ | exact Kd.R_nil _ _ _ _ _⟩, ⟨zh aa ae⟩, ⟨zh ag aq⟩, ⟨by (with_reducible repeat (first | refine zN ?_ _ | refine zD ?_ | refine zA ?_ _)); refine blk_put (cs := #[.slice ax an.length ay, .int .i64 a0_1, .slice none 0 0, .slice none 0 0]) ?_ 3 _ rfl; (with_reducible repeat (first | refine zN ?_ _ | refine zD ?_ | refine zA ?_ _)); refine blk_put (cs := #[.slice ax an.length ay, .int .i64 a0_1, .slice none 0 0, .slice none 0 0]) ?_ 2 _ rfl; (with_reducible repeat (first | refine zN ?_ _ | refine zD ?_ | refine zA ?_ _)); refine blk_put (cs := #[.slice ax an.length ay, .int .i64 0, .slice none 0 0, .slice none 0 0]) ?_ 1 _ rfl; (with_reducible repeat (first | refine zN ?_ _ | refine zD ?_ | refine zA ?_ _)); refine blk_put (cs := #[.slice none 0 0, .int .i64 0, .slice none 0 0, .slice none 0 0]) ?_ 0 _ rfl; (with_reducible repeat (first | refine zN ?_ _ | refine zD ?_ | refine zA ?_ _)); exact ab.out⟩, ⟨zb HB⟩⟩
 case round =>
  clear H' bX bY bZ b0 b1 b2 b3 b4
  obtain ⟨ak, ao, u241002, rfl, HA, HK1, af, ad, aa, ag, ab, HB⟩ := hrel
  cases gk with
  | zero => exact absurd HA.out (by simp [impl_copyLoop.l0])
  | succ k1 =>
   have H := HA.out; clear HA
   simp only [impl_copyLoop.l0] at H
   by_cases cB : ak < (ah.length : Int)
   ·rw [if_pos cB] at H
    have cq : decide (ak < (ah.length : Int)) = true := decide_eq_true cB
    clear cB
    by_cases c19 : 0 ≤ ak
    ·rw [if_pos c19] at H
     have c19b0 : decide (0 ≤ ak) = true := decide_eq_true c19
     clear c19
     by_cases c20 : ak < (ah.length : Int)
     ·rw [if_pos c20] at H
      have c20b0 : decide (ak < (ah.length : Int)) = true := decide_eq_true c20
      clear c20; replace H := Option.bind_eq_some_iff.mp H
      obtain ⟨a0, cF, H⟩ := H
      (try dsimp only at H)
      have A21 := zK cF; clear cF
      by_cases c22 : ao.length < 3518437208883
      ·rw [if_pos c22] at H
       have cG := zK c22; clear c22
       obtain ⟨bO, bP⟩ : ∃ y_ : List (S69), y_ = (ao ++ [(⟨(rd_T69 ah ak).f0, (rd_T69 ah ak).f1, a0⟩ : S69)]) := ⟨_, rfl⟩
       replace H : (impl_copyLoop.l0 k1 ah (ah.length : Int) (wrap64 (ak + 1)) aA a0_1 ah al an a0_1 bO) = some (r1, r2, r3, r4) := by rw [bP]; with_reducible exact H
       have Ny246 := zK bP; clear bP; have H' := zK H; clear H
       have cv : 0 ≤ (ak : Int) := zd
       have cw : ak < (ah.length : Int) := zd
       obtain ⟨bp, ba, bb, e241, br, bs, bu, bD, bE⟩ := at_T69 cD.out ak cv cw
       cases e241
       replace br := (HB.out.cell (World.block_lt_of_cell? w _ br)).trans br
       replace bs := (HB.out.cell (World.block_lt_of_cell? w _ bs)).trans bs
       replace bu := (HB.out.cell (World.block_lt_of_cell? w _ bu)).trans bu
       have b5 := zK bE; have b6 := zK bD; clear bE bD; replace cv := eq_true cv; replace cw := eq_true cw
       go_wp2_with (first | ((with_reducible refine gate_dst (N := 5) rfl ?_); refine zX 5 #[.int .i64 0, .int .i64 0, .slice none 0 0] 69 ?_; intro ar hg w23 hbox hb; replace af := zK (Kd.R_below (zR af) hb); replace ad := zK (Kd.S_below (Kd.S_elderB (zT ad) ar (Nat.le_of_eq hg.symm)) hb); have aw := zK (hbox); have GW242 := zK ((by rw [hg]; exact (below_size (zb HB)) : w.heap.size ≤ ar)); have bl := zK ((by rw [hg]; exact (below_size (zb HB)) : w.heap.size ≤ ar)); replace HB := zK (below_step (zb HB) hb); have aX := zK ((by rw [hg]; exact Nat.ne_of_lt (blk_lt (g := ai) (o := .cells #[.slice aI aA.length aJ, .int .i64 a0_1, .slice (some bp) ah.length aK, .slice aQ al.length aM] 28 (0, 0)) (zk aa)) : ai ≠ ar)); have bH := zK ((by rw [hg]; exact Nat.ne_of_gt (blk_lt (g := ai) (o := .cells #[.slice aI aA.length aJ, .int .i64 a0_1, .slice (some bp) ah.length aK, .slice aQ al.length aM] 28 (0, 0)) (zk aa)) : ar ≠ ai)); replace aa := zK (blk_below (g := ai) (o := .cells #[.slice aI aA.length aJ, .int .i64 a0_1, .slice (some bp) ah.length aK, .slice aQ al.length aM] 28 (0, 0)) (zk aa) hb); have aY := zK ((by rw [hg]; exact Nat.ne_of_lt (blk_lt (g := aj) (o := .cells #[.slice none 0 0, .int .i64 0, .slice none 0 0, .slice none 0 0] 28 (0, 0)) (zk ag)) : aj ≠ ar)); have bI := zK ((by rw [hg]; exact Nat.ne_of_gt (blk_lt (g := aj) (o := .cells #[.slice none 0 0, .int .i64 0, .slice none 0 0, .slice none 0 0] 28 (0, 0)) (zk ag)) : ar ≠ aj)); replace ag := zK (blk_below (g := aj) (o := .cells #[.slice none 0 0, .int .i64 0, .slice none 0 0, .slice none 0 0] 28 (0, 0)) (zk ag) hb); have aZ := zK ((by rw [hg]; exact Nat.ne_of_lt (blk_lt (g := ac) (o := .cells #[.slice ax an.length ay, .int .i64 a0_1, u241002, .slice none 0 0] 28 (0, 0)) (zk ab)) : ac ≠ ar)); have bJ := zK ((by rw [hg]; exact Nat.ne_of_gt (blk_lt (g := ac) (o := .cells #[.slice ax an.length ay, .int .i64 a0_1, u241002, .slice none 0 0] 28 (0, 0)) (zk ab)) : ar ≠ ac)); replace ab := zK (blk_below (g := ac) (o := .cells #[.slice ax an.length ay, .int .i64 a0_1, u241002, .slice none 0 0] 28 (0, 0)) (zk ab) hb); clear hb hbox hg; have hnb24 := bH.out; have hnc24 := aX.out; have hnb25 := bI.out; have hnc25 := aY.out; have hnb26 := bJ.out; have hnc26 := aZ.out; obtain ⟨hcz27_0, hcz27_1, hcz27_2⟩ := zL3 aw; obtain ⟨hfz27_0, hfz27_1, hfz27_2⟩ := zF3 aw) | ((with_reducible refine gate_callee (f := 58) rfl ?_); refine goesL_ (some 23) rfl rfl Try.func58 (by kernel_rfl) rfl #[.slice ba ((rd_T69 ah ak).f2).length bb] rfl zg ?_; (with_reducible refine (slices_Clone_int_int.calls _ _ ((rd_T69 ah ak).f2) a0 _ ?side1 ?side2 A21.out).mono ?_); (case side1 => exact Kd.C_below b5.out (zb HB)); (case side2 => exact b6.out); rintro e w28 ⟨v244, rfl, ho0, hb⟩; refine ⟨_, rfl, ?_⟩; replace ad := zK (Kd.S_elder' (by (with_reducible repeat (first | apply Kd.S_alloc | apply Kd.S_drewN | apply Kd.S_drew)); exact (Kd.S_mono (Kd.S_far (p := ⟨ar, 2, none⟩) (Kd.S_far (p := ⟨ar, 1, none⟩) (Kd.S_far (p := ⟨ar, 0, none⟩) (Kd.S_mono ad.out (fun k_ hk => (⟨hk, hk.2⟩ : _ ∧ k_ ≠ ar))) (fun _ hk => hk.2) (.int .i64 ((rd_T69 ah ak).f0))) (fun _ hk => hk.2) (.int .i64 ((rd_T69 ah ak).f1))) (fun _ hk => hk.2) (.slice ba ((rd_T69 ah ak).f2).length bb)) (fun _ h_ => h_.1))) (Kd.R_base ho0) hb); have bm := zK (Kd.R_lower (Kd.R_new' ho0 (Kd.R_lt (by (with_reducible repeat (first | apply Kd.R_alloc | apply Kd.R_drewN | apply Kd.R_drew)); exact (Kd.R_mono (Kd.R_far (p := ⟨ar, 2, none⟩) (Kd.R_far (p := ⟨ar, 1, none⟩) (Kd.R_far (p := ⟨ar, 0, none⟩) (Kd.R_types af.out aw.out (by decide)) (fun _ hk => hk.2) (.int .i64 ((rd_T69 ah ak).f0))) (fun _ hk => hk.2) (.int .i64 ((rd_T69 ah ak).f1))) (fun _ hk => hk.2) (.slice ba ((rd_T69 ah ak).f2).length bb)) (fun _ h_ => h_.1))))) (below_size (zb HB))); replace af := zK (Kd.R_elder' (by (with_reducible repeat (first | apply Kd.R_alloc | apply Kd.R_drewN | apply Kd.R_drew)); exact (Kd.R_mono (Kd.R_far (p := ⟨ar, 2, none⟩) (Kd.R_far (p := ⟨ar, 1, none⟩) (Kd.R_far (p := ⟨ar, 0, none⟩) (Kd.R_types af.out aw.out (by decide)) (fun _ hk => hk.2) (.int .i64 ((rd_T69 ah ak).f0))) (fun _ hk => hk.2) (.int .i64 ((rd_T69 ah ak).f1))) (fun _ hk => hk.2) (.slice ba ((rd_T69 ah ak).f2).length bb)) (fun _ h_ => h_.1))) (Kd.R_base ho0) hb); replace aa := zK (blk_below (g := ai) (o := .cells #[.slice aI aA.length aJ, .int .i64 a0_1, .slice (some bp) ah.length aK, .slice aQ al.length aM] 28 (0, 0)) (zh aa aX) hb); replace ag := zK (blk_below (g := aj) (o := .cells #[.slice none 0 0, .int .i64 0, .slice none 0 0, .slice none 0 0] 28 (0, 0)) (zh ag aY) hb); replace ab := zK (blk_below (g := ac) (o := .cells #[.slice ax an.length ay, .int .i64 a0_1, u241002, .slice none 0 0] 28 (0, 0)) (zh ab aZ) hb); replace aw := zK (blk_below (g := ar) (o := .cells #[.int .i64 ((rd_T69 ah ak).f0), .int .i64 ((rd_T69 ah ak).f1), .slice ba ((rd_T69 ah ak).f2).length bb] 69 (0, 0)) (by (with_reducible repeat (first | refine zN ?_ _ | refine zD ?_ | refine zA ?_ _)); refine blk_put (cs := #[.int .i64 ((rd_T69 ah ak).f0), .int .i64 ((rd_T69 ah ak).f1), .slice none 0 0]) ?_ 2 _ rfl; (with_reducible repeat (first | refine zN ?_ _ | refine zD ?_ | refine zA ?_ _)); refine blk_put (cs := #[.int .i64 ((rd_T69 ah ak).f0), .int .i64 0, .slice none 0 0]) ?_ 1 _ rfl; (with_reducible repeat (first | refine zN ?_ _ | refine zD ?_ | refine zA ?_ _)); refine blk_put (cs := #[.int .i64 0, .int .i64 0, .slice none 0 0]) ?_ 0 _ rfl; (with_reducible repeat (first | refine zN ?_ _ | refine zD ?_ | refine zA ?_ _)); exact aw.out) hb); replace HB := zK (below_step (zb HB) hb); (try clear hb); (try clear hk); (try clear ho0); obtain ⟨bi, bj, eo29⟩ := Kd.R_slice bm.out; subst eo29; obtain ⟨hcz30_0, hcz30_1, hcz30_2⟩ := zL3 aw; obtain ⟨hfz30_0, hfz30_1, hfz30_2⟩ := zF3 aw) | ((with_reducible refine gate_store (t := 24) (p := 24) rfl ?_); refine store_event (t := 24) (p := 24) (v := ?vo_w31) (w1 := (w28.setCell ⟨ar, 2, none⟩ (.slice bi a0.length bj))) ?hg ?ho ?hn ?hr ?_; (case ho => rfl); (case hg => rfl); (case hn => rfl); (case hr => first | (go_simp; done) | (go_simp; rfl)); intro bA hw; have aR : Aside0 (Kd.R (Kd.int .i64) 3 bA w.heap.size (fun k_ => some k_ ≠ (.slice bi a0.length bj : Value).ownBlock) (.slice ax an.length ay) an) := ⟨(by rw [hw]; exact (by (with_reducible repeat (first | apply Kd.R_alloc | apply Kd.R_drewN | apply Kd.R_drew)); exact Kd.R_mono (Kd.R_far (p := ⟨ar, 2, none⟩) (Kd.R_types af.out aw.out (by decide)) (fun _ hk => hk.2) (.slice bi a0.length bj)) (fun _ hk => hk.1.2)))⟩; have aT : Aside0 (Kd.S k69 69 bA w.heap.size (fun k_ => some k_ ≠ (.slice ax an.length ay : Value).ownBlock ∧ some k_ ≠ (.slice bi a0.length bj : Value).ownBlock ∧ k_ ≠ ar) u241002 ao) := ⟨(by rw [hw]; exact (by (with_reducible repeat (first | apply Kd.S_alloc | apply Kd.S_drewN | apply Kd.S_drew)); exact Kd.S_mono (Kd.S_far (p := ⟨ar, 2, none⟩) (Kd.S_mono ad.out (fun k_ hk => (⟨hk, hk.1.2⟩ : _ ∧ k_ ≠ ar))) (fun _ hk => hk.2) (.slice bi a0.length bj)) (fun _ hk => ⟨hk.1.1.1, ⟨hk.1.2, hk.1.1.2⟩⟩)))⟩; have aU : Aside0 (Kd.R (Kd.int .i64) 3 bA w.heap.size (fun k_ => some k_ ≠ (.slice ax an.length ay : Value).ownBlock) (.slice bi a0.length bj) a0) := ⟨(by rw [hw]; exact (by (with_reducible repeat (first | apply Kd.R_alloc | apply Kd.R_drewN | apply Kd.R_drew)); exact Kd.R_mono (Kd.R_far (p := ⟨ar, 2, none⟩) (Kd.R_types bm.out aw.out (by decide)) (fun _ hk => hk.2) (.slice bi a0.length bj)) (fun _ hk => hk.1.2)))⟩; have aV : Aside0 (bA.heap[ai]? = some (.cells #[.slice aI aA.length aJ, .int .i64 a0_1, .slice (some bp) ah.length aK, .slice aQ al.length aM] 28 (0, 0))) := ⟨(by rw [hw]; exact (zh aa aX))⟩; have a1 : Aside0 (bA.heap[aj]? = some (.cells #[.slice none 0 0, .int .i64 0, .slice none 0 0, .slice none 0 0] 28 (0, 0))) := ⟨(by rw [hw]; exact (zh ag aY))⟩; have a2 : Aside0 (bA.heap[ac]? = some (.cells #[.slice ax an.length ay, .int .i64 a0_1, u241002, .slice none 0 0] 28 (0, 0))) := ⟨(by rw [hw]; exact (zh ab aZ))⟩; have a3 : Aside0 (bA.heap[ar]? = some (.cells #[.int .i64 ((rd_T69 ah ak).f0), .int .i64 ((rd_T69 ah ak).f1), .slice bi a0.length bj] 69 (0, 0))) := ⟨(by rw [hw]; exact (by (with_reducible repeat (first | refine zN ?_ _ | refine zD ?_ | refine zA ?_ _)); refine blk_put (cs := #[.int .i64 ((rd_T69 ah ak).f0), .int .i64 ((rd_T69 ah ak).f1), .slice ba ((rd_T69 ah ak).f2).length bb]) ?_ 2 _ rfl; (with_reducible repeat (first | refine zN ?_ _ | refine zD ?_ | refine zA ?_ _)); exact aw.out))⟩; have bf : Aside0 (Below w.heap.size w bA) := ⟨(by rw [hw]; exact (zb HB))⟩; clear hw; clear af; clear ad; clear bm; clear aa; clear ag; clear ab; clear aw; clear HB; have af := aR; have ad := aT; have bm := aU; have aa := aV; have ag := a1; have ab := a2; have aw := a3; have HB := bf; clear aR aT aU aV a1 a2 a3 bf; have hnb32 := aC.out; have hnc32 := ae.out; have hnb33 := aH.out; have hnc33 := aq.out; obtain ⟨hcz34_0, hcz34_1, hcz34_2, hcz34_3⟩ := zL4 ab; obtain ⟨hfz34_0, hfz34_1, hfz34_2, hfz34_3⟩ := zF4 ab; obtain ⟨hcz35_0, hcz35_1, hcz35_2⟩ := zL3 aw; obtain ⟨hfz35_0, hfz35_1, hfz35_2⟩ := zF3 aw) | ((with_reducible refine gate_builtin (b := .append) (xs := #[.tmp 26, .tmp 28]) rfl ?_); at_builtin; refine Kd.S_append k69 (w0 := w) w.heap.size rfl (.tmp 26) (.tmp 28) 25 69 (.agg #[(.int .i64 0), (.int .i64 0), (.slice none 0 0)]) 40 rfl Try.underlying25 info69 rfl (by decide) (by omega) u241002 ao (⟨(rd_T69 ah ak).f0, (rd_T69 ah ak).f1, a0⟩ : S69) [.int .i64 ((rd_T69 ah ak).f0), .int .i64 ((rd_T69 ah ak).f1), .slice bi a0.length bj] (fun k_ => some k_ ≠ (.slice ax an.length ay : Value).ownBlock ∧ k_ ≠ ar) (fun k_ => some k_ = (.slice bi a0.length bj : Value).ownBlock) rfl rfl ?aP (fun k_ hk_ => ((Kd.R_mono (ok' := fun k_ => ((fun k_ => some k_ ≠ (.slice ax an.length ay : Value).ownBlock ∧ k_ ≠ ar)) k_ ∧ some k_ ≠ (u241002 : Value).ownBlock) (Kd.R_types (Kd.R_apart' (bm.out) (Kd.S_typed ad.out) (by decide)) aw.out (by decide)) (fun k_ hk => ⟨⟨hk.1.1, hk.2⟩, hk.1.2⟩))).1 k_ hk_.symm) ?aF ?aO ?aB ?aS ?aL ?_; (case aP => exact k69_mkM _ _ _ (⟨(rd_T69 ah ak).f0, (rd_T69 ah ak).f1, a0⟩ : S69) (Kd.R_mono (Kd.R_tight rfl (Kd.R_mono (ok' := fun k_ => ((fun k_ => some k_ ≠ (.slice ax an.length ay : Value).ownBlock ∧ k_ ≠ ar)) k_ ∧ some k_ ≠ (u241002 : Value).ownBlock) (Kd.R_types (Kd.R_apart' (bm.out) (Kd.S_typed ad.out) (by decide)) aw.out (by decide)) (fun k_ hk => ⟨⟨hk.1.1, hk.2⟩, hk.1.2⟩))) (fun _ h_ => h_))); (case aB => exact (zb HB)); (case aF => exact (fun k_ hk => ⟨Kd.fresh' (Kd.R_lt (zR af)) k_ hk, Kd.freshB (g := ar) (o := .cells #[.int .i64 ((rd_T69 ah ak).f0), .int .i64 ((rd_T69 ah ak).f1), .slice bi a0.length bj] 69 (0, 0)) (zk aw) k_ hk⟩)); (case aO => exact (by (with_reducible repeat (first | apply Kd.S_alloc | apply Kd.S_drewN | apply Kd.S_drew)); exact Kd.S_mono ad.out (fun k_ hk => ⟨⟨hk.1, hk.2.2⟩, fun e_ => hk.2.1 e_⟩))); (case aS => exact (below_size (zb HB))); (case aL => have := cG.out; omega); intro v247 w36 ho hb hg hat; rw [← Ny246.out] at ho; replace af := zK (Kd.R_over' (zR af) (Kd.S_typed (zT ad)) (by decide) hg); replace aa := zK (blk_grown (g := ai) (o := .cells #[.slice aI aA.length aJ, .int .i64 a0_1, .slice (some bp) ah.length aK, .slice aQ al.length aM] 28 (0, 0)) (zk aa) hg (Kd.S_ne ad.out aa.out (by decide))); replace ag := zK (blk_grown (g := aj) (o := .cells #[.slice none 0 0, .int .i64 0, .slice none 0 0, .slice none 0 0] 28 (0, 0)) (zk ag) hg (Kd.S_ne ad.out ag.out (by decide))); replace ab := zK (blk_grown (g := ac) (o := .cells #[.slice ax an.length ay, .int .i64 a0_1, u241002, .slice none 0 0] 28 (0, 0)) (zk ab) hg (Kd.S_ne ad.out ab.out (by decide))); replace aw := zK (blk_grown (g := ar) (o := .cells #[.int .i64 ((rd_T69 ah ak).f0), .int .i64 ((rd_T69 ah ak).f1), .slice bi a0.length bj] 69 (0, 0)) (zk aw) hg (Kd.S_away ad.out (fun _ hk => hk.2.2))); replace HB := zK (hb); have cr := zK (ho); clear ad bm; clear ho hb hg hat; obtain ⟨cx, cy, eo37⟩ := Kd.S_slice cr.out; subst eo37; obtain ⟨hcz38_0, hcz38_1, hcz38_2, hcz38_3⟩ := zL4 ab; obtain ⟨hfz38_0, hfz38_1, hfz38_2, hfz38_3⟩ := zF4 ab))
       go_roundg k1
       case measure => have := HK1.out; omega
       case rel => exact ⟨(wrap64 (ak + 1)), (bO), (.slice cx bO.length cy), zf, H', ⟨by have := HK1.out; omega⟩, ⟨by (with_reducible repeat (first | apply Kd.R_alloc | apply Kd.R_drewN | apply Kd.R_drew)); exact Kd.R_mono (Kd.R_far (p := ⟨ac, 2, none⟩) (Kd.R_types af.out ab.out (by decide)) (fun _ hk => hk.2) (.slice cx bO.length cy)) (fun _ hk => trivial)⟩, ⟨by (with_reducible repeat (first | apply Kd.S_alloc | apply Kd.S_drewN | apply Kd.S_drew)); exact Kd.S_mono (Kd.S_far (p := ⟨ac, 2, none⟩) (Kd.S_types cr.out ab.out (by decide)) (fun _ hk => hk.2) (.slice cx bO.length cy)) (fun _ hk => hk.1.1)⟩, ⟨zh aa ae⟩, ⟨zh ag aq⟩, ⟨by (with_reducible repeat (first | refine zN ?_ _ | refine zD ?_ | refine zA ?_ _)); refine blk_put (cs := #[.slice ax an.length ay, .int .i64 a0_1, u241002, .slice none 0 0]) ?_ 2 _ rfl; (with_reducible repeat (first | refine zN ?_ _ | refine zD ?_ | refine zA ?_ _)); exact ab.out⟩, ⟨zb HB⟩⟩
      ·rw [if_neg c22] at H
       exact absurd H (by simp)
     ·rw [if_neg c20] at H
      exact absurd H (by simp)
    ·rw [if_neg c19] at H
     exact absurd H (by simp)
   ·rw [if_neg cB] at H
    have cq : decide (ak < (ah.length : Int)) = false := decide_eq_false cB
    clear cB; have H' := zK H; clear H; have hnb39 := bg.out; have hnc39 := bh.out; have hnb40 := ae.out; have hnc40 := aC.out
    obtain ⟨b7, b8, b9, ca⟩ := zL4 aa
    obtain ⟨cb, cc, cd, ce⟩ := zF4 aa
    obtain ⟨wN_, hwN_⟩ : ∃ w_ : World, w_ = wr := ⟨_, rfl⟩
    have HN := zK (show Below 0 wN_ wr from by rw [hwN_]; exact Below.refl _ _); have HW_N := zK (show w.heap.size ≤ wN_.heap.size from by rw [hwN_]; exact below_size HB.out); replace ad := zK (Kd.S_mono (ok' := fun k_ => (fun k_ => some k_ ≠ ((.slice ax an.length ay) : Value).ownBlock) k_ ∧ k_ < wN_.heap.size) (Kd.S_bound ad.out) (fun k_ hk_ => ⟨by first | exact hk_.1 | exact hk_.1.1, by rw [hwN_]; exact hk_.2.2.1⟩)); clear hwN_
    go_wp2
    go_loopg [35] k1 (fun kq v35 w' => ∃ (ap : Int) (aD : List (S74)) (u241003 : Value), v35 = .int .i64 ap ∧ Aside0 (impl_copyLoop.l1 kq al (al.length : Int) ap an a0_1 ao aD = some (r1, r2, r3, r4)) ∧ Aside0 (kq ≤ k1) ∧ Aside0 (Kd.R (Kd.int .i64) 3 w' w.heap.size (fun _ => True) (.slice ax an.length ay) an) ∧ Aside0 (Kd.S k69 69 w' w.heap.size (fun k_ => some k_ ≠ ((.slice ax an.length ay) : Value).ownBlock ∧ k_ < wN_.heap.size) u241002 ao) ∧ Aside0 (Kd.S k74 74 w' wN_.heap.size (fun k_ => some k_ ≠ ((.slice ax an.length ay) : Value).ownBlock) u241003 aD) ∧ Aside0 (w'.heap[ai]? = some (.cells #[(.slice aI aA.length aJ), .int .i64 a0_1, (.slice aN ah.length aK), (.slice aQ al.length aM)] 28 (0, 0))) ∧ Aside0 (w'.heap[aj]? = some (.cells #[(.slice none 0 0), .int .i64 0, (.slice none 0 0), (.slice none 0 0)] 28 (0, 0))) ∧ Aside0 (w'.heap[ac]? = some (.cells #[(.slice ax an.length ay), .int .i64 a0_1, u241002, u241003] 28 (0, 0))) ∧ Aside0 (Below w.heap.size w w') ∧ Aside0 (Below 0 wN_ w'))
    case atStart => exact ⟨(0), (([] : List (S74))), (.slice none 0 0), zf, H', ⟨Nat.le_refl _⟩, ⟨zR af⟩, ⟨zT ad⟩, ⟨by first | exact Kd.S_nil _ _ _ _ _ | exact Kd.N_nil _ _ _ _ _ | exact Kd.V_nil _ _ _ _ _ | exact Kd.Q_nil _ _ _ _ _ | exact Kd.R_nil _ _ _ _ _⟩, ⟨zk aa⟩, ⟨zk ag⟩, ⟨zk ab⟩, ⟨zb HB⟩, ⟨zb HN⟩⟩
    case round =>
     clear H' cq b7 b8 b9 ca cb cc cd ce
     obtain ⟨ap, aD, u241003, rfl, HA, HK2, af, ad, am, aa, ag, ab, HB, HN⟩ := hrel
     cases gk with
     | zero => exact absurd HA.out (by simp [impl_copyLoop.l1])
     | succ k2 =>
      have H := HA.out; clear HA
      simp only [impl_copyLoop.l1] at H
      by_cases cC : ap < (al.length : Int)
      ·rw [if_pos cC] at H
       have cH : decide (ap < (al.length : Int)) = true := decide_eq_true cC
       clear cC
       by_cases c43 : 0 ≤ ap
       ·rw [if_pos c43] at H
        have c43b0 : decide (0 ≤ ap) = true := decide_eq_true c43
        clear c43
        by_cases c44 : ap < (al.length : Int)
        ·rw [if_pos c44] at H
         have c44b0 : decide (ap < (al.length : Int)) = true := decide_eq_true c44
         clear c44; replace H := Option.bind_eq_some_iff.mp H
         obtain ⟨aW, cI, H⟩ := H
         (try dsimp only at H)
         have A45 := zK cI; clear cI
         by_cases c46 : aD.length < 4398046511104
         ·rw [if_pos c46] at H
          have cJ := zK c46; clear c46
          obtain ⟨bK, bU⟩ : ∃ y_ : List (S74), y_ = (aD ++ [(⟨(rd_T74 al ap).f0, aW⟩ : S74)]) := ⟨_, rfl⟩
          replace H : (impl_copyLoop.l1 k2 al (al.length : Int) (wrap64 (ap + 1)) an a0_1 ao bK) = some (r1, r2, r3, r4) := by rw [bU]; with_reducible exact H
          have Ny254 := zK bU; clear bU; have H' := zK H; clear H
          have cz : 0 ≤ (ap : Int) := zd
          have cA : ap < (al.length : Int) := zd
          obtain ⟨bq, a5, a6, e249, bv, bw, bF, bG⟩ := at_T74 cE.out ap cz cA
          cases e249
          replace bv := (HB.out.cell (World.block_lt_of_cell? w _ bv)).trans bv
          replace bw := (HB.out.cell (World.block_lt_of_cell? w _ bw)).trans bw
          have cf := zK bG; have cg := zK bF; clear bG bF; replace cz := eq_true cz; replace cA := eq_true cA
          go_wp2_with (first | ((with_reducible refine gate_dst (N := 7) rfl ?_); refine zX 7 #[.int .i64 0, .slice none 0 0] 74 ?_; intro au hg w47 hbox hb; have aR := zK (Kd.R_below (zR af) hb); have aT := zK (Kd.S_below (zT ad) hb); have aU := zK (Kd.S_below (Kd.S_elderB (zT am) au (Nat.le_of_eq hg.symm)) hb); have aV := zK (blk_below (g := ai) (o := .cells #[.slice aI aA.length aJ, .int .i64 a0_1, .slice aN ah.length aK, .slice (some bq) al.length aM] 28 (0, 0)) (zk aa) hb); have a1 := zK (blk_below (g := aj) (o := .cells #[.slice none 0 0, .int .i64 0, .slice none 0 0, .slice none 0 0] 28 (0, 0)) (zk ag) hb); have a2 := zK (blk_below (g := ac) (o := .cells #[.slice ax an.length ay, .int .i64 a0_1, u241002, u241003] 28 (0, 0)) (zk ab) hb); have a3 := zK (below_step (zb HB) hb); have nN_ := zK (below_step0 (zb HN) hb); have bf := zK (hbox); have bo := zK ((by rw [hg]; exact (below_size (zb HB)) : w.heap.size ≤ au)); have bB := zK ((by rw [hg]; exact (below_size (zb HB)) : w.heap.size ≤ au)); have bk := zK ((by rw [hg]; exact Nat.ne_of_lt (blk_lt (g := ai) (o := .cells #[.slice aI aA.length aJ, .int .i64 a0_1, .slice aN ah.length aK, .slice (some bq) al.length aM] 28 (0, 0)) (zk aa)) : ai ≠ au)); have bQ := zK ((by rw [hg]; exact Nat.ne_of_gt (blk_lt (g := ai) (o := .cells #[.slice aI aA.length aJ, .int .i64 a0_1, .slice aN ah.length aK, .slice (some bq) al.length aM] 28 (0, 0)) (zk aa)) : au ≠ ai)); have bR := zK ((by rw [hg]; exact Nat.ne_of_lt (blk_lt (g := aj) (o := .cells #[.slice none 0 0, .int .i64 0, .slice none 0 0, .slice none 0 0] 28 (0, 0)) (zk ag)) : aj ≠ au)); have bS := zK ((by rw [hg]; exact Nat.ne_of_gt (blk_lt (g := aj) (o := .cells #[.slice none 0 0, .int .i64 0, .slice none 0 0, .slice none 0 0] 28 (0, 0)) (zk ag)) : au ≠ aj)); have bT := zK ((by rw [hg]; exact Nat.ne_of_lt (blk_lt (g := ac) (o := .cells #[.slice ax an.length ay, .int .i64 a0_1, u241002, u241003] 28 (0, 0)) (zk ab)) : ac ≠ au)); have cK := zK ((by rw [hg]; exact Nat.ne_of_gt (blk_lt (g := ac) (o := .cells #[.slice ax an.length ay, .int .i64 a0_1, u241002, u241003] 28 (0, 0)) (zk ab)) : au ≠ ac)); clear af; clear ad; clear am; clear aa; clear ag; clear ab; clear HB; clear HN; have af := aR; have ad := aT; have am := aU; have aa := aV; have ag := a1; have ab := a2; have HB := a3; have HN := nN_; clear nN_; have aE := bf; have GW250 := bo; have bx := bB; have a7 := bk; have bL := bQ; have a8 := bR; have bM := bS; have a9 := bT; have bN := cK; clear aR aT aU aV a1 a2 a3 bf bo bB bk bQ bR bS bT cK; clear hb hbox hg; have hnb48 := bL.out; have hnc48 := a7.out; have hnb49 := bM.out; have hnc49 := a8.out; have hnb50 := bN.out; have hnc50 := a9.out; obtain ⟨hcz51_0, hcz51_1⟩ := zL2 aE; obtain ⟨hfz51_0, hfz51_1⟩ := zF2 aE) | ((with_reducible refine gate_callee (f := 58) rfl ?_); refine goesL_ (some 41) rfl rfl Try.func58 (by kernel_rfl) rfl #[.slice a5 ((rd_T74 al ap).f1).length a6] rfl zg ?_; (with_reducible refine (slices_Clone_int_int.calls _ _ ((rd_T74 al ap).f1) aW _ ?side1 ?side2 A45.out).mono ?_); (case side1 => exact Kd.C_below cf.out (zb HB)); (case side2 => exact cg.out); rintro e w52 ⟨v252, rfl, ho0, hb⟩; refine ⟨_, rfl, ?_⟩; have aR := zK (Kd.R_elder' (by (with_reducible repeat (first | apply Kd.R_alloc | apply Kd.R_drewN | apply Kd.R_drew)); exact (Kd.R_mono (Kd.R_far (p := ⟨au, 1, none⟩) (Kd.R_far (p := ⟨au, 0, none⟩) (Kd.R_types af.out aE.out (by decide)) (fun _ hk => hk.2) (.int .i64 ((rd_T74 al ap).f0))) (fun _ hk => hk.2) (.slice a5 ((rd_T74 al ap).f1).length a6)) (fun _ h_ => h_.1))) (Kd.R_base ho0) hb); have aT := zK (Kd.S_elder' (by (with_reducible repeat (first | apply Kd.S_alloc | apply Kd.S_drewN | apply Kd.S_drew)); exact (Kd.S_mono (Kd.S_far (p := ⟨au, 1, none⟩) (Kd.S_far (p := ⟨au, 0, none⟩) (Kd.S_types ad.out aE.out (by decide)) (fun _ hk => hk.2) (.int .i64 ((rd_T74 al ap).f0))) (fun _ hk => hk.2) (.slice a5 ((rd_T74 al ap).f1).length a6)) (fun _ h_ => h_.1))) (Kd.R_base ho0) hb); have aU := zK (Kd.S_elder' (by (with_reducible repeat (first | apply Kd.S_alloc | apply Kd.S_drewN | apply Kd.S_drew)); exact (Kd.S_mono (Kd.S_far (p := ⟨au, 1, none⟩) (Kd.S_far (p := ⟨au, 0, none⟩) (Kd.S_mono am.out (fun k_ hk => (⟨hk, hk.2⟩ : _ ∧ k_ ≠ au))) (fun _ hk => hk.2) (.int .i64 ((rd_T74 al ap).f0))) (fun _ hk => hk.2) (.slice a5 ((rd_T74 al ap).f1).length a6)) (fun _ h_ => h_.1))) (Kd.R_base ho0) hb); have aV := zK (Kd.R_lower (Kd.R_new' ho0 (Kd.R_lt (by (with_reducible repeat (first | apply Kd.R_alloc | apply Kd.R_drewN | apply Kd.R_drew)); exact (Kd.R_mono (Kd.R_far (p := ⟨au, 1, none⟩) (Kd.R_far (p := ⟨au, 0, none⟩) (Kd.R_types af.out aE.out (by decide)) (fun _ hk => hk.2) (.int .i64 ((rd_T74 al ap).f0))) (fun _ hk => hk.2) (.slice a5 ((rd_T74 al ap).f1).length a6)) (fun _ h_ => h_.1))))) (size0 (zb HN))); have a1 := zK (blk_below (g := ai) (o := .cells #[.slice aI aA.length aJ, .int .i64 a0_1, .slice aN ah.length aK, .slice (some bq) al.length aM] 28 (0, 0)) (zh aa a7) hb); have a2 := zK (blk_below (g := aj) (o := .cells #[.slice none 0 0, .int .i64 0, .slice none 0 0, .slice none 0 0] 28 (0, 0)) (zh ag a8) hb); have a3 := zK (blk_below (g := ac) (o := .cells #[.slice ax an.length ay, .int .i64 a0_1, u241002, u241003] 28 (0, 0)) (zh ab a9) hb); have bf := zK (blk_below (g := au) (o := .cells #[.int .i64 ((rd_T74 al ap).f0), .slice a5 ((rd_T74 al ap).f1).length a6] 74 (0, 0)) (by (with_reducible repeat (first | refine zN ?_ _ | refine zD ?_ | refine zA ?_ _)); refine blk_put (cs := #[.int .i64 ((rd_T74 al ap).f0), .slice none 0 0]) ?_ 1 _ rfl; (with_reducible repeat (first | refine zN ?_ _ | refine zD ?_ | refine zA ?_ _)); refine blk_put (cs := #[.int .i64 0, .slice none 0 0]) ?_ 0 _ rfl; (with_reducible repeat (first | refine zN ?_ _ | refine zD ?_ | refine zA ?_ _)); exact aE.out) hb); have bo := zK (below_step (zb HB) hb); have nN_ := zK (below_step0 (zb HN) hb); clear af; clear ad; clear am; clear aa; clear ag; clear ab; clear aE; clear HB; clear HN; have af := aR; have ad := aT; have am := aU; have bn := aV; have aa := a1; have ag := a2; have ab := a3; have aE := bf; have HB := bo; have HN := nN_; clear nN_; clear aR aT aU aV a1 a2 a3 bf bo; (try clear hb); (try clear hk); (try clear ho0); obtain ⟨bc, bd, eo53⟩ := Kd.R_slice bn.out; subst eo53; obtain ⟨hcz54_0, hcz54_1⟩ := zL2 aE; obtain ⟨hfz54_0, hfz54_1⟩ := zF2 aE) | ((with_reducible refine gate_store (t := 24) (p := 42) rfl ?_); refine store_event (t := 24) (p := 42) (v := ?vo_w55) (w1 := (w52.setCell ⟨au, 1, none⟩ (.slice bc aW.length bd))) ?hg ?ho ?hn ?hr ?_; (case ho => rfl); (case hg => rfl); (case hn => rfl); (case hr => first | (go_simp; done) | (go_simp; rfl)); intro bz hw; have aR : Aside0 (Kd.R (Kd.int .i64) 3 bz w.heap.size (fun k_ => some k_ ≠ (.slice bc aW.length bd : Value).ownBlock) (.slice ax an.length ay) an) := ⟨(by rw [hw]; exact (by (with_reducible repeat (first | apply Kd.R_alloc | apply Kd.R_drewN | apply Kd.R_drew)); exact Kd.R_mono (Kd.R_far (p := ⟨au, 1, none⟩) (Kd.R_types af.out aE.out (by decide)) (fun _ hk => hk.2) (.slice bc aW.length bd)) (fun _ hk => hk.1.2)))⟩; have aT : Aside0 (Kd.S k69 69 bz w.heap.size (fun k_ => (some k_ ≠ (.slice ax an.length ay : Value).ownBlock ∧ k_ < wN_.heap.size) ∧ some k_ ≠ (.slice bc aW.length bd : Value).ownBlock) u241002 ao) := ⟨(by rw [hw]; exact (by (with_reducible repeat (first | apply Kd.S_alloc | apply Kd.S_drewN | apply Kd.S_drew)); exact Kd.S_mono (Kd.S_far (p := ⟨au, 1, none⟩) (Kd.S_types ad.out aE.out (by decide)) (fun _ hk => hk.2) (.slice bc aW.length bd)) (fun _ hk => ⟨hk.1.1, hk.1.2⟩)))⟩; have aU : Aside0 (Kd.S k74 74 bz wN_.heap.size (fun k_ => some k_ ≠ (.slice ax an.length ay : Value).ownBlock ∧ some k_ ≠ (.slice bc aW.length bd : Value).ownBlock ∧ k_ ≠ au) u241003 aD) := ⟨(by rw [hw]; exact (by (with_reducible repeat (first | apply Kd.S_alloc | apply Kd.S_drewN | apply Kd.S_drew)); exact Kd.S_mono (Kd.S_far (p := ⟨au, 1, none⟩) (Kd.S_mono am.out (fun k_ hk => (⟨hk, hk.1.2⟩ : _ ∧ k_ ≠ au))) (fun _ hk => hk.2) (.slice bc aW.length bd)) (fun _ hk => ⟨hk.1.1.1, ⟨hk.1.2, hk.1.1.2⟩⟩)))⟩; have aV : Aside0 (Kd.R (Kd.int .i64) 3 bz wN_.heap.size (fun k_ => some k_ ≠ (.slice ax an.length ay : Value).ownBlock) (.slice bc aW.length bd) aW) := ⟨(by rw [hw]; exact (by (with_reducible repeat (first | apply Kd.R_alloc | apply Kd.R_drewN | apply Kd.R_drew)); exact Kd.R_mono (Kd.R_far (p := ⟨au, 1, none⟩) (Kd.R_types bn.out aE.out (by decide)) (fun _ hk => hk.2) (.slice bc aW.length bd)) (fun _ hk => hk.1.2)))⟩; have a1 : Aside0 (bz.heap[ai]? = some (.cells #[.slice aI aA.length aJ, .int .i64 a0_1, .slice aN ah.length aK, .slice (some bq) al.length aM] 28 (0, 0))) := ⟨(by rw [hw]; exact (zh aa a7))⟩; have a2 : Aside0 (bz.heap[aj]? = some (.cells #[.slice none 0 0, .int .i64 0, .slice none 0 0, .slice none 0 0] 28 (0, 0))) := ⟨(by rw [hw]; exact (zh ag a8))⟩; have a3 : Aside0 (bz.heap[ac]? = some (.cells #[.slice ax an.length ay, .int .i64 a0_1, u241002, u241003] 28 (0, 0))) := ⟨(by rw [hw]; exact (zh ab a9))⟩; have bf : Aside0 (bz.heap[au]? = some (.cells #[.int .i64 ((rd_T74 al ap).f0), .slice bc aW.length bd] 74 (0, 0))) := ⟨(by rw [hw]; exact (by (with_reducible repeat (first | refine zN ?_ _ | refine zD ?_ | refine zA ?_ _)); refine blk_put (cs := #[.int .i64 ((rd_T74 al ap).f0), .slice a5 ((rd_T74 al ap).f1).length a6]) ?_ 1 _ rfl; (with_reducible repeat (first | refine zN ?_ _ | refine zD ?_ | refine zA ?_ _)); exact aE.out))⟩; have bo : Aside0 (Below w.heap.size w bz) := ⟨(by rw [hw]; exact (zb HB))⟩; have nN_ : Aside0 (Below 0 wN_ bz) := ⟨(by rw [hw]; exact (zb HN))⟩; clear hw; clear af; clear ad; clear am; clear bn; clear aa; clear ag; clear ab; clear aE; clear HB; clear HN; have af := aR; have ad := aT; have am := aU; have bn := aV; have aa := a1; have ag := a2; have ab := a3; have aE := bf; have HB := bo; have HN := nN_; clear nN_; clear aR aT aU aV a1 a2 a3 bf bo; have hnb56 := aC.out; have hnc56 := ae.out; have hnb57 := aH.out; have hnc57 := aq.out; obtain ⟨hcz58_0, hcz58_1, hcz58_2, hcz58_3⟩ := zL4 ab; obtain ⟨hfz58_0, hfz58_1, hfz58_2, hfz58_3⟩ := zF4 ab; obtain ⟨hcz59_0, hcz59_1⟩ := zL2 aE; obtain ⟨hfz59_0, hfz59_1⟩ := zF2 aE) | ((with_reducible refine gate_builtin (b := .append) (xs := #[.tmp 44, .tmp 46]) rfl ?_); at_builtin; refine Kd.S_append k74 (w0 := ?aW0) wN_.heap.size rfl (.tmp 44) (.tmp 46) 26 74 (.agg #[(.int .i64 0), (.slice none 0 0)]) 32 rfl Try.underlying26 info74 rfl (by decide) (by omega) u241003 aD (⟨(rd_T74 al ap).f0, aW⟩ : S74) [.int .i64 ((rd_T74 al ap).f0), .slice bc aW.length bd] (fun k_ => some k_ ≠ (.slice ax an.length ay : Value).ownBlock ∧ k_ ≠ au) (fun k_ => some k_ = (.slice bc aW.length bd : Value).ownBlock) rfl rfl ?aP (fun k_ hk_ => ((Kd.R_mono (ok' := fun k_ => ((fun k_ => some k_ ≠ (.slice ax an.length ay : Value).ownBlock ∧ k_ ≠ au)) k_ ∧ some k_ ≠ (u241003 : Value).ownBlock) (Kd.R_types (Kd.R_apart' (bn.out) (Kd.S_typed am.out) (by decide)) aE.out (by decide)) (fun k_ hk => ⟨⟨hk.1.1, hk.2⟩, hk.1.2⟩))).1 k_ hk_.symm) ?aF ?aO ?aB ?aS ?aL ?_; (case aP => exact k74_mkM _ _ _ (⟨(rd_T74 al ap).f0, aW⟩ : S74) (Kd.R_mono (Kd.R_tight rfl (Kd.R_mono (ok' := fun k_ => ((fun k_ => some k_ ≠ (.slice ax an.length ay : Value).ownBlock ∧ k_ ≠ au)) k_ ∧ some k_ ≠ (u241003 : Value).ownBlock) (Kd.R_types (Kd.R_apart' (bn.out) (Kd.S_typed am.out) (by decide)) aE.out (by decide)) (fun k_ hk => ⟨⟨hk.1.1, hk.2⟩, hk.1.2⟩))) (fun _ h_ => h_))); (case aB => exact Below.refl _ _); (case aF => exact (fun k_ hk => ⟨Kd.fresh' (Kd.R_lt (zR af)) k_ hk, Kd.freshB (g := au) (o := .cells #[.int .i64 ((rd_T74 al ap).f0), .slice bc aW.length bd] 74 (0, 0)) (zk aE) k_ hk⟩)); (case aO => exact (by (with_reducible repeat (first | apply Kd.S_alloc | apply Kd.S_drewN | apply Kd.S_drew)); exact Kd.S_mono am.out (fun k_ hk => ⟨⟨hk.1, hk.2.2⟩, fun e_ => hk.2.1 e_⟩))); (case aS => exact size0 (zb HN)); (case aL => have := cJ.out; omega); intro v255 w60 ho hb hg hat; rw [← Ny254.out] at ho; have aR := zK (Kd.R_over' (zR af) (Kd.S_typed (zT am)) (by decide) hg); have aT := zK (Kd.S_over' (zT ad) (Kd.S_typed (zT am)) (by decide) hg); have aU := zK (blk_grown (g := ai) (o := .cells #[.slice aI aA.length aJ, .int .i64 a0_1, .slice aN ah.length aK, .slice (some bq) al.length aM] 28 (0, 0)) (zk aa) hg (Kd.S_ne am.out aa.out (by decide))); have aV := zK (blk_grown (g := aj) (o := .cells #[.slice none 0 0, .int .i64 0, .slice none 0 0, .slice none 0 0] 28 (0, 0)) (zk ag) hg (Kd.S_ne am.out ag.out (by decide))); have a1 := zK (blk_grown (g := ac) (o := .cells #[.slice ax an.length ay, .int .i64 a0_1, u241002, u241003] 28 (0, 0)) (zk ab) hg (Kd.S_ne am.out ab.out (by decide))); have a2 := zK (blk_grown (g := au) (o := .cells #[.int .i64 ((rd_T74 al ap).f0), .slice bc aW.length bd] 74 (0, 0)) (zk aE) hg (Kd.S_away am.out (fun _ hk => hk.2.2))); have a3 := zK (below_via (n := w.heap.size) (w := w) (zb HB) HW_N.out hb); have nN_ := zK (below_via (n := 0) (w := wN_) (zb HN) (Nat.zero_le _) hb); have bf := zK (ho); clear af; clear ad; clear aa; clear ag; clear ab; clear aE; clear HB; clear HN; clear am; clear bn; have af := aR; have ad := aT; have aa := aU; have ag := aV; have ab := a1; have aE := a2; have HB := a3; have HN := nN_; clear nN_; have ct := bf; clear aR aT aU aV a1 a2 a3 bf; clear ho hb hg hat; obtain ⟨ch, ci, eo61⟩ := Kd.S_slice ct.out; subst eo61; obtain ⟨hcz62_0, hcz62_1, hcz62_2, hcz62_3⟩ := zL4 ab; obtain ⟨hfz62_0, hfz62_1, hfz62_2, hfz62_3⟩ := zF4 ab))
          go_roundg k2
          case measure => have := HK1.out; have := HK2.out; omega
          case rel => exact ⟨(wrap64 (ap + 1)), (bK), (.slice ch bK.length ci), zf, H', ⟨by have := HK1.out; have := HK2.out; omega⟩, ⟨by (with_reducible repeat (first | apply Kd.R_alloc | apply Kd.R_drewN | apply Kd.R_drew)); exact Kd.R_mono (Kd.R_far (p := ⟨ac, 3, none⟩) (Kd.R_types af.out ab.out (by decide)) (fun _ hk => hk.2) (.slice ch bK.length ci)) (fun _ hk => trivial)⟩, ⟨by (with_reducible repeat (first | apply Kd.S_alloc | apply Kd.S_drewN | apply Kd.S_drew)); exact Kd.S_mono (Kd.S_far (p := ⟨ac, 3, none⟩) (Kd.S_types ad.out ab.out (by decide)) (fun _ hk => hk.2) (.slice ch bK.length ci)) (fun _ hk => hk.1.1)⟩, ⟨by (with_reducible repeat (first | apply Kd.S_alloc | apply Kd.S_drewN | apply Kd.S_drew)); exact Kd.S_mono (Kd.S_far (p := ⟨ac, 3, none⟩) (Kd.S_types ct.out ab.out (by decide)) (fun _ hk => hk.2) (.slice ch bK.length ci)) (fun _ hk => hk.1.1)⟩, ⟨zh aa ae⟩, ⟨zh ag aq⟩, ⟨by (with_reducible repeat (first | refine zN ?_ _ | refine zD ?_ | refine zA ?_ _)); refine blk_put (cs := #[.slice ax an.length ay, .int .i64 a0_1, u241002, u241003]) ?_ 3 _ rfl; (with_reducible repeat (first | refine zN ?_ _ | refine zD ?_ | refine zA ?_ _)); exact ab.out⟩, ⟨zb HB⟩, ⟨zb HN⟩⟩
         ·rw [if_neg c46] at H
          exact absurd H (by simp)
        ·rw [if_neg c44] at H
         exact absurd H (by simp)
       ·rw [if_neg c43] at H
        exact absurd H (by simp)
      ·rw [if_neg cC] at H
       have cH : decide (ap < (al.length : Int)) = false := decide_eq_false cC
       clear cC
       simp only [Option.some.injEq, Prod.mk.injEq] at H
       obtain ⟨rfl, rfl, rfl, rfl⟩ := H
       have hnb63 := aC.out; have hnc63 := ae.out; have hnb64 := aH.out; have hnc64 := aq.out
       obtain ⟨hcz65_0, hcz65_1, hcz65_2, hcz65_3⟩ := zL4 ab
       obtain ⟨hfz65_0, hfz65_1, hfz65_2, hfz65_3⟩ := zF4 ab; have hnb66 := bh.out; have hnc66 := bg.out
       obtain ⟨hcz67_0, hcz67_1, hcz67_2, hcz67_3⟩ := zL4 ag
       obtain ⟨hfz67_0, hfz67_1, hfz67_2, hfz67_3⟩ := zF4 ag
       obtain ⟨bV, bW, eo68⟩ := Kd.S_slice ad.out
       subst eo68
       obtain ⟨cj, ck, eo69⟩ := Kd.S_slice am.out
       subst eo69
       go_wp2
       refine bodyPost_ret (results_cell_row rfl _ _ aj 28 #[.slice ax an.length ay, .int .i64 a0_1, .slice bV ao.length bW, .slice cj aD.length ck] (0, 0) _ rfl (by (with_reducible repeat (first | refine zN ?_ _ | refine zD ?_ | refine zA ?_ _)); refine blk_put (cs := #[.slice ax an.length ay, .int .i64 a0_1, .slice bV ao.length bW, .slice none 0 0]) ?_ 3 _ rfl; (with_reducible repeat (first | refine zN ?_ _ | refine zD ?_ | refine zA ?_ _)); refine blk_put (cs := #[.slice ax an.length ay, .int .i64 a0_1, .slice none 0 0, .slice none 0 0]) ?_ 2 _ rfl; (with_reducible repeat (first | refine zN ?_ _ | refine zD ?_ | refine zA ?_ _)); refine blk_put (cs := #[.slice ax an.length ay, .int .i64 0, .slice none 0 0, .slice none 0 0]) ?_ 1 _ rfl; (with_reducible repeat (first | refine zN ?_ _ | refine zD ?_ | refine zA ?_ _)); refine blk_put (cs := #[.slice none 0 0, .int .i64 0, .slice none 0 0, .slice none 0 0]) ?_ 0 _ rfl; (with_reducible repeat (first | refine zN ?_ _ | refine zD ?_ | refine zA ?_ _)); exact ag.out) Try.underlying28 rfl (by kernel_rfl)) rfl ?_
       exact ⟨_, _, _, wN_.heap.size, ze, by (with_reducible repeat (first | apply Kd.R_alloc | apply Kd.R_drewN | apply Kd.R_drew)); exact Kd.R_mono (Kd.R_far (p := ⟨aj, 3, none⟩) (Kd.R_far (p := ⟨aj, 2, none⟩) (Kd.R_far (p := ⟨aj, 1, none⟩) (Kd.R_far (p := ⟨aj, 0, none⟩) (Kd.R_types af.out ag.out (by decide)) (fun _ hk => hk.2) (.slice ax an.length ay)) (fun _ hk => hk.2) (.int .i64 a0_1)) (fun _ hk => hk.2) (.slice bV ao.length bW)) (fun _ hk => hk.2) (.slice cj aD.length ck)) (fun _ hk => trivial), by (with_reducible repeat (first | apply Kd.S_alloc | apply Kd.S_drewN | apply Kd.S_drew)); exact Kd.S_mono (Kd.S_far (p := ⟨aj, 3, none⟩) (Kd.S_far (p := ⟨aj, 2, none⟩) (Kd.S_far (p := ⟨aj, 1, none⟩) (Kd.S_far (p := ⟨aj, 0, none⟩) (Kd.S_types ad.out ag.out (by decide)) (fun _ hk => hk.2) (.slice ax an.length ay)) (fun _ hk => hk.2) (.int .i64 a0_1)) (fun _ hk => hk.2) (.slice bV ao.length bW)) (fun _ hk => hk.2) (.slice cj aD.length ck)) (fun _ hk => hk.1), by (with_reducible repeat (first | apply Kd.S_alloc | apply Kd.S_drewN | apply Kd.S_drew)); exact Kd.S_mono (Kd.S_far (p := ⟨aj, 3, none⟩) (Kd.S_far (p := ⟨aj, 2, none⟩) (Kd.S_far (p := ⟨aj, 1, none⟩) (Kd.S_far (p := ⟨aj, 0, none⟩) (Kd.S_types am.out ag.out (by decide)) (fun _ hk => hk.2) (.slice ax an.length ay)) (fun _ hk => hk.2) (.int .i64 a0_1)) (fun _ hk => hk.2) (.slice bV ao.length bW)) (fun _ hk => hk.2) (.slice cj aD.length ck)) (fun _ hk => hk.1), HW_N.out, zb HB⟩
def slices_Index_int_int.l0 : Nat → List Int → Int → Int → Int → Option (Int)
 | 0, _, _, _, _ => none
 | k + 1, a, b, c, d => if d < c then (if 0 ≤ d then (if d < (a.length : Int) then (if b = (rd a d) then (some d) else (slices_Index_int_int.l0 k a b c (wrap64 (d + 1)))) else (none)) else (none)) else (some (-1))
def slices_Index_int_int.f (k : Nat) (a : List Int) (b : Int) : Option (Int) := slices_Index_int_int.l0 k a b (a.length : Int) 0
set_option maxHeartbeats 8000000 in
set_option maxRecDepth 100000 in
theorem slices_Index_int_int.calls (k : Nat) (A0 : Option Addr) (c0 : Nat) (l0 : List Int) (a1 : Int) (r : Int) (w : World) (hr0 : Kd.C (Kd.int .i64) w A0 l0.length l0) (hc0 : l0.length ≤ c0) (h : slices_Index_int_int.f k l0 a1 = some r) :
  Calls Try.prog 90 #[.slice A0 l0.length c0, .int .i64 a1] w fun e w' => e = .returned (.int .i64 r) ∧ Drawn0 w w' := by
 have HR0 := zK hr0; have HC0 := zK hc0; clear hr0 hc0
 have H := h; unfold slices_Index_int_int.f at H
 clear h; have H' := zK H; clear H
 go_enter Try.func90, Try.ntmps90
 go_wp2
 go_loopg [8] k (fun kq v8 w' => ∃ (aa : Int), v8 = .int .i64 aa ∧ Aside0 (slices_Index_int_int.l0 kq l0 a1 (l0.length : Int) aa = some r) ∧ Aside0 (kq ≤ k) ∧ Drawn0 w w')
 case atStart => exact ⟨(0), zf, H', ⟨Nat.le_refl _⟩, by repeat (first | exact Drawn0.refl _ | apply Drawn0.step)⟩
 case round =>
  clear H'
  obtain ⟨aa, rfl, HA, HK1, ⟨m1, rfl⟩⟩ := hrel
  cases gk with
  | zero => exact absurd HA.out (by simp [slices_Index_int_int.l0])
  | succ k1 =>
   have H := HA.out; clear HA
   simp only [slices_Index_int_int.l0] at H
   by_cases c3 : aa < (l0.length : Int)
   ·rw [if_pos c3] at H
    have c3b0 : decide (aa < (l0.length : Int)) = true := decide_eq_true c3
    clear c3
    by_cases c4 : 0 ≤ aa
    ·rw [if_pos c4] at H
     have c4b0 : decide (0 ≤ aa) = true := decide_eq_true c4
     clear c4
     by_cases c5 : aa < (l0.length : Int)
     ·rw [if_pos c5] at H
      have c5b0 : decide (aa < (l0.length : Int)) = true := decide_eq_true c5
      clear c5
      by_cases c6 : a1 = (rd l0 aa)
      ·rw [if_pos c6] at H
       have c6b0 : (a1 == (rd l0 aa)) = true := beq_iff_eq.mpr c6
       have c6b1 : (a1 != (rd l0 aa)) = false := bne_eq_false_iff_eq.mpr c6
       clear c6; obtain rfl := Option.some.inj H
       have ab : 0 ≤ (aa : Int) := zd
       have ac : aa < (l0.length : Int) := zd
       obtain ⟨af, ae, ad⟩ := Kd.at_int HR0.out aa ab ac
       cases ae
       replace ab := eq_true ab; replace ac := eq_true ac
       go_wp2
       go_ret
       exact ⟨by first | rfl | (simp; done) | (simp [*]; done), by repeat (first | exact Drawn0.refl _ | apply Drawn0.step)⟩
      ·rw [if_neg c6] at H
       have c6b0 : (a1 == (rd l0 aa)) = false := beq_eq_false_iff_ne.mpr c6
       have c6b1 : (a1 != (rd l0 aa)) = true := bne_iff_ne.mpr c6
       have H' := zK H; clear H
       have ab : 0 ≤ (aa : Int) := zd
       have ac : aa < (l0.length : Int) := zd
       obtain ⟨af, ae, ad⟩ := Kd.at_int HR0.out aa ab ac
       cases ae
       replace ab := eq_true ab; replace ac := eq_true ac
       go_wp2
       go_roundg k1
       case measure => have := HK1.out; omega
       case rel => exact ⟨(wrap64 (aa + 1)), zf, H', ⟨by have := HK1.out; omega⟩, by repeat (first | exact Drawn0.refl _ | apply Drawn0.step)⟩
     ·rw [if_neg c5] at H
      exact absurd H (by simp)
    ·rw [if_neg c4] at H
     exact absurd H (by simp)
   ·rw [if_neg c3] at H
    have c3b0 : decide (aa < (l0.length : Int)) = false := decide_eq_false c3
    clear c3; obtain rfl := Option.some.inj H
    go_wp2
    go_ret
    exact ⟨by first | rfl | (simp; done) | (simp [*]; done), by repeat (first | exact Drawn0.refl _ | apply Drawn0.step)⟩
def slices_Contains_int_int.f (k : Nat) (a : List Int) (b : Int) : Option (Bool) := (slices_Index_int_int.f k a b).bind fun c => (some (decide (c ≥ 0)))
set_option maxHeartbeats 8000000 in
set_option maxRecDepth 100000 in
theorem slices_Contains_int_int.calls (k : Nat) (A0 : Option Addr) (c0 : Nat) (l0 : List Int) (a1 : Int) (r : Bool) (w : World) (hr0 : Kd.C (Kd.int .i64) w A0 l0.length l0) (hc0 : l0.length ≤ c0) (h : slices_Contains_int_int.f k l0 a1 = some r) :
  Calls Try.prog 52 #[.slice A0 l0.length c0, .int .i64 a1] w fun e w' => e = .returned (.bool r) ∧ Drawn0 w w' := by
 have HR0 := zK hr0; have HC0 := zK hc0; clear hr0 hc0
 have H := h; unfold slices_Contains_int_int.f at H
 clear h; replace H := Option.bind_eq_some_iff.mp H
 obtain ⟨aa, A30, H⟩ := H
 (try dsimp only at H)
 have A3 := zK A30; clear A30; obtain rfl := Option.some.inj H
 go_enter Try.func52, Try.ntmps52
 go_wp2_with ((with_reducible refine gate_callee (f := 90) rfl ?_); refine goesL_ (some 7) rfl rfl Try.func90 (by kernel_rfl) rfl #[.slice A0 l0.length c0, .int .i64 a1] rfl zg ?_; (with_reducible refine (slices_Index_int_int.calls k _ _ l0 a1 aa _ ?side1 ?side2 A3.out).mono ?_); (case side1 => repeat (first | exact HR0.out | (with_reducible refine Kd.C_alloc ?_ _) | (with_reducible refine Kd.C_drewN ?_ _) | (with_reducible refine Kd.C_drew ?_))); (case side2 => exact HC0.out); rintro e w' ⟨rfl, ⟨nd, rfl⟩⟩; refine ⟨_, rfl, ?_⟩)
 go_ret
 exact ⟨by first | rfl | (simp; done) | (simp [*]; done), by repeat (first | exact Drawn0.refl _ | apply Drawn0.step)⟩
set_option maxHeartbeats 2000000 in
set_option maxRecDepth 100000 in
theorem idxF102 (g : Nat) (lb : Array Value) (eg : ∀ args w, (callFunc g args).run Try.prog w = .ok (.enter g args) w) (A : Option Addr) (c : Nat) (l : List S74) (p : S74 → Bool) (w : World)
  (hr : Kd.C k74 w A l.length l)
  (hp : ∀ (W : World) (x : S74) (A1_ : Option Addr) (c1_ : Nat), x ∈ l → Below w.heap.size w W → (x.f1).length ≤ c1_ → Kd.C (Kd.int .i64) W A1_ (x.f1).length (x.f1) → Calls Try.prog g (#[.agg #[.int .i64 x.f0, .slice A1_ (x.f1).length c1_]] ++ lb) W fun e w' => e = .returned (.bool (p x)) ∧ Below W.heap.size W w') :
  Calls Try.prog 102 #[.slice A l.length c, .func (.func g) #[] lb] w fun e w' => e = .returned (.int .i64 (Opens.idxB p l)) ∧ Below w.heap.size w w' := by
 have hbig : l.length ≤ 9223372036854775807 := hr.2.1
 have HBIG := zK hbig; have HP := zK hp; have HR := zK hr; clear hp hr
 go_enter Try.func102, Try.ntmps102
 go_wp2
 go_loopg [5, 8] l.length (fun gg _ s8 wr => ∃ kk : Nat, kk ≤ l.length ∧ l.length - kk ≤ gg ∧ s8 = .int .i64 kk ∧ Aside0 (Below w.heap.size w wr) ∧ Aside0 (∀ j (hj : j < l.length), j < kk → p l[j] = false))
 case atStart => exact ⟨0, Nat.zero_le _, by omega, rfl, ⟨Below.refl _ w⟩, ⟨fun j _ hj => absurd hj (Nat.not_lt_zero _)⟩⟩
 case round =>
  obtain ⟨kk, hkk, hg, rfl, BW, AL⟩ := hrel
  by_cases hlt : kk < l.length
  ·have hltz : (kk : Int) < (l.length : Int) := by omega
   obtain ⟨ad, A1_, c1_, rfl, hcell0, hcell1, aa, hC1⟩ := at_T74 HR.out (kk : Int) (by omega) (by omega)
   replace hcell0 := (BW.out.cell (World.block_lt_of_cell? w _ hcell0)).trans hcell0
   replace hcell1 := (BW.out.cell (World.block_lt_of_cell? w _ hcell1)).trans hcell1
   have hrd : rd_T74 l (kk : Int) = l[kk] := by simp [rd_T74, hlt]
   rw [Int.toNat_natCast] at hcell0
   simp only [hrd] at hcell0
   rw [Int.toNat_natCast] at hcell1
   simp only [hrd] at hcell1
   rw [hrd] at aa hC1
   have hcall := HP.out wr l[kk] _ _ (List.getElem_mem hlt) BW.out aa (Kd.C_below hC1 BW.out)
   clear aa hC1
   generalize hy : l[kk] = y at hcell0 hcell1 hcall
   have B := zK hy; clear hy hrd
   have hk0 : 0 ≤ (kk : Int) := by omega
   cases hq : p y with
   | true =>
    rw [hq] at hcall
    go_wp2_with (go_at_fn g; refine hcall.mono ?_; rintro e w' ⟨rfl, hb'⟩)
    go_ret
    refine ⟨?_, below_step BW.out hb'⟩
    rw [Opens.idxB_hit p l kk hlt (by rw [B.out]; exact hq) (fun j hj => AL.out j (by omega) hj)]
    rfl
   | false =>
    rw [hq] at hcall
    go_wp2_with (go_at_fn g; refine hcall.mono ?_; rintro e w' ⟨rfl, hb'⟩)
    go_roundg (l.length - (kk + 1))
    case measure => omega
    case rel =>
     refine ⟨kk + 1, by omega, by omega, by go_num, ⟨below_step BW.out hb'⟩, ⟨fun j hj' hj => ?_⟩⟩
     by_cases e : j = kk
     ·subst e
      rw [B.out]; exact hq
     ·exact AL.out j hj' (by omega)
  ·have hltz : ¬ (kk : Int) < (l.length : Int) := by omega
   go_wp2
   go_ret
   refine ⟨?_, BW.out⟩
   rw [Opens.idxB_miss p l (fun j hj => AL.out j hj (by omega))]
   rfl
def vc_impl_wantOf_1_idx.p (a1_0 : Int) (x : S74) : Bool := (x.f0 == a1_0)
theorem vc_impl_wantOf_1_idx.clo (a1_0 : Int) (x : S74) (A1_ : Option Addr) (c1_ : Nat) (g0 : Nat) (w : World) (hb : w.heap[g0]? = some (.cells #[.int .i64 a1_0] 3 (0, 0))) :
  Calls Try.prog 103 #[.agg #[.int .i64 x.f0, .slice A1_ (x.f1).length c1_], .pointer (some ⟨g0, 0, none⟩)] w fun e w' => e = .returned (.bool (vc_impl_wantOf_1_idx.p a1_0 x)) ∧ Below w.heap.size w w' := by
 have hc : (w.alloc (.cells #[.int .i64 x.f0, .slice A1_ (x.f1).length c1_] 74)).cell? ⟨g0, 0, none⟩ = some (.int .i64 a1_0) := by
  rw [World.cell?_alloc_past _ _ _ (blk_lt hb)]; exact (blk_cell hb 0).trans rfl
 have hu := Try.underlying74; clear hb
 go_enter Try.func103, Try.ntmps103
 go_wp2
 go_ret
 exact ⟨rfl, (Below.refl _ _).alloc (Nat.le_refl _) _⟩
def vc_impl_wantOf_1_idx.f (a : List S74) (b : Int) : Option (Int) := some (Opens.idxB (vc_impl_wantOf_1_idx.p b) a)
theorem vc_impl_wantOf_1_idx.calls (A0 : Option Addr) (c0 : Nat) (l0 : List S74) (a1_0 : Int) (g0 : Nat) (r : Int) (w : World) (hr0 : Kd.C k74 w A0 l0.length l0) (hc0 : l0.length ≤ c0) (hb0 : w.heap[g0]? = some (.cells #[.int .i64 a1_0] 3 (0, 0))) (h : vc_impl_wantOf_1_idx.f l0 a1_0 = some r) :
  Calls Try.prog 102 #[.slice A0 l0.length c0, .func (.func 103) #[] #[.pointer (some ⟨g0, 0, none⟩)]] w fun e w' => e = .returned (.int .i64 r) ∧ Below w.heap.size w w' := by
 obtain rfl := Option.some.inj h
 exact idxF102 103 #[.pointer (some ⟨g0, 0, none⟩)] (enters_of Try.func103 (by kernel_rfl) rfl) A0 c0 l0 _ w hr0 (fun W x A1_ c1_ _ hW _ _ => vc_impl_wantOf_1_idx.clo a1_0 x A1_ c1_ g0 W (blk_below (g := g0) hb0 hW))
def impl_wantOf.f (a : List Int) (b : Int) (c : List (S69)) (d : List (S74)) (e : Int) : Option (Int) := (vc_impl_wantOf_1_idx.f d e).bind fun f => (some f)
set_option maxHeartbeats 8000000 in
set_option maxRecDepth 100000 in
theorem impl_wantOf.calls (ai : Option Addr) (aj : Nat) (ad : List Int) (a0_1 : Int) (ak : Option Addr) (al : Nat) (ae : List (S69)) (ag : Option Addr) (ah : Nat) (ac : List (S74)) (a1 : Int) (r : Int) (w : World) (ar : Kd.C (Kd.int .i64) w ai ad.length ad) (hc0_0 : ad.length ≤ aj) (au : Kd.C k69 w ak ae.length ae) (hc0_2 : ae.length ≤ al) (av : Kd.C k74 w ag ac.length ac) (hc0_3 : ac.length ≤ ah) (h : impl_wantOf.f ad a0_1 ae ac a1 = some r) :
  Calls Try.prog 79 #[.agg #[.slice ai ad.length aj, .int .i64 a0_1, .slice ak ae.length al, .slice ag ac.length ah], .int .i64 a1] w fun e w' => e = .returned (.int .i64 r) ∧ Below w.heap.size w w' := by
 have hu28 := Try.underlying28
 have hmf : ∀ (fn : Fn) (first cap : Array Value) (w : World), (Instr.makeFunc fn first cap).run Try.prog w = .ok (.func fn first cap) w := fun _ _ _ _ => rfl
 have HR0_0 := zK ar; have HC0_0 := zK hc0_0; clear ar hc0_0; have HR0_2 := zK au; have HC0_2 := zK hc0_2; clear au hc0_2; have aA := zK av; have aB := zK hc0_3; clear av hc0_3
 have HB := zK (Below.refl w.heap.size w)
 have H := h; unfold impl_wantOf.f at H
 clear h; replace H := Option.bind_eq_some_iff.mp H
 obtain ⟨aq, A30, H⟩ := H
 (try dsimp only at H)
 have A3 := zK A30; clear A30; obtain rfl := Option.some.inj H
 go_enter Try.func79, Try.ntmps79
 go_wp2_with (first | ((with_reducible refine gate_dst (N := 2) rfl ?_); refine zX 2 #[.slice ai ad.length aj, .int .i64 a0_1, .slice ak ae.length al, .slice ag ac.length ah] 28 ?_; intro ab hg w4 hbox hb; have aa := zK (hbox); have GW260 := zK ((by rw [hg]; exact (below_size (zb HB)) : w.heap.size ≤ ab)); have am := zK ((by rw [hg]; exact (below_size (zb HB)) : w.heap.size ≤ ab)); replace HB := zK (below_step (zb HB) hb); clear hb hbox hg) | ((with_reducible refine gate_dst (N := 3) rfl ?_); refine zX 3 #[.int .i64 a1] 3 ?_; intro af hg w5 hbox hb; have an := zK (hbox); have GW261 := zK ((by rw [hg]; exact (below_size (zb HB)) : w.heap.size ≤ af)); have az := zK ((by rw [hg]; exact (below_size (zb HB)) : w.heap.size ≤ af)); replace HB := zK (below_step (zb HB) hb); have ao := zK ((by rw [hg]; exact Nat.ne_of_lt (blk_lt (g := ab) (o := .cells #[.slice ai ad.length aj, .int .i64 a0_1, .slice ak ae.length al, .slice ag ac.length ah] 28 (0, 0)) (zk aa)) : ab ≠ af)); have ap := zK ((by rw [hg]; exact Nat.ne_of_gt (blk_lt (g := ab) (o := .cells #[.slice ai ad.length aj, .int .i64 a0_1, .slice ak ae.length al, .slice ag ac.length ah] 28 (0, 0)) (zk aa)) : af ≠ ab)); replace aa := zK (blk_below (g := ab) (o := .cells #[.slice ai ad.length aj, .int .i64 a0_1, .slice ak ae.length al, .slice ag ac.length ah] 28 (0, 0)) (zk aa) hb); clear hb hbox hg; have hnb6 := ao.out; have hnc6 := ap.out; obtain ⟨hcz7_0, hcz7_1, hcz7_2, hcz7_3⟩ := zL4 aa; obtain ⟨hfz7_0, hfz7_1, hfz7_2, hfz7_3⟩ := zF4 aa) | ((with_reducible refine gate_callee (f := 102) rfl ?_); refine goesL_ (some 8) rfl rfl Try.func102 (by kernel_rfl) rfl #[.slice ag ac.length ah, .func (.func 103) #[] #[.pointer (some ⟨af, 0, none⟩)]] rfl zg ?_; (with_reducible refine (vc_impl_wantOf_1_idx.calls _ _ ac a1 af aq _ ?side1 ?side2 ?side3 A3.out).mono ?_); (case side1 => exact zs (Kd.C_below aA.out HB.out)); (case side2 => exact aB.out); (case side3 => exact (zk an)); rintro e w8 ⟨rfl, hb⟩; refine ⟨_, rfl, ?_⟩; replace aa := zK (blk_below (g := ab) (o := .cells #[.slice ai ad.length aj, .int .i64 a0_1, .slice ak ae.length al, .slice ag ac.length ah] 28 (0, 0)) (zk aa) hb); replace an := zK (blk_below (g := af) (o := .cells #[.int .i64 a1] 3 (0, 0)) (zk an) hb); replace HB := zK (below_step (zb HB) hb); (try clear hb)))
 go_ret
 exact ⟨ze, zb HB⟩
end Go.Proofs.Ytmjhbdmicejppaa.Px
