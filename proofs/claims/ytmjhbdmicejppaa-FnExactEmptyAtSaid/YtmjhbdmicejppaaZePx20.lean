import Derived.Test.YtmjhbdmicejppaaZePx0
import Derived.Test.YtmjhbdmicejppaaZePx3
import Derived.Test.YtmjhbdmicejppaaZePx4
import Derived.Test.YtmjhbdmicejppaaZePx5
import Derived.Test.YtmjhbdmicejppaaZePx7
import Derived.Test.YtmjhbdmicejppaaZePx8
import Derived.Test.YtmjhbdmicejppaaZePx9
import Derived.Test.YtmjhbdmicejppaaZePx12
namespace Go.Proofs.Ytmjhbdmicejppaa.Px
open Go.RowKit Go.Proofs.YtmjhbdmicejppaaW.PrintWords Go.Proofs.YtmjhbdmicejppaaW.PrintLast Go.Proofs.YtmjhbdmicejppaaW.PrintMore
attribute [local go_sem] max2_int min2_int max_two min_two max_three min_three max_four min_four   
set_option linter.unusedVariables false
set_option linter.unusedSimpArgs false
def spec_EmptyAt.l0 : Nat → Int → Int → List Int → Int → List (S69) → List (S74) → Option (Int × Bool)
 | 0, _, _, _, _, _, _ => none
 | k + 1, x1, x6, x840000, x840001, x840002, x840003 => if x6 ≤ 600 then ((spec_l05Tray.f x840000 x840001 x840002 x840003 x1).bind fun t841 => (if 0 ≤ t841 then (if t841 < (x840000.length : Int) then (if (rd x840000 t841) = 0 then (some (x6, true)) else ((spec_l05Step.f k x840000 x840001 x840002 x840003).bind fun bt843 => (spec_EmptyAt.l0 k x1 (wrap64 (x6 + 1)) bt843.1 bt843.2.1 bt843.2.2.1 bt843.2.2.2))) else (none)) else (none))) else (some (0, false))
def spec_EmptyAt.f (k : Nat) (l0_0 : List Int) (a0_1 : Int) (l0_2 : List (S69)) (l0_3 : List (S74)) (a1 : Int) : Option (Int × Bool) := (spec_TrayAt.f k l0_0 a0_1 l0_2 l0_3 a1).bind fun t840 => (if t840 < 0 then (some (0, false)) else (spec_EmptyAt.l0 k a1 0 l0_0 a0_1 l0_2 l0_3))
def spec_EmptyAt.T6 : Bool × List (List Nat × List Nat) := (true, [([], []), ([0], [0]), ([], []), ([], []), ([2, 3], [2, 3]), ([1, 4], [1, 4]), ([5], [5]), ([6], [6])])
def spec_EmptyAt.B6 : List Nat := [0, 1, 0, 0, 12, 31, 63, 127]
theorem spec_EmptyAt.tab6 : rtab .any (opsOf Try.f36 6) = spec_EmptyAt.T6 := by kernel_rfl
theorem spec_EmptyAt.bits6 : waitsOk spec_EmptyAt.T6.2 spec_EmptyAt.B6 = true := by kernel_rfl
set_option maxHeartbeats 8000000 in
set_option maxRecDepth 100000 in
theorem spec_EmptyAt.calls (k : Nat) (P0_0_ : Nat → Prop) (aA : Option Addr) (aB : Nat) (ap : List Int) (a0_1 : Int) (P0_2_ : Nat → Prop) (aC : Option Addr) (aD : Nat) (aq : List (S69)) (P0_3_ : Nat → Prop) (aE : Option Addr) (aF : Nat) (ar : List (S74)) (a1 : Int) (r1 : Int) (r2 : Bool) (w : World) (hs0_0 : Kd.V (Kd.int .i64) 3 w w.heap.size (fun k_ => P0_0_ k_) (.slice aA ap.length aB) ap) (hs0_2 : Kd.V k69 69 w w.heap.size (fun k_ => P0_2_ k_) (.slice aC aq.length aD) aq) (hs0_3 : Kd.V k74 74 w w.heap.size (fun k_ => P0_3_ k_) (.slice aE ar.length aF) ar) (h : spec_EmptyAt.f k ap a0_1 aq ar a1 = some (r1, r2)) :
  Calls Try.prog 36 #[.agg #[.slice aA ap.length aB, .int .i64 a0_1, .slice aC aq.length aD, .slice aE ar.length aF], .int .i64 a1] w fun e w' => e = .returned (.tuple #[.int .i64 r1, .bool r2]) ∧ Below w.heap.size w w' := by
 have hu28 := Try.underlying28
 have aj := zK (show Kd.V (Kd.int .i64) 3 w w.heap.size (fun k_ => ((P0_0_ k_ ∨ P0_2_ k_ ∨ P0_3_ k_) ∨ w.heap.size ≤ k_)) (.slice aA ap.length aB) ap from Kd.V_mono hs0_0 (fun k_ hk => .inl (.inl hk)))
 have ak := zK (show Kd.V k69 69 w w.heap.size (fun k_ => ((P0_0_ k_ ∨ P0_2_ k_ ∨ P0_3_ k_) ∨ w.heap.size ≤ k_)) (.slice aC aq.length aD) aq from Kd.V_mono hs0_2 (fun k_ hk => .inl (.inr (.inl hk))))
 have al := zK (show Kd.V k74 74 w w.heap.size (fun k_ => ((P0_0_ k_ ∨ P0_2_ k_ ∨ P0_3_ k_) ∨ w.heap.size ≤ k_)) (.slice aE ar.length aF) ar from Kd.V_mono hs0_3 (fun k_ hk => .inl (.inr (.inr hk))))
 have HB := zK (Below.refl w.heap.size w)
 have H : ((spec_TrayAt.f k ap a0_1 aq ar a1).bind fun aM => (if aM < 0 then (some (0, false)) else (spec_EmptyAt.l0 k a1 0 ap a0_1 aq ar))) = some (r1, r2) := h
 clear h; replace H := Option.bind_eq_some_iff.mp H
 obtain ⟨aM, A30, H⟩ := H
 replace H : (if aM < 0 then (some (0, false)) else (spec_EmptyAt.l0 k a1 0 ap a0_1 aq ar)) = some (r1, r2) := H
 have A3 := zK A30; clear A30
 by_cases c4 : aM < 0
 ·rw [if_pos c4] at H
  have bv : decide (aM < 0) = true := decide_eq_true c4
  clear c4
  simp only [Option.some.injEq, Prod.mk.injEq] at H
  obtain ⟨rfl, rfl⟩ := H
  go_enter Try.func36, Try.ntmps36
  go_wp2_with (first | ((with_reducible refine gate_dst (N := 2) rfl ?_); refine box_event ?hg (N := 2) ?hd (cs := #[.slice aA ap.length aB, .int .i64 a0_1, .slice aC aq.length aD, .slice aE ar.length aF]) (t := 28) ?hr ?_; (case hd => rfl); (case hg => rfl); (case hr => first | (go_simp; done) | (go_simp; rfl)); intro af hg w5 hbox hb; have av := zK (Kd.V_below (Kd.V_elderB (by (with_reducible repeat (first | apply Kd.V_alloc | apply Kd.V_drewN | apply Kd.V_drew)); exact aj.out) af (Nat.le_of_eq hg.symm)) hb); have aw := zK (Kd.V_below (Kd.V_elderB (by (with_reducible repeat (first | apply Kd.V_alloc | apply Kd.V_drewN | apply Kd.V_drew)); exact ak.out) af (Nat.le_of_eq hg.symm)) hb); have ax := zK (Kd.V_below (Kd.V_elderB (by (with_reducible repeat (first | apply Kd.V_alloc | apply Kd.V_drewN | apply Kd.V_drew)); exact al.out) af (Nat.le_of_eq hg.symm)) hb); have ay := zK (below_step (zb HB) hb); have az := zK (hbox); have aZ := zK ((by rw [hg]; exact (below_size (zb HB)) : w.heap.size ≤ af)); have a0 := zK ((by rw [hg]; exact (below_size (zb HB)) : w.heap.size ≤ af)); clear aj; clear ak; clear al; clear HB; have aj := av; have ak := aw; have al := ax; have HB := ay; have aa := az; have bw := aZ; have am := a0; clear av aw ax ay az aZ a0; clear hb hbox hg; have a5 : w5.cell? ⟨af, 0, none⟩ = some (.slice aA ap.length aB) := (blk_cell aa.out 0).trans rfl; have a6 : w5.cell? ⟨af, 1, none⟩ = some (.int .i64 a0_1) := (blk_cell aa.out 1).trans rfl; have a7 : w5.cell? ⟨af, 2, none⟩ = some (.slice aC aq.length aD) := (blk_cell aa.out 2).trans rfl; have a8 : w5.cell? ⟨af, 3, none⟩ = some (.slice aE ar.length aF) := (blk_cell aa.out 3).trans rfl; have a9 := blk_frozen aa.out 0; have ba := blk_frozen aa.out 1; have bb := blk_frozen aa.out 2; have bc := blk_frozen aa.out 3) | ((with_reducible refine gate_callee (f := 34) rfl ?_); refine goesL_ (some 9) rfl rfl Try.func34 (by kernel_rfl) rfl #[.agg #[.slice aA ap.length aB, .int .i64 a0_1, .slice aC aq.length aD, .slice aE ar.length aF], .int .i64 a1] rfl (by (try simp only [List.map_toArray, List.map_cons, List.map_nil]); first | done | rfl | (simp only [List.length_drop, List.length_take]; rfl)) ?_; (with_reducible refine (spec_TrayAt.calls k _ _ ap a0_1 _ _ aq _ _ ar a1 aM _ ?side1 ?side2 ?side3 ?side4 ?side5 ?side6 A3.out).mono ?_); (case side1 => repeat (first | exact (Kd.V_reads' aj.out).2.2 | (with_reducible refine Kd.C_alloc ?_ _) | (with_reducible refine Kd.C_drewN ?_ _) | (with_reducible refine Kd.C_drew ?_))); (case side2 => exact (Kd.V_reads' aj.out).2.1); (case side3 => repeat (first | exact (Kd.V_reads' ak.out).2.2 | (with_reducible refine Kd.C_alloc ?_ _) | (with_reducible refine Kd.C_drewN ?_ _) | (with_reducible refine Kd.C_drew ?_))); (case side4 => exact (Kd.V_reads' ak.out).2.1); (case side5 => repeat (first | exact (Kd.V_reads' al.out).2.2 | (with_reducible refine Kd.C_alloc ?_ _) | (with_reducible refine Kd.C_drewN ?_ _) | (with_reducible refine Kd.C_drew ?_))); (case side6 => exact (Kd.V_reads' al.out).2.1); rintro e w7 ⟨rfl, hb⟩; refine ⟨_, rfl, ?_⟩; have av := zK (Kd.V_below (by (with_reducible repeat (first | apply Kd.V_alloc | apply Kd.V_drewN | apply Kd.V_drew)); exact aj.out) hb); have aw := zK (Kd.V_below (by (with_reducible repeat (first | apply Kd.V_alloc | apply Kd.V_drewN | apply Kd.V_drew)); exact ak.out) hb); have ax := zK (Kd.V_below (by (with_reducible repeat (first | apply Kd.V_alloc | apply Kd.V_drewN | apply Kd.V_drew)); exact al.out) hb); have ay := zK (blk_below (g := af) (o := .cells #[.slice aA ap.length aB, .int .i64 a0_1, .slice aC aq.length aD, .slice aE ar.length aF] 28 (0, 0)) (zk aa) hb); have az := zK (below_step (zb HB) hb); clear aj; clear ak; clear al; clear aa; clear HB; have aj := av; have ak := aw; have al := ax; have aa := ay; have HB := az; clear av aw ax ay az; (try clear hb)))
  go_ret2
  exact ⟨by first | rfl | (simp [errW_none, errW_some] <;> rfl) | (simp [*, errW_none, errW_some] <;> rfl), by repeat (first | (with_reducible first | exact HB.out | apply zB | apply zC | apply zE | refine zS ?_ am.out) | exact HB.out)⟩
 ·rw [if_neg c4] at H
  have bv : decide (aM < 0) = false := decide_eq_false c4
  clear c4; have H' := zK H; clear H
  go_enter Try.func36, Try.ntmps36
  go_wp2_with (first | ((with_reducible refine gate_dst (N := 2) rfl ?_); refine box_event ?hg (N := 2) ?hd (cs := #[.slice aA ap.length aB, .int .i64 a0_1, .slice aC aq.length aD, .slice aE ar.length aF]) (t := 28) ?hr ?_; (case hd => rfl); (case hg => rfl); (case hr => first | (go_simp; done) | (go_simp; rfl)); intro af hg w8 hbox hb; have av := zK (Kd.V_below (Kd.V_elderB (by (with_reducible repeat (first | apply Kd.V_alloc | apply Kd.V_drewN | apply Kd.V_drew)); exact aj.out) af (Nat.le_of_eq hg.symm)) hb); have aw := zK (Kd.V_below (Kd.V_elderB (by (with_reducible repeat (first | apply Kd.V_alloc | apply Kd.V_drewN | apply Kd.V_drew)); exact ak.out) af (Nat.le_of_eq hg.symm)) hb); have ax := zK (Kd.V_below (Kd.V_elderB (by (with_reducible repeat (first | apply Kd.V_alloc | apply Kd.V_drewN | apply Kd.V_drew)); exact al.out) af (Nat.le_of_eq hg.symm)) hb); have ay := zK (below_step (zb HB) hb); have az := zK (hbox); have aZ := zK ((by rw [hg]; exact (below_size (zb HB)) : w.heap.size ≤ af)); have a0 := zK ((by rw [hg]; exact (below_size (zb HB)) : w.heap.size ≤ af)); clear aj; clear ak; clear al; clear HB; have aj := av; have ak := aw; have al := ax; have HB := ay; have aa := az; have bw := aZ; have am := a0; clear av aw ax ay az aZ a0; clear hb hbox hg; have bd : w8.cell? ⟨af, 0, none⟩ = some (.slice aA ap.length aB) := (blk_cell aa.out 0).trans rfl; have be : w8.cell? ⟨af, 1, none⟩ = some (.int .i64 a0_1) := (blk_cell aa.out 1).trans rfl; have bf : w8.cell? ⟨af, 2, none⟩ = some (.slice aC aq.length aD) := (blk_cell aa.out 2).trans rfl; have bg : w8.cell? ⟨af, 3, none⟩ = some (.slice aE ar.length aF) := (blk_cell aa.out 3).trans rfl; have bh := blk_frozen aa.out 0; have bi := blk_frozen aa.out 1; have bj := blk_frozen aa.out 2; have bk := blk_frozen aa.out 3) | ((with_reducible refine gate_callee (f := 34) rfl ?_); refine goesL_ (some 9) rfl rfl Try.func34 (by kernel_rfl) rfl #[.agg #[.slice aA ap.length aB, .int .i64 a0_1, .slice aC aq.length aD, .slice aE ar.length aF], .int .i64 a1] rfl (by (try simp only [List.map_toArray, List.map_cons, List.map_nil]); first | done | rfl | (simp only [List.length_drop, List.length_take]; rfl)) ?_; (with_reducible refine (spec_TrayAt.calls k _ _ ap a0_1 _ _ aq _ _ ar a1 aM _ ?side1 ?side2 ?side3 ?side4 ?side5 ?side6 A3.out).mono ?_); (case side1 => repeat (first | exact (Kd.V_reads' aj.out).2.2 | (with_reducible refine Kd.C_alloc ?_ _) | (with_reducible refine Kd.C_drewN ?_ _) | (with_reducible refine Kd.C_drew ?_))); (case side2 => exact (Kd.V_reads' aj.out).2.1); (case side3 => repeat (first | exact (Kd.V_reads' ak.out).2.2 | (with_reducible refine Kd.C_alloc ?_ _) | (with_reducible refine Kd.C_drewN ?_ _) | (with_reducible refine Kd.C_drew ?_))); (case side4 => exact (Kd.V_reads' ak.out).2.1); (case side5 => repeat (first | exact (Kd.V_reads' al.out).2.2 | (with_reducible refine Kd.C_alloc ?_ _) | (with_reducible refine Kd.C_drewN ?_ _) | (with_reducible refine Kd.C_drew ?_))); (case side6 => exact (Kd.V_reads' al.out).2.1); rintro e w10 ⟨rfl, hb⟩; refine ⟨_, rfl, ?_⟩; have av := zK (Kd.V_below (by (with_reducible repeat (first | apply Kd.V_alloc | apply Kd.V_drewN | apply Kd.V_drew)); exact aj.out) hb); have aw := zK (Kd.V_below (by (with_reducible repeat (first | apply Kd.V_alloc | apply Kd.V_drewN | apply Kd.V_drew)); exact ak.out) hb); have ax := zK (Kd.V_below (by (with_reducible repeat (first | apply Kd.V_alloc | apply Kd.V_drewN | apply Kd.V_drew)); exact al.out) hb); have ay := zK (blk_below (g := af) (o := .cells #[.slice aA ap.length aB, .int .i64 a0_1, .slice aC aq.length aD, .slice aE ar.length aF] 28 (0, 0)) (zk aa) hb); have az := zK (below_step (zb HB) hb); clear aj; clear ak; clear al; clear aa; clear HB; have aj := av; have ak := aw; have al := ax; have aa := ay; have HB := az; clear av aw ax ay az; (try clear hb)))
  go_loopg [6] k (fun kq v6 w' => ∃ (aI : Int) (ab : List Int) (ai : Int) (ah : List (S69)) (ag : List (S74)) (u840000 : Value) (u840002 : Value) (u840003 : Value), v6 = .int .i64 aI ∧ Aside0 (spec_EmptyAt.l0 kq a1 aI ab ai ah ag = some (r1, r2)) ∧ Aside0 (kq ≤ k) ∧ Aside0 (Kd.V (Kd.int .i64) 3 w' w.heap.size (fun k_ => ((P0_0_ k_ ∨ P0_2_ k_ ∨ P0_3_ k_) ∨ w.heap.size ≤ k_) ∧ k_ ≠ af) u840000 ab) ∧ Aside0 (Kd.V k69 69 w' w.heap.size (fun k_ => ((P0_0_ k_ ∨ P0_2_ k_ ∨ P0_3_ k_) ∨ w.heap.size ≤ k_) ∧ k_ ≠ af) u840002 ah) ∧ Aside0 (Kd.V k74 74 w' w.heap.size (fun k_ => ((P0_0_ k_ ∨ P0_2_ k_ ∨ P0_3_ k_) ∨ w.heap.size ≤ k_) ∧ k_ ≠ af) u840003 ag) ∧ Aside0 (w'.heap[af]? = some (.cells #[u840000, .int .i64 ai, u840002, u840003] 28 (0, 0))) ∧ Aside0 (Below w.heap.size w w'))
  case atStart => exact ⟨(0), (ap), (a0_1), (aq), (ar), (.slice aA ap.length aB), (.slice aC aq.length aD), (.slice aE ar.length aF), (by first | rfl | (simp; done) | (simp [*]; done)), H', ⟨Nat.le_refl _⟩, ⟨by (with_reducible repeat (first | apply Kd.V_alloc | apply Kd.V_drewN | apply Kd.V_drew)); exact aj.out⟩, ⟨by (with_reducible repeat (first | apply Kd.V_alloc | apply Kd.V_drewN | apply Kd.V_drew)); exact ak.out⟩, ⟨by (with_reducible repeat (first | apply Kd.V_alloc | apply Kd.V_drewN | apply Kd.V_drew)); exact al.out⟩, ⟨zk aa⟩, ⟨zb HB⟩⟩
  case round =>
   clear H'
   try clear p2
   try clear c3
   try clear c4
   try clear bv
   try clear a5
   try clear a6
   try clear a7
   try clear a8
   try clear bd
   try clear be
   try clear bf
   try clear bg
   try clear a9
   try clear ba
   try clear bb
   try clear bc
   try clear bh
   try clear bi
   try clear bj
   try clear bk
   obtain ⟨aI, ab, ai, ah, ag, u840000, u840002, u840003, rfl, HA, HK1, ac, ad, ae, aa, HB⟩ := hrel
   cases gk with
   | zero => exact absurd HA.out (by simp [spec_EmptyAt.l0])
   | succ k1 =>
    have H := HA.out; clear HA
    simp only [spec_EmptyAt.l0] at H
    by_cases bu : aI ≤ 600
    ·rw [if_pos bu] at H
     have bx : decide (aI ≤ 600) = true := decide_eq_true bu
     clear bu; replace H := Option.bind_eq_some_iff.mp H
     obtain ⟨an, bz, H⟩ := H
     replace H : (if 0 ≤ an then (if an < (ab.length : Int) then (if (rd ab an) = 0 then (some (aI, true)) else ((spec_l05Step.f k1 ab ai ah ag).bind fun bt843 => (spec_EmptyAt.l0 k1 a1 (wrap64 (aI + 1)) bt843.1 bt843.2.1 bt843.2.2.1 bt843.2.2.2))) else (none)) else (none)) = some (r1, r2) := H
     have A12 := zK bz; clear bz
     by_cases c13 : 0 ≤ an
     ·rw [if_pos c13] at H
      have c13b0 : decide (0 ≤ an) = true := decide_eq_true c13
      clear c13
      by_cases c14 : an < (ab.length : Int)
      ·rw [if_pos c14] at H
       have c14b0 : decide (an < (ab.length : Int)) = true := decide_eq_true c14
       clear c14
       by_cases bl : (rd ab an) = 0
       ·rw [if_pos bl] at H
        have bA : ((rd ab an) == 0) = true := beq_iff_eq.mpr bl
        have bB : ((rd ab an) != 0) = false := bne_eq_false_iff_eq.mpr bl
        clear bl
        simp only [Option.some.injEq, Prod.mk.injEq] at H
        obtain ⟨rfl, rfl⟩ := H
        try go_wp2
        have av := zK (Kd.V_drew ac.out)
        have aw := zK (Kd.V_drew ad.out)
        have ax := zK (Kd.V_drew ae.out)
        have ay := zK (zD aa.out)
        have az := zK (zE HB.out)
        clear ac ad ae aa HB; have ac := av; have ad := aw; have ae := ax; have aa := ay; have HB := az; clear av aw ax ay az
        obtain ⟨Ao17, bm, bC⟩ := Kd.V_slice ac.out
        (first | subst bC | (injection bC with f1_ f2_ f3_; have f4_ := f1_.symm; have f5_ := f3_.symm; clear f1_ f2_ f3_; subst f4_; subst f5_))
        obtain ⟨bn, bo, bD⟩ := Kd.V_slice ad.out
        (first | subst bD | (injection bD with f1_ f2_ f3_; have f4_ := f1_.symm; have f5_ := f3_.symm; clear f1_ f2_ f3_; subst f4_; subst f5_))
        obtain ⟨bp, bq, bE⟩ := Kd.V_slice ae.out
        (first | subst bE | (injection bE with f1_ f2_ f3_; have f4_ := f1_.symm; have f5_ := f3_.symm; clear f1_ f2_ f3_; subst f4_; subst f5_))
        have aQ : 0 ≤ (an : Int) := zd
        have aR : an < (ab.length : Int) := zd
        obtain ⟨ao, br, au⟩ := Kd.at_int (Kd.V_reads' ac.out).2.2 an aQ aR
        cases br
        replace aQ := eq_true aQ; replace aR := eq_true aR
        refine start_ (n := 8) (S := fun w' => w'.cell? ⟨af, 0, none⟩ = some (.slice (some ao) ab.length bm) ∧ w'.cell? ⟨af, 1, none⟩ = some (.int .i64 ai) ∧ w'.cell? ⟨af, 2, none⟩ = some (.slice bn ah.length bo) ∧ w'.cell? ⟨af, 3, none⟩ = some (.slice bp ag.length bq) ∧ w'.cell? (ao.add (an).toNat) = some (.int .i64 (rd ab an))) (ds := []) #[ff, ff, ff, ff, ff, ff, ff, ff] (by kernel_rfl) rfl rfl ⟨(blk_cell aa.out 0).trans rfl, (blk_cell aa.out 1).trans rfl, (blk_cell aa.out 2).trans rfl, (blk_cell aa.out 3).trans rfl, au⟩ (fun hHeld => ?_); refine with_tabW spec_EmptyAt.tab6 spec_EmptyAt.bits6 (fun HT_ HW_ => ?_)
        generalize wr.drew = w16 at ac ad ae aa HB au hHeld ⊢
        refine zu 0 (some 15) #[tt, ff, ff, ff, ff, ff, ff, ff] (any_of HT_.out (by kernel_rfl)) ?_
        refine zu 3 (some 18) #[tt, ff, ff, tt, ff, ff, ff, ff] (any_of HT_.out (by kernel_rfl)) ?_
        refine zt 1 (some 16) #[tt, tt, ff, tt, ff, ff, ff, ff] (take_ofW HT_.out HW_.out (by kernel_rfl)) hHeld ?_
        refine zt 2 (some 17) #[tt, tt, tt, tt, ff, ff, ff, ff] (take_ofW HT_.out HW_.out (by kernel_rfl)) hHeld ?_
        refine one_ (i := 4) (N := some 19) #[tt, tt, tt, tt, tt, ff, ff, ff] rfl rfl (one_of HT_.out (by kernel_rfl)) (by decide) (fun K hK => ?_)
        refine goes_ Try.func77 (by kernel_rfl) rfl #[.agg #[.slice (some ao) ab.length bm, .int .i64 ai, .slice bn ah.length bo, .slice bp ag.length bq], .int .i64 a1] (by rfl) rfl rfl (by (try simp only [List.map_toArray, List.map_cons, List.map_nil]); first | done | rfl | (simp only [List.length_drop, List.length_take]; rfl)) ?_
        with_reducible refine (spec_l05Tray.calls _ _ ab ai _ _ ah _ _ ag a1 an _ ?side1 ?side2 ?side3 ?side4 ?side5 ?side6 A12.out).mono ?_
        (case side1 => repeat (first | exact (Kd.V_reads' ac.out).2.2 | (with_reducible refine Kd.C_alloc ?_ _) | (with_reducible refine Kd.C_drewN ?_ _) | (with_reducible refine Kd.C_drew ?_)))
        (case side2 => exact (Kd.V_reads' ac.out).2.1)
        (case side3 => repeat (first | exact (Kd.V_reads' ad.out).2.2 | (with_reducible refine Kd.C_alloc ?_ _) | (with_reducible refine Kd.C_drewN ?_ _) | (with_reducible refine Kd.C_drew ?_)))
        (case side4 => exact (Kd.V_reads' ad.out).2.1)
        (case side5 => repeat (first | exact (Kd.V_reads' ae.out).2.2 | (with_reducible refine Kd.C_alloc ?_ _) | (with_reducible refine Kd.C_drewN ?_ _) | (with_reducible refine Kd.C_drew ?_)))
        (case side6 => exact (Kd.V_reads' ae.out).2.1)
        rintro e w20 ⟨rfl, hb⟩
        have bs := (hb.cell (World.block_lt_of_cell? _ _ (hHeld.2.2.2.2))).trans (hHeld.2.2.2.2)
        refine ⟨_, rfl, ?_⟩
        have av := zK (Kd.V_below (by (with_reducible repeat (first | apply Kd.V_alloc | apply Kd.V_drewN | apply Kd.V_drew)); exact ac.out) hb)
        have aw := zK (Kd.V_below (by (with_reducible repeat (first | apply Kd.V_alloc | apply Kd.V_drewN | apply Kd.V_drew)); exact ad.out) hb)
        have ax := zK (Kd.V_below (by (with_reducible repeat (first | apply Kd.V_alloc | apply Kd.V_drewN | apply Kd.V_drew)); exact ae.out) hb)
        have ay := zK (blk_below (g := af) (o := .cells #[.slice (some ao) ab.length bm, .int .i64 ai, .slice bn ah.length bo, .slice bp ag.length bq] 28 (0, 0)) (zk aa) hb)
        have az := zK (below_step (zb HB) hb)
        clear ac ad ae aa HB; have ac := av; have ad := aw; have ae := ax; have aa := ay; have HB := az; clear av aw ax ay az; (try clear hb); (try clear hb2); (try clear hk); (try clear hi)
        refine hK.out _ _ ⟨(blk_cell aa.out 0).trans rfl, (blk_cell aa.out 1).trans rfl, (blk_cell aa.out 2).trans rfl, (blk_cell aa.out 3).trans rfl, bs⟩ (fun hHeld => ?_)
        clear hK K
        refine norm_ (a' := ?_) ?_ ?_
        rotate_left
        ·show Act.put _ (some 19) _ = _
         simp only [Act.put, zp, zq, zr, i64_w, i32_w]
         rfl
        refine zu 5 (some 20) #[tt, tt, tt, tt, tt, tt, ff, ff] (any_of HT_.out (by kernel_rfl)) ?_
        refine zt 6 (some 21) #[tt, tt, tt, tt, tt, tt, tt, ff] (take_ofW HT_.out HW_.out (by kernel_rfl)) hHeld ?_
        refine zu 7 (some 22) #[tt, tt, tt, tt, tt, tt, tt, tt] (any_of HT_.out (by kernel_rfl)) ?_
        refine done_ (done_of HT_.out (by kernel_rfl)) ?_
        try go_wp2
        go_ret2
        exact ⟨by first | rfl | (simp [errW_none, errW_some] <;> rfl) | (simp [*, errW_none, errW_some] <;> rfl), by repeat (first | (with_reducible first | exact HB.out | apply zB | apply zC | apply zE | refine zS ?_ am.out) | exact HB.out)⟩
       ·rw [if_neg bl] at H
        have bA : ((rd ab an) == 0) = false := beq_eq_false_iff_ne.mpr bl
        have bB : ((rd ab an) != 0) = true := bne_iff_ne.mpr bl
        replace H := Option.bind_eq_some_iff.mp H
        obtain ⟨⟨aJ, aN, aO, aS⟩, bF, H⟩ := H
        replace H : (spec_EmptyAt.l0 k1 a1 (wrap64 (aI + 1)) aJ aN aO aS) = some (r1, r2) := H
        have A21 := zK bF; clear bF; have H' := zK H; clear H
        try go_wp2
        have av := zK (Kd.V_drew ac.out)
        have aw := zK (Kd.V_drew ad.out)
        have ax := zK (Kd.V_drew ae.out)
        have ay := zK (zD aa.out)
        have az := zK (zE HB.out)
        clear ac ad ae aa HB; have ac := av; have ad := aw; have ae := ax; have aa := ay; have HB := az; clear av aw ax ay az
        obtain ⟨Ao23, aP, bG⟩ := Kd.V_slice ac.out
        (first | subst bG | (injection bG with f1_ f2_ f3_; have f4_ := f1_.symm; have f5_ := f3_.symm; clear f1_ f2_ f3_; subst f4_; subst f5_))
        obtain ⟨aK, aL, bH⟩ := Kd.V_slice ad.out
        (first | subst bH | (injection bH with f1_ f2_ f3_; have f4_ := f1_.symm; have f5_ := f3_.symm; clear f1_ f2_ f3_; subst f4_; subst f5_))
        obtain ⟨aG, aH, bI⟩ := Kd.V_slice ae.out
        (first | subst bI | (injection bI with f1_ f2_ f3_; have f4_ := f1_.symm; have f5_ := f3_.symm; clear f1_ f2_ f3_; subst f4_; subst f5_))
        have aQ : 0 ≤ (an : Int) := zd
        have aR : an < (ab.length : Int) := zd
        obtain ⟨ao, br, au⟩ := Kd.at_int (Kd.V_reads' ac.out).2.2 an aQ aR
        cases br
        replace aQ := eq_true aQ; replace aR := eq_true aR
        refine start_ (n := 8) (S := fun w' => w'.cell? ⟨af, 0, none⟩ = some (.slice (some ao) ab.length aP) ∧ w'.cell? ⟨af, 1, none⟩ = some (.int .i64 ai) ∧ w'.cell? ⟨af, 2, none⟩ = some (.slice aK ah.length aL) ∧ w'.cell? ⟨af, 3, none⟩ = some (.slice aG ag.length aH) ∧ w'.cell? (ao.add (an).toNat) = some (.int .i64 (rd ab an))) (ds := []) #[ff, ff, ff, ff, ff, ff, ff, ff] (by kernel_rfl) rfl rfl ⟨(blk_cell aa.out 0).trans rfl, (blk_cell aa.out 1).trans rfl, (blk_cell aa.out 2).trans rfl, (blk_cell aa.out 3).trans rfl, au⟩ (fun hHeld => ?_); refine with_tabW spec_EmptyAt.tab6 spec_EmptyAt.bits6 (fun HT_ HW_ => ?_)
        generalize wr.drew = w22 at ac ad ae aa HB au hHeld ⊢
        refine zu 0 (some 15) #[tt, ff, ff, ff, ff, ff, ff, ff] (any_of HT_.out (by kernel_rfl)) ?_
        refine zu 3 (some 18) #[tt, ff, ff, tt, ff, ff, ff, ff] (any_of HT_.out (by kernel_rfl)) ?_
        refine zt 1 (some 16) #[tt, tt, ff, tt, ff, ff, ff, ff] (take_ofW HT_.out HW_.out (by kernel_rfl)) hHeld ?_
        refine zt 2 (some 17) #[tt, tt, tt, tt, ff, ff, ff, ff] (take_ofW HT_.out HW_.out (by kernel_rfl)) hHeld ?_
        refine one_ (i := 4) (N := some 19) #[tt, tt, tt, tt, tt, ff, ff, ff] rfl rfl (one_of HT_.out (by kernel_rfl)) (by decide) (fun K hK => ?_)
        refine goes_ Try.func77 (by kernel_rfl) rfl #[.agg #[.slice (some ao) ab.length aP, .int .i64 ai, .slice aK ah.length aL, .slice aG ag.length aH], .int .i64 a1] (by rfl) rfl rfl (by (try simp only [List.map_toArray, List.map_cons, List.map_nil]); first | done | rfl | (simp only [List.length_drop, List.length_take]; rfl)) ?_
        with_reducible refine (spec_l05Tray.calls _ _ ab ai _ _ ah _ _ ag a1 an _ ?side1 ?side2 ?side3 ?side4 ?side5 ?side6 A12.out).mono ?_
        (case side1 => repeat (first | exact (Kd.V_reads' ac.out).2.2 | (with_reducible refine Kd.C_alloc ?_ _) | (with_reducible refine Kd.C_drewN ?_ _) | (with_reducible refine Kd.C_drew ?_)))
        (case side2 => exact (Kd.V_reads' ac.out).2.1)
        (case side3 => repeat (first | exact (Kd.V_reads' ad.out).2.2 | (with_reducible refine Kd.C_alloc ?_ _) | (with_reducible refine Kd.C_drewN ?_ _) | (with_reducible refine Kd.C_drew ?_)))
        (case side4 => exact (Kd.V_reads' ad.out).2.1)
        (case side5 => repeat (first | exact (Kd.V_reads' ae.out).2.2 | (with_reducible refine Kd.C_alloc ?_ _) | (with_reducible refine Kd.C_drewN ?_ _) | (with_reducible refine Kd.C_drew ?_)))
        (case side6 => exact (Kd.V_reads' ae.out).2.1)
        rintro e w26 ⟨rfl, hb⟩
        have bs := (hb.cell (World.block_lt_of_cell? _ _ (hHeld.2.2.2.2))).trans (hHeld.2.2.2.2)
        refine ⟨_, rfl, ?_⟩
        have av := zK (Kd.V_below (by (with_reducible repeat (first | apply Kd.V_alloc | apply Kd.V_drewN | apply Kd.V_drew)); exact ac.out) hb)
        have aw := zK (Kd.V_below (by (with_reducible repeat (first | apply Kd.V_alloc | apply Kd.V_drewN | apply Kd.V_drew)); exact ad.out) hb)
        have ax := zK (Kd.V_below (by (with_reducible repeat (first | apply Kd.V_alloc | apply Kd.V_drewN | apply Kd.V_drew)); exact ae.out) hb)
        have ay := zK (blk_below (g := af) (o := .cells #[.slice (some ao) ab.length aP, .int .i64 ai, .slice aK ah.length aL, .slice aG ag.length aH] 28 (0, 0)) (zk aa) hb)
        have az := zK (below_step (zb HB) hb)
        clear ac ad ae aa HB; have ac := av; have ad := aw; have ae := ax; have aa := ay; have HB := az; clear av aw ax ay az; (try clear hb); (try clear hb2); (try clear hk); (try clear hi)
        refine hK.out _ _ ⟨(blk_cell aa.out 0).trans rfl, (blk_cell aa.out 1).trans rfl, (blk_cell aa.out 2).trans rfl, (blk_cell aa.out 3).trans rfl, bs⟩ (fun hHeld => ?_)
        clear hK K
        refine norm_ (a' := ?_) ?_ ?_
        rotate_left
        ·show Act.put _ (some 19) _ = _
         simp only [Act.put, zp, zq, zr, i64_w, i32_w]
         rfl
        refine zu 5 (some 20) #[tt, tt, tt, tt, tt, tt, ff, ff] (any_of HT_.out (by kernel_rfl)) ?_
        refine zt 6 (some 21) #[tt, tt, tt, tt, tt, tt, tt, ff] (take_ofW HT_.out HW_.out (by kernel_rfl)) hHeld ?_
        refine zu 7 (some 22) #[tt, tt, tt, tt, tt, tt, tt, tt] (any_of HT_.out (by kernel_rfl)) ?_
        refine done_ (done_of HT_.out (by kernel_rfl)) ?_
        have hcz27_0 : w26.cell? ⟨af, 0, none⟩ = some (.slice (some ao) ab.length aP) := (blk_cell aa.out 0).trans rfl
        have hcz27_1 : w26.cell? ⟨af, 1, none⟩ = some (.int .i64 ai) := (blk_cell aa.out 1).trans rfl
        have hcz27_2 : w26.cell? ⟨af, 2, none⟩ = some (.slice aK ah.length aL) := (blk_cell aa.out 2).trans rfl
        have hcz27_3 : w26.cell? ⟨af, 3, none⟩ = some (.slice aG ag.length aH) := (blk_cell aa.out 3).trans rfl
        have hfz27_0 := blk_frozen aa.out 0; have hfz27_1 := blk_frozen aa.out 1; have hfz27_2 := blk_frozen aa.out 2; have hfz27_3 := blk_frozen aa.out 3
        try go_wp2_with (first | ((with_reducible refine gate_callee (f := 56) rfl ?_); refine goesL_ (some 25) rfl rfl Try.func56 (by kernel_rfl) rfl #[.agg #[.slice (some ao) ab.length aP, .int .i64 ai, .slice aK ah.length aL, .slice aG ag.length aH]] rfl (by (try simp only [List.map_toArray, List.map_cons, List.map_nil]); first | done | rfl | (simp only [List.length_drop, List.length_take]; rfl)) ?_; (with_reducible refine (spec_l05Step.calls k1 _ _ ab ai _ _ ah _ _ ag aJ aN aO aS _ ?side1 ?side2 ?side3 ?side4 ?side5 ?side6 A21.out).mono ?_); (case side1 => repeat (first | exact (Kd.V_reads' ac.out).2.2 | (with_reducible refine Kd.C_alloc ?_ _) | (with_reducible refine Kd.C_drewN ?_ _) | (with_reducible refine Kd.C_drew ?_))); (case side2 => exact (Kd.V_reads' ac.out).2.1); (case side3 => repeat (first | exact (Kd.V_reads' ad.out).2.2 | (with_reducible refine Kd.C_alloc ?_ _) | (with_reducible refine Kd.C_drewN ?_ _) | (with_reducible refine Kd.C_drew ?_))); (case side4 => exact (Kd.V_reads' ad.out).2.1); (case side5 => repeat (first | exact (Kd.V_reads' ae.out).2.2 | (with_reducible refine Kd.C_alloc ?_ _) | (with_reducible refine Kd.C_drewN ?_ _) | (with_reducible refine Kd.C_drew ?_))); (case side6 => exact (Kd.V_reads' ae.out).2.1); rintro e w28 ⟨v844, v848, v851, rfl, ho0, ho1, ho2, hb⟩; refine ⟨_, rfl, ?_⟩; have av := zK (Kd.V_mono (Kd.V_told (Kd.V_told (Kd.V_told (Kd.V_old (by (with_reducible repeat (first | apply Kd.V_alloc | apply Kd.V_drewN | apply Kd.V_drew)); exact ac.out) hb) (Kd.R_base ho0)) (Kd.S_base ho1)) (Kd.S_base ho2)) (fun _ h_ => h_.1)); have aw := zK (Kd.V_mono (Kd.V_told (Kd.V_told (Kd.V_told (Kd.V_old (by (with_reducible repeat (first | apply Kd.V_alloc | apply Kd.V_drewN | apply Kd.V_drew)); exact ad.out) hb) (Kd.R_base ho0)) (Kd.S_base ho1)) (Kd.S_base ho2)) (fun _ h_ => h_.1)); have ax := zK (Kd.V_mono (Kd.V_told (Kd.V_told (Kd.V_told (Kd.V_old (by (with_reducible repeat (first | apply Kd.V_alloc | apply Kd.V_drewN | apply Kd.V_drew)); exact ae.out) hb) (Kd.R_base ho0)) (Kd.S_base ho1)) (Kd.S_base ho2)) (fun _ h_ => h_.1)); have ay := zK (Kd.R_lower (Kd.R_newM (M := fun k_ => (w.heap.size ≤ k_)) ho0 (below_size (zb HB)) (fun k_ h_ => h_)) (below_size (zb HB))); have az := zK (Kd.S_lower (Kd.S_newM (M := fun k_ => (w.heap.size ≤ k_)) ho1 (below_size (zb HB)) (fun k_ h_ => h_)) (below_size (zb HB))); have aZ := zK (Kd.S_lower (Kd.S_newM (M := fun k_ => (w.heap.size ≤ k_)) ho2 (below_size (zb HB)) (fun k_ h_ => h_)) (below_size (zb HB))); have a0 := zK (blk_below (g := af) (o := .cells #[.slice (some ao) ab.length aP, .int .i64 ai, .slice aK ah.length aL, .slice aG ag.length aH] 28 (0, 0)) (zk aa) hb); have n7_ := zK (below_step (zb HB) hb); clear ac; clear ad; clear ae; clear aa; clear HB; have ac := av; have ad := aw; have ae := ax; have a2 := ay; have a3 := az; have a4 := aZ; have aa := a0; have HB := n7_; clear av aw ax ay az aZ a0 n7_; (try clear hb); (try clear ho0); (try clear ho1); (try clear ho2); obtain ⟨aT, aU, eo29⟩ := Kd.R_slice a2.out; subst eo29; have hcz30_0 : w28.cell? ⟨af, 0, none⟩ = some (.slice (some ao) ab.length aP) := (blk_cell aa.out 0).trans rfl; have hcz30_1 : w28.cell? ⟨af, 1, none⟩ = some (.int .i64 ai) := (blk_cell aa.out 1).trans rfl; have hcz30_2 : w28.cell? ⟨af, 2, none⟩ = some (.slice aK ah.length aL) := (blk_cell aa.out 2).trans rfl; have hcz30_3 : w28.cell? ⟨af, 3, none⟩ = some (.slice aG ag.length aH) := (blk_cell aa.out 3).trans rfl; have hfz30_0 := blk_frozen aa.out 0; have hfz30_1 := blk_frozen aa.out 1; have hfz30_2 := blk_frozen aa.out 2; have hfz30_3 := blk_frozen aa.out 3; obtain ⟨aV, aW, eo31⟩ := Kd.S_slice a3.out; subst eo31; obtain ⟨aX, aY, eo32⟩ := Kd.S_slice a4.out; subst eo32))
        go_roundg k1
        case measure => have := HK1.out; omega
        case rel => exact ⟨(wrap64 (aI + 1)), (aJ), (aN), (aO), (aS), (.slice aT aJ.length aU), (.slice aV aO.length aW), (.slice aX aS.length aY), (by first | rfl | (simp; done) | (simp [*]; done)), H', ⟨by have := HK1.out; omega⟩, ⟨Kd.V_mono (Kd.R_V (by (with_reducible repeat (first | apply Kd.R_alloc | apply Kd.R_drewN | apply Kd.R_drew)); exact Kd.R_mono (ok' := fun k_ => (((w.heap.size ≤ k_)) ∧ k_ ≠ af)) (Kd.R_far (p := ⟨af, 3, none⟩) (Kd.R_far (p := ⟨af, 2, none⟩) (Kd.R_far (p := ⟨af, 1, none⟩) (Kd.R_far (p := ⟨af, 0, none⟩) (Kd.R_types (Kd.R_types a2.out aa.out (by decide)) aa.out (by decide)) (fun _ hk => hk.2) (.slice aT aJ.length aU)) (fun _ hk => hk.2) (.int .i64 aN)) (fun _ hk => hk.2) (.slice aV aO.length aW)) (fun _ hk => hk.2) (.slice aX aS.length aY)) (fun _ hk => ⟨hk.1.1.1, hk.1.2⟩))) (fun k_ hk => by first | exact ⟨(.inr (hk.1)), hk.2⟩ | exact (.inr (hk)))⟩, ⟨Kd.V_mono (Kd.S_V (by (with_reducible repeat (first | apply Kd.S_alloc | apply Kd.S_drewN | apply Kd.S_drew)); exact Kd.S_mono (ok' := fun k_ => (((w.heap.size ≤ k_)) ∧ k_ ≠ af)) (Kd.S_far (p := ⟨af, 3, none⟩) (Kd.S_far (p := ⟨af, 2, none⟩) (Kd.S_far (p := ⟨af, 1, none⟩) (Kd.S_far (p := ⟨af, 0, none⟩) (Kd.S_types (Kd.S_types a3.out aa.out (by decide)) aa.out (by decide)) (fun _ hk => hk.2) (.slice aT aJ.length aU)) (fun _ hk => hk.2) (.int .i64 aN)) (fun _ hk => hk.2) (.slice aV aO.length aW)) (fun _ hk => hk.2) (.slice aX aS.length aY)) (fun _ hk => ⟨hk.1.1.1, hk.1.2⟩))) (fun k_ hk => by first | exact ⟨(.inr (hk.1)), hk.2⟩ | exact (.inr (hk)))⟩, ⟨Kd.V_mono (Kd.S_V (by (with_reducible repeat (first | apply Kd.S_alloc | apply Kd.S_drewN | apply Kd.S_drew)); exact Kd.S_mono (ok' := fun k_ => (((w.heap.size ≤ k_)) ∧ k_ ≠ af)) (Kd.S_far (p := ⟨af, 3, none⟩) (Kd.S_far (p := ⟨af, 2, none⟩) (Kd.S_far (p := ⟨af, 1, none⟩) (Kd.S_far (p := ⟨af, 0, none⟩) (Kd.S_types (Kd.S_types a4.out aa.out (by decide)) aa.out (by decide)) (fun _ hk => hk.2) (.slice aT aJ.length aU)) (fun _ hk => hk.2) (.int .i64 aN)) (fun _ hk => hk.2) (.slice aV aO.length aW)) (fun _ hk => hk.2) (.slice aX aS.length aY)) (fun _ hk => ⟨hk.1.1.1, hk.1.2⟩))) (fun k_ hk => by first | exact ⟨(.inr (hk.1)), hk.2⟩ | exact (.inr (hk)))⟩, ⟨by (with_reducible repeat (first | refine zN ?_ _ | refine zD ?_ | refine zA ?_ _)); refine blk_put (cs := #[.slice aT aJ.length aU, .int .i64 aN, .slice aV aO.length aW, .slice aG ag.length aH]) ?_ 3 _ rfl; (with_reducible repeat (first | refine zN ?_ _ | refine zD ?_ | refine zA ?_ _)); refine blk_put (cs := #[.slice aT aJ.length aU, .int .i64 aN, .slice aK ah.length aL, .slice aG ag.length aH]) ?_ 2 _ rfl; (with_reducible repeat (first | refine zN ?_ _ | refine zD ?_ | refine zA ?_ _)); refine blk_put (cs := #[.slice aT aJ.length aU, .int .i64 ai, .slice aK ah.length aL, .slice aG ag.length aH]) ?_ 1 _ rfl; (with_reducible repeat (first | refine zN ?_ _ | refine zD ?_ | refine zA ?_ _)); refine blk_put (cs := #[.slice (some ao) ab.length aP, .int .i64 ai, .slice aK ah.length aL, .slice aG ag.length aH]) ?_ 0 _ rfl; (with_reducible repeat (first | refine zN ?_ _ | refine zD ?_ | refine zA ?_ _)); exact aa.out⟩, ⟨zb HB⟩⟩
      ·rw [if_neg c14] at H
       exact absurd H (by simp)
     ·rw [if_neg c13] at H
      exact absurd H (by simp)
    ·rw [if_neg bu] at H
     have bx : decide (aI ≤ 600) = false := decide_eq_false bu
     clear bu
     simp only [Option.some.injEq, Prod.mk.injEq] at H
     obtain ⟨rfl, rfl⟩ := H
     go_wp2
     go_ret2
     exact ⟨by first | rfl | (simp [errW_none, errW_some] <;> rfl) | (simp [*, errW_none, errW_some] <;> rfl), by repeat (first | (with_reducible first | exact HB.out | apply zB | apply zC | apply zE | refine zS ?_ am.out) | exact HB.out)⟩
def impl_EmptyAt.l0 : Nat → Int → Int → List Int → Int → List (S69) → List (S74) → Option (Int × Bool)
 | 0, _, _, _, _, _, _ => none
 | k + 1, x, n, tr, tu, ch, wa => if n ≤ 600 then ((impl_trayAt.f tr tu ch wa x).bind fun t => (if 0 ≤ t then (if t < (tr.length : Int) then (if rd tr t = 0 then (some (n, true)) else ((impl_turn.f k tr tu ch wa).bind fun q => (impl_EmptyAt.l0 k x (wrap64 (n + 1)) q.1 q.2.1 q.2.2 wa))) else (none)) else (none))) else (some (0, false))
def impl_EmptyAt.f (k : Nat) (l0_0 : List Int) (a0_1 : Int) (l0_2 : List (S69)) (l0_3 : List (S74)) (a1 : Int) : Option (Int × Bool) := (impl_TrayAt.f k l0_0 a0_1 l0_2 l0_3 a1).bind fun ti => (if ti < 0 then (some (0, false)) else ((impl_copyLoop.f k l0_0 a0_1 l0_2 l0_3).bind fun c => (impl_EmptyAt.l0 k a1 0 c.1 c.2.1 c.2.2.1 c.2.2.2)))
set_option maxHeartbeats 8000000 in
set_option maxRecDepth 100000 in
theorem impl_EmptyAt.calls (k : Nat) (af : Option Addr) (ag : Nat) (aa : List Int) (a0_1 : Int) (ah : Option Addr) (ai : Nat) (ab : List (S69)) (aj : Option Addr) (ak : Nat) (ac : List (S74)) (a1 : Int) (r1 : Int) (r2 : Bool) (w : World) (al : Kd.C (Kd.int .i64) w af aa.length aa) (hc0_0 : aa.length ≤ ag) (am : Kd.C k69 w ah ab.length ab) (hc0_2 : ab.length ≤ ai) (an : Kd.C k74 w aj ac.length ac) (hc0_3 : ac.length ≤ ak) (h : impl_EmptyAt.f k aa a0_1 ab ac a1 = some (r1, r2)) :
 Calls Try.prog 37 #[.agg #[.slice af aa.length ag, .int .i64 a0_1, .slice ah ab.length ai, .slice aj ac.length ak], .int .i64 a1] w fun e w' => e = .returned (.tuple #[.int .i64 r1, .bool r2]) ∧ Below w.heap.size w w' := by
 have hu28 := Try.underlying28; have HR0 := zK al; have HC0 := zK hc0_0; have HR2 := zK am; have HC2 := zK hc0_2; have HR3 := zK an; have HC3 := zK hc0_3; clear al hc0_0 am hc0_2 an hc0_3; have H := h
 unfold impl_EmptyAt.f at H
 clear h; replace H := Option.bind_eq_some_iff.mp H
 obtain ⟨ti, A10, H⟩ := H
 have A1 := zK A10; clear A10
 by_cases c1 : ti < 0
 ·rw [if_pos c1] at H
  have c1b : decide (ti < 0) = true := decide_eq_true c1
  simp only [Option.some.injEq, Prod.mk.injEq] at H
  obtain ⟨rfl, rfl⟩ := H
  go_enter Try.func37, Try.ntmps37
  go_wp2_with (first | ((with_reducible refine gate_dst (N := 2) rfl ?_); refine box_event ?hg (N := 2) ?hd (cs := #[.slice af aa.length ag, .int .i64 a0_1, .slice ah ab.length ai, .slice aj ac.length ak]) (t := 28) ?hr ?_; (case hd => rfl); (case hg => rfl); (case hr => first | (go_simp; done) | (go_simp; rfl)); intro g1 hg w1 hbox hb; have HB := zK hb; have ae := zK hbox; clear hb hbox hg; have hz0 : w1.cell? ⟨g1, 0, none⟩ = some (.slice af aa.length ag) := (blk_cell ae.out 0).trans rfl; have hz1 : w1.cell? ⟨g1, 1, none⟩ = some (.int .i64 a0_1) := (blk_cell ae.out 1).trans rfl; have hz2 : w1.cell? ⟨g1, 2, none⟩ = some (.slice ah ab.length ai) := (blk_cell ae.out 2).trans rfl; have hz3 : w1.cell? ⟨g1, 3, none⟩ = some (.slice aj ac.length ak) := (blk_cell ae.out 3).trans rfl) | ((with_reducible refine gate_callee (f := 35) rfl ?_); refine goesL_ (some 10) rfl rfl Try.func35 (by kernel_rfl) rfl #[.agg #[.slice af aa.length ag, .int .i64 a0_1, .slice ah ab.length ai, .slice aj ac.length ak], .int .i64 a1] rfl (by (try simp only [List.map_toArray, List.map_cons, List.map_nil]); first | done | rfl) ?_; (with_reducible refine (impl_TrayAt.calls k _ _ aa a0_1 _ _ ab _ _ ac a1 ti _ ?side1 HC0.out ?side3 HC2.out ?side5 HC3.out A1.out).mono ?_); (case side1 => repeat (first | exact (Kd.C_below HR0.out HB.out) | (with_reducible refine Kd.C_alloc ?_ _) | (with_reducible refine Kd.C_drewN ?_ _) | (with_reducible refine Kd.C_drew ?_))); (case side3 => repeat (first | exact (Kd.C_below HR2.out HB.out) | (with_reducible refine Kd.C_alloc ?_ _) | (with_reducible refine Kd.C_drewN ?_ _) | (with_reducible refine Kd.C_drew ?_))); (case side5 => repeat (first | exact (Kd.C_below HR3.out HB.out) | (with_reducible refine Kd.C_alloc ?_ _) | (with_reducible refine Kd.C_drewN ?_ _) | (with_reducible refine Kd.C_drew ?_))); rintro e w2 ⟨rfl, hb⟩; refine ⟨_, rfl, ?_⟩; have hB_ : Below w.heap.size w _ := (by repeat (first | exact HB.out | apply zB | apply zC | apply zE)); have n1 := zK (blk_below (zk ae) hb); have nb := zK (below_step hB_ hb); clear hb hB_ ae HB hz0 hz1 hz2 hz3; have ae := n1; have HB := nb; clear n1 nb; have hz0 : w2.cell? ⟨g1, 0, none⟩ = some (.slice af aa.length ag) := (blk_cell ae.out 0).trans rfl; have hz1 : w2.cell? ⟨g1, 1, none⟩ = some (.int .i64 a0_1) := (blk_cell ae.out 1).trans rfl; have hz2 : w2.cell? ⟨g1, 2, none⟩ = some (.slice ah ab.length ai) := (blk_cell ae.out 2).trans rfl; have hz3 : w2.cell? ⟨g1, 3, none⟩ = some (.slice aj ac.length ak) := (blk_cell ae.out 3).trans rfl))
  go_ret2
  exact ⟨rfl, HB.out⟩
 ·rw [if_neg c1] at H
  have c1b : decide (ti < 0) = false := decide_eq_false c1
  replace H := Option.bind_eq_some_iff.mp H
  obtain ⟨⟨tr0, tu0, ch0, wa0⟩, A20, H⟩ := H
  have A2 := zK A20; clear A20
  have H' := zK (show impl_EmptyAt.l0 k a1 0 tr0 tu0 ch0 wa0 = some (r1, r2) from H)
  clear H
  go_enter Try.func37, Try.ntmps37
  go_wp2_with (first | ((with_reducible refine gate_dst (N := 2) rfl ?_); refine box_event ?hg (N := 2) ?hd (cs := #[.slice af aa.length ag, .int .i64 a0_1, .slice ah ab.length ai, .slice aj ac.length ak]) (t := 28) ?hr ?_; (case hd => rfl); (case hg => rfl); (case hr => first | (go_simp; done) | (go_simp; rfl)); intro g1 hg w1 hbox hb; have HB := zK hb; have ae := zK hbox; clear hb hbox hg; have hz0 : w1.cell? ⟨g1, 0, none⟩ = some (.slice af aa.length ag) := (blk_cell ae.out 0).trans rfl; have hz1 : w1.cell? ⟨g1, 1, none⟩ = some (.int .i64 a0_1) := (blk_cell ae.out 1).trans rfl; have hz2 : w1.cell? ⟨g1, 2, none⟩ = some (.slice ah ab.length ai) := (blk_cell ae.out 2).trans rfl; have hz3 : w1.cell? ⟨g1, 3, none⟩ = some (.slice aj ac.length ak) := (blk_cell ae.out 3).trans rfl) | ((with_reducible refine gate_callee (f := 35) rfl ?_); refine goesL_ (some 10) rfl rfl Try.func35 (by kernel_rfl) rfl #[.agg #[.slice af aa.length ag, .int .i64 a0_1, .slice ah ab.length ai, .slice aj ac.length ak], .int .i64 a1] rfl (by (try simp only [List.map_toArray, List.map_cons, List.map_nil]); first | done | rfl) ?_; (with_reducible refine (impl_TrayAt.calls k _ _ aa a0_1 _ _ ab _ _ ac a1 ti _ ?side1 HC0.out ?side3 HC2.out ?side5 HC3.out A1.out).mono ?_); (case side1 => repeat (first | exact (Kd.C_below HR0.out HB.out) | (with_reducible refine Kd.C_alloc ?_ _) | (with_reducible refine Kd.C_drewN ?_ _) | (with_reducible refine Kd.C_drew ?_))); (case side3 => repeat (first | exact (Kd.C_below HR2.out HB.out) | (with_reducible refine Kd.C_alloc ?_ _) | (with_reducible refine Kd.C_drewN ?_ _) | (with_reducible refine Kd.C_drew ?_))); (case side5 => repeat (first | exact (Kd.C_below HR3.out HB.out) | (with_reducible refine Kd.C_alloc ?_ _) | (with_reducible refine Kd.C_drewN ?_ _) | (with_reducible refine Kd.C_drew ?_))); rintro e w2 ⟨rfl, hb⟩; refine ⟨_, rfl, ?_⟩; have hB_ : Below w.heap.size w _ := (by repeat (first | exact HB.out | apply zB | apply zC | apply zE)); have n1 := zK (blk_below (zk ae) hb); have nb := zK (below_step hB_ hb); clear hb hB_ ae HB hz0 hz1 hz2 hz3; have ae := n1; have HB := nb; clear n1 nb; have hz0 : w2.cell? ⟨g1, 0, none⟩ = some (.slice af aa.length ag) := (blk_cell ae.out 0).trans rfl; have hz1 : w2.cell? ⟨g1, 1, none⟩ = some (.int .i64 a0_1) := (blk_cell ae.out 1).trans rfl; have hz2 : w2.cell? ⟨g1, 2, none⟩ = some (.slice ah ab.length ai) := (blk_cell ae.out 2).trans rfl; have hz3 : w2.cell? ⟨g1, 3, none⟩ = some (.slice aj ac.length ak) := (blk_cell ae.out 3).trans rfl) | ((with_reducible refine gate_callee (f := 53) rfl ?_); refine goesL_ (some 13) rfl rfl Try.func53 (by kernel_rfl) rfl #[.agg #[.slice af aa.length ag, .int .i64 a0_1, .slice ah ab.length ai, .slice aj ac.length ak]] rfl (by (try simp only [List.map_toArray, List.map_cons, List.map_nil]); first | done | rfl) ?_; (with_reducible refine (impl_copyLoop.calls2 k _ _ aa a0_1 _ _ ab _ _ ac tr0 tu0 ch0 wa0 _ ?side1 HC0.out ?side3 HC2.out ?side5 HC3.out A2.out).mono ?_); (case side1 => repeat (first | exact (Kd.C_below HR0.out HB.out) | (with_reducible refine Kd.C_alloc ?_ _) | (with_reducible refine Kd.C_drewN ?_ _) | (with_reducible refine Kd.C_drew ?_))); (case side3 => repeat (first | exact (Kd.C_below HR2.out HB.out) | (with_reducible refine Kd.C_alloc ?_ _) | (with_reducible refine Kd.C_drewN ?_ _) | (with_reducible refine Kd.C_drew ?_))); (case side5 => repeat (first | exact (Kd.C_below HR3.out HB.out) | (with_reducible refine Kd.C_alloc ?_ _) | (with_reducible refine Kd.C_drewN ?_ _) | (with_reducible refine Kd.C_drew ?_))); rintro e w3 ⟨v0, v2, v3, N_, rfl, ho0, ho2, ho3, hN, hb⟩; refine ⟨_, rfl, ?_⟩; have hB_ : Below w.heap.size w _ := (by repeat (first | exact HB.out | apply zB | apply zC | apply zE)); obtain ⟨PW, hL⟩ := LoopMem.mk (Kd.R_lower ho0 (below_size hB_)) (Kd.S_lower ho2 (below_size hB_)) ho3 (Nat.le_trans (below_size hB_) hN); have HL := zK hL; have nb := zK (below_step hB_ hb); clear HB ae; have HB := nb; clear nb hb ho0 ho2 ho3 hN hB_ hL; obtain ⟨B0, d0, B2, d2, B3, d3, rfl, rfl, rfl, l0_, l2_, l3_, _, _, _⟩ := HL.out.reads; clear l0_ l2_ l3_) | ((with_reducible refine gate_dst (N := 6) rfl ?_); refine box_event ?hg (N := 6) ?hd (cs := #[.slice none 0 0, .int .i64 0, .slice none 0 0, .slice none 0 0]) (t := 28) ?hr ?_; (case hd => rfl); (case hg => rfl); (case hr => first | (go_simp; done) | (go_simp; rfl)); intro g3 hg w4 hbox hb; have hB_ : Below w.heap.size w _ := (by repeat (first | exact HB.out | apply zB | apply zC | apply zE)); have n2 := zK (below_step hB_ hb); have ao := zK (show w.heap.size ≤ g3 from by rw [hg]; exact hB_.size); have n3 := zK (LoopMem.below (by repeat (first | exact HL.out | refine LoopMem.below ?_ (zB (Below.refl _ _) _) | refine LoopMem.below ?_ (zC (Below.refl _ _) _) | refine LoopMem.below ?_ (below_drew (Below.refl _ _)))) hb); clear HB HL; have HB := n2; have HL := n3; clear n2 n3 hB_; have ad := zK hbox; clear hb hbox hg; have hy0 : w4.cell? ⟨g3, 0, none⟩ = some (.slice none 0 0) := (blk_cell ad.out 0).trans rfl; have hy1 : w4.cell? ⟨g3, 1, none⟩ = some (.int .i64 0) := (blk_cell ad.out 1).trans rfl; have hy2 : w4.cell? ⟨g3, 2, none⟩ = some (.slice none 0 0) := (blk_cell ad.out 2).trans rfl; have hy3 : w4.cell? ⟨g3, 3, none⟩ = some (.slice none 0 0) := (blk_cell ad.out 3).trans rfl; have hf0 := blk_frozen ad.out 0; have hf1 := blk_frozen ad.out 1; have hf2 := blk_frozen ad.out 2; have hf3 := blk_frozen ad.out 3))
  have b0 := blk_put ad.out 0 (.slice B0 tr0.length d0) rfl
  have b1 := blk_put b0 1 (.int .i64 tu0) rfl
  have b2 := blk_put b1 2 (.slice B2 ch0.length d2) rfl
  have BK3' : ((((w4.setCell ⟨g3, 0, none⟩ (.slice B0 tr0.length d0)).setCell ⟨g3, 1, none⟩ (.int .i64 tu0)).setCell ⟨g3, 2, none⟩ (.slice B2 ch0.length d2)).setCell ⟨g3, 3, none⟩ (.slice B3 wa0.length d3)).heap[g3]? = some (.cells #[.slice B0 tr0.length d0, .int .i64 tu0, .slice B2 ch0.length d2, .slice B3 wa0.length d3] 28 (0, 0)) := blk_put (blk_put (blk_put (blk_put ad.out 0 _ rfl) 1 _ rfl) 2 _ rfl) 3 _ rfl
  have n1 := zK ((((HL.out.box ad.out 0 (.slice B0 tr0.length d0)).box b0 1 (.int .i64 tu0)).box b1 2 (.slice B2 ch0.length d2)).box b2 3 (.slice B3 wa0.length d3))
  have n3 := zK (zS (j := 3) (v := .slice B3 wa0.length d3) (zS (j := 2) (v := .slice B2 ch0.length d2) (zS (j := 1) (v := .int .i64 tu0) (zS (j := 0) (v := .slice B0 tr0.length d0) HB.out ao.out) ao.out) ao.out) ao.out)
  clear HL HB b0 b1 b2 ad hy0 hy1 hy2 hy3 hf0 hf1 hf2 hf3; have HL := n1; have HB := n3; have ad := zK BK3'; clear n1 n3 BK3'
  generalize Value.slice B0 tr0.length d0 = V0 at HL ad HB ⊢
  generalize Value.slice B2 ch0.length d2 = V2 at HL ad HB ⊢
  generalize Value.slice B3 wa0.length d3 = V3 at HL ad HB ⊢
  go_loopg [7] k (fun kq v7 w' => ∃ (n : Int) (tr : List Int) (T : Int) (ch : List S69), v7 = .int .i64 n ∧ Aside0 (impl_EmptyAt.l0 kq a1 n tr T ch wa0 = some (r1, r2)) ∧ Aside0 (kq ≤ k) ∧ Aside0 (LoopMem w.heap.size w' PW V0 tr V2 ch V3 wa0) ∧ Aside0 (w'.heap[g3]? = some (.cells #[V0, .int .i64 T, V2, V3] 28 (0, 0))) ∧ Aside0 (Below w.heap.size w w'))
  case atStart => exact ⟨0, tr0, tu0, ch0, rfl, H', ⟨Nat.le_refl _⟩, HL, ad, HB⟩
  case round =>
  clear H' HL ad HB
  obtain ⟨n, tr, T, ch, rfl, HA, HK1, HL, ad, HB⟩ := hrel
  cases gk with
  | zero => exact absurd HA.out (by simp [impl_EmptyAt.l0])
  | succ k1 =>
   have H := HA.out; clear HA
   simp only [impl_EmptyAt.l0] at H
   by_cases c2 : n ≤ 600
   ·rw [if_pos c2] at H
    have c2b : decide (n ≤ 600) = true := decide_eq_true c2
    replace H := Option.bind_eq_some_iff.mp H
    obtain ⟨t, A60, H⟩ := H
    have A6 := zK A60; clear A60
    by_cases c4 : 0 ≤ t
    ·rw [if_pos c4] at H
     by_cases c5h : t < (tr.length : Int)
     ·rw [if_pos c5h] at H
      have H' := zK H; clear H
      obtain ⟨B0', d0', B2', d2', B3', d3', e0, e2, e3, L0, L2, L3, C0, C2, C3⟩ := HL.out.reads
      subst e0 e2 e3
      obtain ⟨gT, eT, _, _, hcT, _, _⟩ := HL.out.tray t c4 c5h 0
      cases eT
      have HC0' := zK C0; have HC2' := zK C2; have HC3' := zK C3; have HL0' := zK L0; have HL2' := zK L2; have HL3' := zK L3; clear C0 C2 C3 L0 L2 L3
      have hz0 : wr.cell? ⟨g3, 0, none⟩ = some (.slice (some ⟨gT, 0, none⟩) tr.length d0') := (blk_cell ad.out 0).trans rfl
      have hz1 : wr.cell? ⟨g3, 1, none⟩ = some (.int .i64 T) := (blk_cell ad.out 1).trans rfl
      have hz2 : wr.cell? ⟨g3, 2, none⟩ = some (.slice B2' ch.length d2') := (blk_cell ad.out 2).trans rfl
      have hz3 : wr.cell? ⟨g3, 3, none⟩ = some (.slice B3' wa0.length d3') := (blk_cell ad.out 3).trans rfl
      have p5 := eq_true c4
      have q5 : (t < ((tr.length : Nat) : Int)) = True := eq_true c5h
      go_wp2
      refine start_ (n := 8) (S := fun w' => w'.cell? ⟨g3, 0, none⟩ = some (.slice (some ⟨gT, 0, none⟩) tr.length d0') ∧ w'.cell? ⟨g3, 1, none⟩ = some (.int .i64 T) ∧ w'.cell? ⟨g3, 2, none⟩ = some (.slice B2' ch.length d2') ∧ w'.cell? ⟨g3, 3, none⟩ = some (.slice B3' wa0.length d3') ∧ w'.cell? ⟨gT, t.toNat, none⟩ = some (.int .i64 (rd tr t))) (ds := []) #[ff, ff, ff, ff, ff, ff, ff, ff] (by kernel_rfl) rfl rfl ⟨hz0, hz1, hz2, hz3, hcT⟩ (fun hHeld => ?_)
      refine zu 0 (some 18) #[tt, ff, ff, ff, ff, ff, ff, ff] (by kernel_rfl) ?_
      refine zu 3 (some 21) #[tt, ff, ff, tt, ff, ff, ff, ff] (by kernel_rfl) ?_
      refine zt 1 (some 19) #[tt, tt, ff, tt, ff, ff, ff, ff] (by kernel_rfl) hHeld ?_
      refine zt 2 (some 20) #[tt, tt, tt, tt, ff, ff, ff, ff] (by kernel_rfl) hHeld ?_
      refine one_ (i := 4) (N := some 22) #[tt, tt, tt, tt, tt, ff, ff, ff] rfl rfl (by kernel_rfl) (by decide) (fun K hK => ?_)
      refine goes_ Try.func78 (by kernel_rfl) rfl #[.agg #[.slice (some ⟨gT, 0, none⟩) tr.length d0', .int .i64 T, .slice B2' ch.length d2', .slice B3' wa0.length d3'], .int .i64 a1] (by rfl) rfl rfl (by simp only [List.map_toArray, List.map_cons, List.map_nil]; rfl) ?_
      with_reducible refine (impl_trayAt.calls (some ⟨gT, 0, none⟩) d0' tr T B2' d2' ch B3' d3' wa0 a1 t _ (Kd.C_drew HC0'.out) HL0'.out (Kd.C_drew HC2'.out) HL2'.out (Kd.C_drew HC3'.out) HL3'.out A6.out).mono ?_
      rintro e w5 ⟨rfl, hb5⟩
      refine ⟨_, rfl, ?_⟩
      refine hK.out _ _ ⟨pw_cell_below hb5 hHeld.1, pw_cell_below hb5 hHeld.2.1, pw_cell_below hb5 hHeld.2.2.1, pw_cell_below hb5 hHeld.2.2.2.1, pw_cell_below hb5 hHeld.2.2.2.2⟩ (fun hHeld => ?_)
      clear hK K
      refine norm_ (a' := ?_) ?_ ?_
      rotate_left
      ·show Act.put _ (some 22) _ = _
       simp only [Act.put, zp, zq, zr, i64_w, i32_w]
       rfl
      refine zu 5 (some 23) #[tt, tt, tt, tt, tt, tt, ff, ff] (by kernel_rfl) ?_
      refine zt 6 (some 24) #[tt, tt, tt, tt, tt, tt, tt, ff] (by kernel_rfl) hHeld ?_
      refine zu 7 (some 25) #[tt, tt, tt, tt, tt, tt, tt, tt] (by kernel_rfl) ?_
      refine done_ (by kernel_rfl) ?_
      have hbr : Below wr.heap.size wr w5 := below_then (below_drew (Below.refl _ _)) (Nat.le_refl _) hb5
      have n1 := zK (HL.out.below hbr)
      have n3 := zK (blk_below ad.out hbr)
      have n4 := zK (below_step HB.out hbr)
      have H := H'.out; clear H' hb5 hbr hz0 hz1 hz2 hz3 hcT HL ad HB HC0' HC2' HC3' HL0' HL2' HL3'; have HL := n1; have ad := n3; have HB := n4; clear n1 n3 n4
      by_cases c6 : rd tr t = 0
      ·rw [if_pos c6] at H
       have c6a : (rd tr t == 0) = true := beq_iff_eq.mpr c6
       simp only [Option.some.injEq, Prod.mk.injEq] at H
       obtain ⟨rfl, rfl⟩ := H
       go_wp2
       go_ret2
       exact ⟨rfl, HB.out⟩
      ·rw [if_neg c6] at H
       have c6a : (rd tr t == 0) = false := beq_eq_false_iff_ne.mpr c6
       replace H := Option.bind_eq_some_iff.mp H
       obtain ⟨⟨t1, t2, t3⟩, A50, H⟩ := H
       have A5 := zK A50; clear A50
       have H' := zK (show impl_EmptyAt.l0 k1 a1 (wrap64 (n + 1)) t1 t2 t3 wa0 = some (r1, r2) from H)
       clear H
       go_wp2_with (first | ((with_reducible refine gate_callee (f := 54) rfl ?_); refine goesL_ (some 27) rfl rfl Try.func54 (by kernel_rfl) rfl #[.pointer (some ⟨g3, 0, none⟩)] rfl (by (try simp only [List.map_toArray, List.map_cons, List.map_nil]); first | done | rfl) ?_; (with_reducible refine (impl_turn.calls k1 g3 w _ PW _ _ _ tr T ch wa0 t1 t2 t3 (by repeat (first | exact HB.out | apply zB | apply zC | apply zE)) ao.out (zk ad) (by repeat (first | exact HL.out | refine LoopMem.below ?_ (zB (Below.refl _ _) _) | refine LoopMem.below ?_ (zC (Below.refl _ _) _) | refine LoopMem.below ?_ (below_drew (Below.refl _ _)))) A5.out).mono ?_); rintro e w5 ⟨rfl, hL, hbk, hB, _⟩; refine ⟨_, rfl, ?_⟩; clear HL ad HB; have HL := zK hL; have ad := zK hbk; have HB := zK hB; clear hL hbk hB))
       go_roundg k1
       case measure => have := HK1.out; omega
       case rel => exact ⟨wrap64 (n + 1), t1, t2, t3, rfl, H', ⟨by have := HK1.out; omega⟩, HL, ad, HB⟩
     ·rw [if_neg c5h] at H
      exact absurd H (by simp)
    ·rw [if_neg c4] at H
     exact absurd H (by simp)
   ·rw [if_neg c2] at H
    have c2b : decide (n ≤ 600) = false := decide_eq_false c2
    simp only [Option.some.injEq, Prod.mk.injEq] at H
    obtain ⟨rfl, rfl⟩ := H
    go_wp2
    go_ret2
    exact ⟨rfl, HB.out⟩
def laws_FnExactEmptyAt.j0 : Nat → Bool → List Int → Int → List (S95) → List (S97) → List Int → Int → List (S69) → List (S74) → Option (Bool)
 | 0, _, _, _, _, _, _, _, _, _ => none
 | k + 1, x38, x854000, x854001, x854002, x854003, x878000, x878001, x878002, x878003 => if x38 = true then (some false) else ((laws_toLoop.f k x854000 x854001 x854002 x854003).bind fun bt880 => ((laws_eqLoop.f k x878000 x878001 x878002 x878003 bt880.1 bt880.2.1 bt880.2.2.1 bt880.2.2.2).bind fun t890 => (if t890 = true then (some true) else (some false))))
def laws_FnExactEmptyAt.f (k : Nat) (l0_0 : List Int) (a0_1 : Int) (l0_2 : List (S95)) (l0_3 : List (S97)) (a1 : Int) : Option (Bool) := (laws_szLoop.f k l0_0 a0_1 l0_2 l0_3 1048576).bind fun t854 => (if t854 < 0 then (some true) else ((laws_toLoop.f k l0_0 a0_1 l0_2 l0_3).bind fun bt855 => ((spec_EmptyAt.f k bt855.1 bt855.2.1 bt855.2.2.1 bt855.2.2.2 a1).bind fun bt865 => ((laws_toLoop.f k l0_0 a0_1 l0_2 l0_3).bind fun bt867 => ((impl_EmptyAt.f k bt867.1 bt867.2.1 bt867.2.2.1 bt867.2.2.2 a1).bind fun bt878 => (if bt878.1 = bt865.1 then (laws_FnExactEmptyAt.j0 k (bt878.2 != bt865.2) l0_0 a0_1 l0_2 l0_3 bt867.1 bt867.2.1 bt867.2.2.1 bt867.2.2.2) else (laws_FnExactEmptyAt.j0 k true l0_0 a0_1 l0_2 l0_3 bt867.1 bt867.2.1 bt867.2.2.1 bt867.2.2.2)))))))
set_option maxHeartbeats 8000000 in
set_option maxRecDepth 100000 in
theorem laws_FnExactEmptyAt.calls (k : Nat) (ap : Option Addr) (aq : Nat) (ae : List Int) (a0_1 : Int) (ar : Option Addr) (au : Nat) (af : List (S95)) (av : Option Addr) (aw : Nat) (ag : List (S97)) (a1 : Int) (r : Bool) (w : World) (bU : Kd.C (Kd.int .i64) w ap ae.length ae) (hc0_0 : ae.length ≤ aq) (bV : Kd.C k95 w ar af.length af) (hc0_2 : af.length ≤ au) (bW : Kd.C k97 w av ag.length ag) (hc0_3 : ag.length ≤ aw) (hrt : Aside0 (r = true)) (h : laws_FnExactEmptyAt.f k ae a0_1 af ag a1 = some r) :
  Calls Try.prog 9 #[.agg #[.slice ap ae.length aq, .int .i64 a0_1, .slice ar af.length au, .slice av ag.length aw], .int .i64 a1] w fun e w' => e = .returned (.bool r) ∧ Below w.heap.size w w' := by
 have hu43 := Try.underlying43; have hu28 := Try.underlying28; have aX := zK bU; have aY := zK hc0_0; clear bU hc0_0; have aZ := zK bV; have a0 := zK hc0_2; clear bV hc0_2; have a2 := zK bW; have a3 := zK hc0_3; clear bW hc0_3
 have HB := zK (Below.refl w.heap.size w)
 have H : ((laws_szLoop.f k ae a0_1 af ag 1048576).bind fun a4 => (if a4 < 0 then (some true) else ((laws_toLoop.f k ae a0_1 af ag).bind fun bt855 => ((spec_EmptyAt.f k bt855.1 bt855.2.1 bt855.2.2.1 bt855.2.2.2 a1).bind fun bt865 => ((laws_toLoop.f k ae a0_1 af ag).bind fun bt867 => ((impl_EmptyAt.f k bt867.1 bt867.2.1 bt867.2.2.1 bt867.2.2.2 a1).bind fun bt878 => (if bt878.1 = bt865.1 then (laws_FnExactEmptyAt.j0 k (bt878.2 != bt865.2) ae a0_1 af ag bt867.1 bt867.2.1 bt867.2.2.1 bt867.2.2.2) else (laws_FnExactEmptyAt.j0 k true ae a0_1 af ag bt867.1 bt867.2.1 bt867.2.2.1 bt867.2.2.2)))))))) = some r := h
 clear h; replace H := Option.bind_eq_some_iff.mp H
 obtain ⟨a4, A30, H⟩ := H
 replace H : (if a4 < 0 then (some true) else ((laws_toLoop.f k ae a0_1 af ag).bind fun bt855 => ((spec_EmptyAt.f k bt855.1 bt855.2.1 bt855.2.2.1 bt855.2.2.2 a1).bind fun bt865 => ((laws_toLoop.f k ae a0_1 af ag).bind fun bt867 => ((impl_EmptyAt.f k bt867.1 bt867.2.1 bt867.2.2.1 bt867.2.2.2 a1).bind fun bt878 => (if bt878.1 = bt865.1 then (laws_FnExactEmptyAt.j0 k (bt878.2 != bt865.2) ae a0_1 af ag bt867.1 bt867.2.1 bt867.2.2.1 bt867.2.2.2) else (laws_FnExactEmptyAt.j0 k true ae a0_1 af ag bt867.1 bt867.2.1 bt867.2.2.1 bt867.2.2.2))))))) = some r := H
 have A3 := zK A30; clear A30
 by_cases c4 : a4 < 0
 ·rw [if_pos c4] at H
  have cd : decide (a4 < 0) = true := decide_eq_true c4
  clear c4; obtain rfl := Option.some.inj H
  go_enter Try.func9, Try.ntmps9
  go_wp2_with (first | ((with_reducible refine gate_dst (N := 2) rfl ?_); refine box_event ?hg (N := 2) ?hd (cs := #[.slice ap ae.length aq, .int .i64 a0_1, .slice ar af.length au, .slice av ag.length aw]) (t := 43) ?hr ?_; (case hd => rfl); (case hg => rfl); (case hr => first | (go_simp; done) | (go_simp; rfl)); intro ad hg w5 hbox hb; have aG := zK (below_step (zb HB) hb); have aH := zK (hbox); have aM := zK ((by rw [hg]; exact (below_size (zb HB)) : w.heap.size ≤ ad)); have aN := zK ((by rw [hg]; exact (below_size (zb HB)) : w.heap.size ≤ ad)); clear HB; have HB := aG; have aa := aH; have ce := aM; have al := aN; clear aG aH aM aN; clear hb hbox hg; have bZ : w5.cell? ⟨ad, 0, none⟩ = some (.slice ap ae.length aq) := (blk_cell aa.out 0).trans rfl; have b0 : w5.cell? ⟨ad, 1, none⟩ = some (.int .i64 a0_1) := (blk_cell aa.out 1).trans rfl; have b1 : w5.cell? ⟨ad, 2, none⟩ = some (.slice ar af.length au) := (blk_cell aa.out 2).trans rfl; have b2 : w5.cell? ⟨ad, 3, none⟩ = some (.slice av ag.length aw) := (blk_cell aa.out 3).trans rfl; have b3 := blk_frozen aa.out 0; have b4 := blk_frozen aa.out 1; have b5 := blk_frozen aa.out 2; have b6 := blk_frozen aa.out 3) | ((with_reducible refine gate_callee (f := 31) rfl ?_); refine goesL_ (some 13) rfl rfl Try.func31 (by kernel_rfl) rfl #[.agg #[.slice ap ae.length aq, .int .i64 a0_1, .slice ar af.length au, .slice av ag.length aw], .int .i64 1048576] rfl (by (try simp only [List.map_toArray, List.map_cons, List.map_nil]); first | done | rfl | (simp only [List.length_drop, List.length_take]; rfl)) ?_; (with_reducible refine (laws_szLoop.calls k _ _ ae a0_1 _ _ af _ _ ag 1048576 a4 _ ?side1 ?side2 ?side3 ?side4 ?side5 ?side6 A3.out).mono ?_); (case side1 => repeat (first | exact (Kd.C_below aX.out HB.out) | (with_reducible refine Kd.C_alloc ?_ _) | (with_reducible refine Kd.C_drewN ?_ _) | (with_reducible refine Kd.C_drew ?_))); (case side2 => exact aY.out); (case side3 => repeat (first | exact (Kd.C_below aZ.out HB.out) | (with_reducible refine Kd.C_alloc ?_ _) | (with_reducible refine Kd.C_drewN ?_ _) | (with_reducible refine Kd.C_drew ?_))); (case side4 => exact a0.out); (case side5 => repeat (first | exact (Kd.C_below a2.out HB.out) | (with_reducible refine Kd.C_alloc ?_ _) | (with_reducible refine Kd.C_drewN ?_ _) | (with_reducible refine Kd.C_drew ?_))); (case side6 => exact a3.out); rintro e w7 ⟨rfl, hb⟩; refine ⟨_, rfl, ?_⟩; have aG := zK (blk_below (g := ad) (o := .cells #[.slice ap ae.length aq, .int .i64 a0_1, .slice ar af.length au, .slice av ag.length aw] 43 (0, 0)) (zk aa) hb); have aH := zK (below_step (zb HB) hb); clear aa; clear HB; have aa := aG; have HB := aH; clear aG aH; (try clear hb)))
  go_ret
  exact ⟨by first | rfl | (simp [errW_none, errW_some] <;> rfl) | (simp [*, errW_none, errW_some] <;> rfl), by repeat (first | (with_reducible first | exact HB.out | apply zB | apply zC | apply zE | refine zS ?_ al.out) | exact HB.out)⟩
 ·rw [if_neg c4] at H
  have cd : decide (a4 < 0) = false := decide_eq_false c4
  clear c4; replace H := Option.bind_eq_some_iff.mp H
  obtain ⟨⟨aQ, bh, bb, bc⟩, A80, H⟩ := H
  replace H : ((spec_EmptyAt.f k aQ bh bb bc a1).bind fun bt865 => ((laws_toLoop.f k ae a0_1 af ag).bind fun bt867 => ((impl_EmptyAt.f k bt867.1 bt867.2.1 bt867.2.2.1 bt867.2.2.2 a1).bind fun bt878 => (if bt878.1 = bt865.1 then (laws_FnExactEmptyAt.j0 k (bt878.2 != bt865.2) ae a0_1 af ag bt867.1 bt867.2.1 bt867.2.2.1 bt867.2.2.2) else (laws_FnExactEmptyAt.j0 k true ae a0_1 af ag bt867.1 bt867.2.1 bt867.2.2.1 bt867.2.2.2))))) = some r := H
  have A8 := zK A80; clear A80; replace H := Option.bind_eq_some_iff.mp H
  obtain ⟨⟨aV, bf⟩, A90, H⟩ := H
  replace H : ((laws_toLoop.f k ae a0_1 af ag).bind fun bt867 => ((impl_EmptyAt.f k bt867.1 bt867.2.1 bt867.2.2.1 bt867.2.2.2 a1).bind fun bt878 => (if bt878.1 = aV then (laws_FnExactEmptyAt.j0 k (bt878.2 != bf) ae a0_1 af ag bt867.1 bt867.2.1 bt867.2.2.1 bt867.2.2.2) else (laws_FnExactEmptyAt.j0 k true ae a0_1 af ag bt867.1 bt867.2.1 bt867.2.2.1 bt867.2.2.2)))) = some r := H
  have A9 := zK A90; clear A90; replace H := Option.bind_eq_some_iff.mp H
  obtain ⟨⟨ak, ao, am, an⟩, cf, H⟩ := H
  replace H : ((impl_EmptyAt.f k ak ao am an a1).bind fun bt878 => (if bt878.1 = aV then (laws_FnExactEmptyAt.j0 k (bt878.2 != bf) ae a0_1 af ag ak ao am an) else (laws_FnExactEmptyAt.j0 k true ae a0_1 af ag ak ao am an))) = some r := H
  have A10 := zK cf; clear cf; replace H := Option.bind_eq_some_iff.mp H
  obtain ⟨⟨a6, b7⟩, cg, H⟩ := H
  replace H : (if a6 = aV then (laws_FnExactEmptyAt.j0 k (b7 != bf) ae a0_1 af ag ak ao am an) else (laws_FnExactEmptyAt.j0 k true ae a0_1 af ag ak ao am an)) = some r := H
  have A11 := zK cg; clear cg; have b8 := zK H; clear H
  go_enter Try.func9, Try.ntmps9
  go_upto_region 8 with (first | ((with_reducible refine gate_dst (N := 2) rfl ?_); refine box_event ?hg (N := 2) ?hd (cs := #[.slice ap ae.length aq, .int .i64 a0_1, .slice ar af.length au, .slice av ag.length aw]) (t := 43) ?hr ?_; (case hd => rfl); (case hg => rfl); (case hr => first | (go_simp; done) | (go_simp; rfl)); intro ad hg w13 hbox hb; have aG := zK (below_step (zb HB) hb); have aH := zK (hbox); have aM := zK ((by rw [hg]; exact (below_size (zb HB)) : w.heap.size ≤ ad)); have aN := zK ((by rw [hg]; exact (below_size (zb HB)) : w.heap.size ≤ ad)); clear HB; have HB := aG; have aa := aH; have ce := aM; have al := aN; clear aG aH aM aN; clear hb hbox hg; have bi : w13.cell? ⟨ad, 0, none⟩ = some (.slice ap ae.length aq) := (blk_cell aa.out 0).trans rfl; have bj : w13.cell? ⟨ad, 1, none⟩ = some (.int .i64 a0_1) := (blk_cell aa.out 1).trans rfl; have bk : w13.cell? ⟨ad, 2, none⟩ = some (.slice ar af.length au) := (blk_cell aa.out 2).trans rfl; have bl : w13.cell? ⟨ad, 3, none⟩ = some (.slice av ag.length aw) := (blk_cell aa.out 3).trans rfl; have bm := blk_frozen aa.out 0; have bn := blk_frozen aa.out 1; have bo := blk_frozen aa.out 2; have bp := blk_frozen aa.out 3) | ((with_reducible refine gate_callee (f := 31) rfl ?_); refine goesL_ (some 13) rfl rfl Try.func31 (by kernel_rfl) rfl #[.agg #[.slice ap ae.length aq, .int .i64 a0_1, .slice ar af.length au, .slice av ag.length aw], .int .i64 1048576] rfl (by (try simp only [List.map_toArray, List.map_cons, List.map_nil]); first | done | rfl | (simp only [List.length_drop, List.length_take]; rfl)) ?_; (with_reducible refine (laws_szLoop.calls k _ _ ae a0_1 _ _ af _ _ ag 1048576 a4 _ ?side1 ?side2 ?side3 ?side4 ?side5 ?side6 A3.out).mono ?_); (case side1 => repeat (first | exact (Kd.C_below aX.out HB.out) | (with_reducible refine Kd.C_alloc ?_ _) | (with_reducible refine Kd.C_drewN ?_ _) | (with_reducible refine Kd.C_drew ?_))); (case side2 => exact aY.out); (case side3 => repeat (first | exact (Kd.C_below aZ.out HB.out) | (with_reducible refine Kd.C_alloc ?_ _) | (with_reducible refine Kd.C_drewN ?_ _) | (with_reducible refine Kd.C_drew ?_))); (case side4 => exact a0.out); (case side5 => repeat (first | exact (Kd.C_below a2.out HB.out) | (with_reducible refine Kd.C_alloc ?_ _) | (with_reducible refine Kd.C_drewN ?_ _) | (with_reducible refine Kd.C_drew ?_))); (case side6 => exact a3.out); rintro e w15 ⟨rfl, hb⟩; refine ⟨_, rfl, ?_⟩; have aG := zK (blk_below (g := ad) (o := .cells #[.slice ap ae.length aq, .int .i64 a0_1, .slice ar af.length au, .slice av ag.length aw] 43 (0, 0)) (zk aa) hb); have aH := zK (below_step (zb HB) hb); clear aa; clear HB; have aa := aG; have HB := aH; clear aG aH; (try clear hb); (try clear hk); have bq : w15.cell? ⟨ad, 0, none⟩ = some (.slice ap ae.length aq) := (blk_cell aa.out 0).trans rfl; have br : w15.cell? ⟨ad, 1, none⟩ = some (.int .i64 a0_1) := (blk_cell aa.out 1).trans rfl; have bs : w15.cell? ⟨ad, 2, none⟩ = some (.slice ar af.length au) := (blk_cell aa.out 2).trans rfl; have bu : w15.cell? ⟨ad, 3, none⟩ = some (.slice av ag.length aw) := (blk_cell aa.out 3).trans rfl; have bv := blk_frozen aa.out 0; have bw := blk_frozen aa.out 1; have bx := blk_frozen aa.out 2; have bz := blk_frozen aa.out 3) | ((with_reducible refine gate_callee (f := 32) rfl ?_); refine goesL_ (some 18) rfl rfl Try.func32 (by kernel_rfl) rfl #[.agg #[.slice ap ae.length aq, .int .i64 a0_1, .slice ar af.length au, .slice av ag.length aw]] rfl (by (try simp only [List.map_toArray, List.map_cons, List.map_nil]); first | done | rfl | (simp only [List.length_drop, List.length_take]; rfl)) ?_; (with_reducible refine (laws_toLoop.calls k _ _ ae a0_1 _ _ af _ _ ag aQ bh bb bc _ ?side1 ?side2 ?side3 ?side4 ?side5 ?side6 A8.out).mono ?_); (case side1 => repeat (first | exact (Kd.C_below aX.out HB.out) | (with_reducible refine Kd.C_alloc ?_ _) | (with_reducible refine Kd.C_drewN ?_ _) | (with_reducible refine Kd.C_drew ?_))); (case side2 => exact aY.out); (case side3 => repeat (first | exact (Kd.C_below aZ.out HB.out) | (with_reducible refine Kd.C_alloc ?_ _) | (with_reducible refine Kd.C_drewN ?_ _) | (with_reducible refine Kd.C_drew ?_))); (case side4 => exact a0.out); (case side5 => repeat (first | exact (Kd.C_below a2.out HB.out) | (with_reducible refine Kd.C_alloc ?_ _) | (with_reducible refine Kd.C_drewN ?_ _) | (with_reducible refine Kd.C_drew ?_))); (case side6 => exact a3.out); rintro e w17 ⟨v856, v860, v863, rfl, ho0, ho1, ho2, hb⟩; refine ⟨_, rfl, ?_⟩; have aG := zK (Kd.R_lower ho0 (below_size (zb HB))); have aH := zK (Kd.S_lower ho1 (below_size (zb HB))); have aM := zK (Kd.S_lower ho2 (below_size (zb HB))); have aN := zK (blk_below (g := ad) (o := .cells #[.slice ap ae.length aq, .int .i64 a0_1, .slice ar af.length au, .slice av ag.length aw] 43 (0, 0)) (zk aa) hb); have aP := zK (below_step (zb HB) hb); clear aa; clear HB; have ax := aG; have ay := aH; have az := aM; have aa := aN; have HB := aP; clear aG aH aM aN aP; (try clear hb); (try clear hk); (try clear ho0); (try clear ho1); (try clear ho2); obtain ⟨a7, a8, eo18⟩ := Kd.R_slice ax.out; subst eo18; obtain ⟨b9, ca, eo19⟩ := Kd.S_slice ay.out; subst eo19; obtain ⟨cb, cc, eo20⟩ := Kd.S_slice az.out; subst eo20) | ((with_reducible refine gate_callee (f := 36) rfl ?_); refine goesL_ (some 20) rfl rfl Try.func36 (by kernel_rfl) rfl #[.agg #[.slice a7 aQ.length a8, .int .i64 bh, .slice b9 bb.length ca, .slice cb bc.length cc], .int .i64 a1] rfl (by (try simp only [List.map_toArray, List.map_cons, List.map_nil]); first | done | rfl | (simp only [List.length_drop, List.length_take]; rfl)) ?_; (with_reducible refine (spec_EmptyAt.calls k (fun k_ => some k_ = (.slice a7 aQ.length a8 : Value).ownBlock) _ _ aQ bh (fun k_ => ((some k_ ≠ (.slice a7 aQ.length a8 : Value).ownBlock ∧ some k_ ≠ (.slice cb bc.length cc : Value).ownBlock) ∧ k_ ≠ ad)) _ _ bb (fun k_ => ((some k_ ≠ (.slice a7 aQ.length a8 : Value).ownBlock ∧ some k_ ≠ (.slice b9 bb.length ca : Value).ownBlock) ∧ k_ ≠ ad)) _ _ bc a1 aV bf _ ?side1 ?side2 ?side3 A9.out).mono ?_); (case side1 => exact Kd.R_V (Kd.R_tight rfl (Kd.R_types (Kd.R_apart' (Kd.R_apart' (ax.out) (Kd.S_typed ay.out) (by decide)) (Kd.S_typed az.out) (by decide)) aa.out (by decide)))); (case side2 => exact Kd.S_V (Kd.S_types (Kd.S_apart' (ay.out) (Kd.S_typed az.out) (by decide)) aa.out (by decide))); (case side3 => exact Kd.S_V (Kd.S_types (Kd.S_apart' (az.out) (Kd.S_typed ay.out) (by decide)) aa.out (by decide))); rintro e w21 ⟨rfl, hb⟩; refine ⟨_, rfl, ?_⟩; have aG := zK (Kd.R_below (zR ax) hb); have aH := zK (Kd.S_below (zT ay) hb); have aM := zK (Kd.S_below (zT az) hb); have aN := zK (blk_below (g := ad) (o := .cells #[.slice ap ae.length aq, .int .i64 a0_1, .slice ar af.length au, .slice av ag.length aw] 43 (0, 0)) (zk aa) hb); have aP := zK (below_step (zb HB) hb); clear ax; clear ay; clear az; clear aa; clear HB; have ax := aG; have ay := aH; have az := aM; have aa := aN; have HB := aP; clear aG aH aM aN aP; (try clear hb); (try clear hk); have bA : w21.cell? ⟨ad, 0, none⟩ = some (.slice ap ae.length aq) := (blk_cell aa.out 0).trans rfl; have bB : w21.cell? ⟨ad, 1, none⟩ = some (.int .i64 a0_1) := (blk_cell aa.out 1).trans rfl; have bC : w21.cell? ⟨ad, 2, none⟩ = some (.slice ar af.length au) := (blk_cell aa.out 2).trans rfl; have bD : w21.cell? ⟨ad, 3, none⟩ = some (.slice av ag.length aw) := (blk_cell aa.out 3).trans rfl; have bE := blk_frozen aa.out 0; have bF := blk_frozen aa.out 1; have bG := blk_frozen aa.out 2; have bH := blk_frozen aa.out 3) | ((with_reducible refine gate_callee (f := 32) rfl ?_); refine goesL_ (some 24) rfl rfl Try.func32 (by kernel_rfl) rfl #[.agg #[.slice ap ae.length aq, .int .i64 a0_1, .slice ar af.length au, .slice av ag.length aw]] rfl (by (try simp only [List.map_toArray, List.map_cons, List.map_nil]); first | done | rfl | (simp only [List.length_drop, List.length_take]; rfl)) ?_; (with_reducible refine (laws_toLoop.calls k _ _ ae a0_1 _ _ af _ _ ag ak ao am an _ ?side1 ?side2 ?side3 ?side4 ?side5 ?side6 A10.out).mono ?_); (case side1 => repeat (first | exact (Kd.C_below aX.out HB.out) | (with_reducible refine Kd.C_alloc ?_ _) | (with_reducible refine Kd.C_drewN ?_ _) | (with_reducible refine Kd.C_drew ?_))); (case side2 => exact aY.out); (case side3 => repeat (first | exact (Kd.C_below aZ.out HB.out) | (with_reducible refine Kd.C_alloc ?_ _) | (with_reducible refine Kd.C_drewN ?_ _) | (with_reducible refine Kd.C_drew ?_))); (case side4 => exact a0.out); (case side5 => repeat (first | exact (Kd.C_below a2.out HB.out) | (with_reducible refine Kd.C_alloc ?_ _) | (with_reducible refine Kd.C_drewN ?_ _) | (with_reducible refine Kd.C_drew ?_))); (case side6 => exact a3.out); rintro e w23 ⟨v868, v872, v875, rfl, ho0, ho1, ho2, hb⟩; refine ⟨_, rfl, ?_⟩; have aG := zK (Kd.R_elder' (zR ax) (Kd.R_base ho0) hb); have aH := zK (Kd.S_mono (Kd.S_told (Kd.S_told (Kd.S_old (zT ay) hb) (Kd.R_base ho0)) (Kd.S_base ho1)) (fun _ h_ => h_.1)); have aM := zK (Kd.S_mono (Kd.S_told (Kd.S_told (Kd.S_old (zT az) hb) (Kd.R_base ho0)) (Kd.S_base ho2)) (fun _ h_ => h_.1)); have aN := zK (Kd.R_lower (Kd.R_new' ho0 (Kd.R_lt (zR ax))) (below_size (zb HB))); have aP := zK (Kd.S_lower (Kd.S_new' (Kd.S_new' ho1 (Kd.R_lt (zR ax))) (Kd.S_lt (zT ay))) (below_size (zb HB))); have a5 := zK (Kd.S_lower (Kd.S_new' (Kd.S_new' ho2 (Kd.R_lt (zR ax))) (Kd.S_lt (zT az))) (below_size (zb HB))); have a9 := zK (blk_below (g := ad) (o := .cells #[.slice ap ae.length aq, .int .i64 a0_1, .slice ar af.length au, .slice av ag.length aw] 43 (0, 0)) (zk aa) hb); have ba := zK (below_step (zb HB) hb); clear ax; clear ay; clear az; clear aa; clear HB; have ax := aG; have ay := aH; have az := aM; have aJ := aN; have aK := aP; have aL := a5; have aa := a9; have HB := ba; clear aG aH aM aN aP a5 a9 ba; (try clear hb); (try clear hk); (try clear ho0); (try clear ho1); (try clear ho2)) | ((with_reducible refine gate_dst (N := 8) rfl ?_); refine box_event ?hg (N := 8) ?hd (cs := #[.slice none 0 0, .int .i64 0, .slice none 0 0, .slice none 0 0]) (t := 28) ?hr ?_; (case hd => rfl); (case hg => rfl); (case hr => first | (go_simp; done) | (go_simp; rfl)); intro ab hg w24 hbox hb; have aG := zK (Kd.R_below (zR ax) hb); have aH := zK (Kd.S_below (zT ay) hb); have aM := zK (Kd.S_below (zT az) hb); have aN := zK (Kd.R_below (zR aJ) hb); have aP := zK (Kd.S_below (zT aK) hb); have a5 := zK (Kd.S_below (zT aL) hb); have a9 := zK (blk_below (g := ad) (o := .cells #[.slice ap ae.length aq, .int .i64 a0_1, .slice ar af.length au, .slice av ag.length aw] 43 (0, 0)) (zk aa) hb); have ba := zK (below_step (zb HB) hb); have bg := zK (hbox); have n9_ := zK ((by rw [hg]; exact (below_size (zb HB)) : w.heap.size ≤ ab)); have ch := zK ((by rw [hg]; exact (below_size (zb HB)) : w.heap.size ≤ ab)); have ci := zK ((by rw [hg]; exact Nat.ne_of_lt (blk_lt (g := ad) (o := .cells #[.slice ap ae.length aq, .int .i64 a0_1, .slice ar af.length au, .slice av ag.length aw] 43 (0, 0)) (zk aa)) : ad ≠ ab)); have cj := zK ((by rw [hg]; exact Nat.ne_of_gt (blk_lt (g := ad) (o := .cells #[.slice ap ae.length aq, .int .i64 a0_1, .slice ar af.length au, .slice av ag.length aw] 43 (0, 0)) (zk aa)) : ab ≠ ad)); clear ax; clear ay; clear az; clear aJ; clear aK; clear aL; clear aa; clear HB; have ax := aG; have ay := aH; have az := aM; have aJ := aN; have aK := aP; have aL := a5; have aa := a9; have HB := ba; have ac := bg; have GW877 := n9_; have aO := ch; have aC := ci; have bd := cj; clear aG aH aM aN aP a5 a9 ba bg n9_ ch ci cj; clear hb hbox hg; obtain ⟨aB, aA, eo25⟩ := Kd.R_slice aJ.out; subst eo25; have hnb26 := bd.out; have hnc26 := aC.out; have bI : w24.cell? ⟨ab, 0, none⟩ = some (.slice none 0 0) := (blk_cell ac.out 0).trans rfl; have bJ : w24.cell? ⟨ab, 1, none⟩ = some (.int .i64 0) := (blk_cell ac.out 1).trans rfl; have bK : w24.cell? ⟨ab, 2, none⟩ = some (.slice none 0 0) := (blk_cell ac.out 2).trans rfl; have bL : w24.cell? ⟨ab, 3, none⟩ = some (.slice none 0 0) := (blk_cell ac.out 3).trans rfl; have bM := blk_frozen ac.out 0; have bN := blk_frozen ac.out 1; have bO := blk_frozen ac.out 2; have bP := blk_frozen ac.out 3; obtain ⟨aE, aD, eo28⟩ := Kd.S_slice aK.out; subst eo28; obtain ⟨aI, aF, eo29⟩ := Kd.S_slice aL.out; subst eo29) | ((with_reducible refine gate_callee (f := 37) rfl ?_); refine goesL_ (some 28) rfl rfl Try.func37 (by kernel_rfl) rfl #[.agg #[.slice aB ak.length aA, .int .i64 ao, .slice aE am.length aD, .slice aI an.length aF], .int .i64 a1] rfl (by (try simp only [List.map_toArray, List.map_cons, List.map_nil]); first | done | rfl | (simp only [List.length_drop, List.length_take]; rfl)) ?_; (with_reducible refine (impl_EmptyAt.calls k _ _ ak ao _ _ am _ _ an a1 a6 b7 _ ?side1 ?side2 ?side3 ?side4 ?side5 ?side6 A11.out).mono ?_); (case side1 => refine (Kd.R_reads' (e := 3) (base := w.heap.size) (ok := fun k_ => (True ∧ some k_ ≠ (.slice a7 aQ.length a8 : Value).ownBlock)) (n := ak.length) (c := aA) ?_).2.2; exact (by (with_reducible repeat (first | apply Kd.R_alloc | apply Kd.R_drewN | apply Kd.R_drew)); exact (Kd.R_mono (Kd.R_far (p := ⟨ab, 3, none⟩) (Kd.R_far (p := ⟨ab, 2, none⟩) (Kd.R_far (p := ⟨ab, 1, none⟩) (Kd.R_far (p := ⟨ab, 0, none⟩) (Kd.R_types aJ.out ac.out (by decide)) (fun _ hk => hk.2) (.slice aB ak.length aA)) (fun _ hk => hk.2) (.int .i64 ao)) (fun _ hk => hk.2) (.slice aE am.length aD)) (fun _ hk => hk.2) (.slice aI an.length aF)) (fun _ h_ => h_.1)))); (case side2 => exact (Kd.R_reads' aJ.out).2.1); (case side3 => refine (Kd.S_reads' (e := 69) (base := w.heap.size) (ok := fun k_ => ((some k_ ≠ (.slice aB ak.length aA : Value).ownBlock ∧ some k_ ≠ (.slice a7 aQ.length a8 : Value).ownBlock) ∧ some k_ ≠ (.slice b9 bb.length ca : Value).ownBlock)) (n := am.length) (c := aD) ?_).2.2; exact (by (with_reducible repeat (first | apply Kd.S_alloc | apply Kd.S_drewN | apply Kd.S_drew)); exact (Kd.S_mono (Kd.S_far (p := ⟨ab, 3, none⟩) (Kd.S_far (p := ⟨ab, 2, none⟩) (Kd.S_far (p := ⟨ab, 1, none⟩) (Kd.S_far (p := ⟨ab, 0, none⟩) (Kd.S_types aK.out ac.out (by decide)) (fun _ hk => hk.2) (.slice aB ak.length aA)) (fun _ hk => hk.2) (.int .i64 ao)) (fun _ hk => hk.2) (.slice aE am.length aD)) (fun _ hk => hk.2) (.slice aI an.length aF)) (fun _ h_ => h_.1)))); (case side4 => exact (Kd.S_reads' aK.out).2.1); (case side5 => refine (Kd.S_reads' (e := 74) (base := w.heap.size) (ok := fun k_ => ((some k_ ≠ (.slice aB ak.length aA : Value).ownBlock ∧ some k_ ≠ (.slice a7 aQ.length a8 : Value).ownBlock) ∧ some k_ ≠ (.slice cb bc.length cc : Value).ownBlock)) (n := an.length) (c := aF) ?_).2.2; exact (by (with_reducible repeat (first | apply Kd.S_alloc | apply Kd.S_drewN | apply Kd.S_drew)); exact (Kd.S_mono (Kd.S_far (p := ⟨ab, 3, none⟩) (Kd.S_far (p := ⟨ab, 2, none⟩) (Kd.S_far (p := ⟨ab, 1, none⟩) (Kd.S_far (p := ⟨ab, 0, none⟩) (Kd.S_types aL.out ac.out (by decide)) (fun _ hk => hk.2) (.slice aB ak.length aA)) (fun _ hk => hk.2) (.int .i64 ao)) (fun _ hk => hk.2) (.slice aE am.length aD)) (fun _ hk => hk.2) (.slice aI an.length aF)) (fun _ h_ => h_.1)))); (case side6 => exact (Kd.S_reads' aL.out).2.1); rintro e w30 ⟨rfl, hb⟩; refine ⟨_, rfl, ?_⟩; have aG := zK (Kd.R_below (by (with_reducible repeat (first | apply Kd.R_alloc | apply Kd.R_drewN | apply Kd.R_drew)); exact (Kd.R_mono (Kd.R_far (p := ⟨ab, 3, none⟩) (Kd.R_far (p := ⟨ab, 2, none⟩) (Kd.R_far (p := ⟨ab, 1, none⟩) (Kd.R_far (p := ⟨ab, 0, none⟩) (Kd.R_types ax.out ac.out (by decide)) (fun _ hk => hk.2) (.slice aB ak.length aA)) (fun _ hk => hk.2) (.int .i64 ao)) (fun _ hk => hk.2) (.slice aE am.length aD)) (fun _ hk => hk.2) (.slice aI an.length aF)) (fun _ h_ => h_.1))) hb); have aH := zK (Kd.S_below (by (with_reducible repeat (first | apply Kd.S_alloc | apply Kd.S_drewN | apply Kd.S_drew)); exact (Kd.S_mono (Kd.S_far (p := ⟨ab, 3, none⟩) (Kd.S_far (p := ⟨ab, 2, none⟩) (Kd.S_far (p := ⟨ab, 1, none⟩) (Kd.S_far (p := ⟨ab, 0, none⟩) (Kd.S_types ay.out ac.out (by decide)) (fun _ hk => hk.2) (.slice aB ak.length aA)) (fun _ hk => hk.2) (.int .i64 ao)) (fun _ hk => hk.2) (.slice aE am.length aD)) (fun _ hk => hk.2) (.slice aI an.length aF)) (fun _ h_ => h_.1))) hb); have aM := zK (Kd.S_below (by (with_reducible repeat (first | apply Kd.S_alloc | apply Kd.S_drewN | apply Kd.S_drew)); exact (Kd.S_mono (Kd.S_far (p := ⟨ab, 3, none⟩) (Kd.S_far (p := ⟨ab, 2, none⟩) (Kd.S_far (p := ⟨ab, 1, none⟩) (Kd.S_far (p := ⟨ab, 0, none⟩) (Kd.S_types az.out ac.out (by decide)) (fun _ hk => hk.2) (.slice aB ak.length aA)) (fun _ hk => hk.2) (.int .i64 ao)) (fun _ hk => hk.2) (.slice aE am.length aD)) (fun _ hk => hk.2) (.slice aI an.length aF)) (fun _ h_ => h_.1))) hb); have aN := zK (Kd.R_below (by (with_reducible repeat (first | apply Kd.R_alloc | apply Kd.R_drewN | apply Kd.R_drew)); exact (Kd.R_mono (Kd.R_far (p := ⟨ab, 3, none⟩) (Kd.R_far (p := ⟨ab, 2, none⟩) (Kd.R_far (p := ⟨ab, 1, none⟩) (Kd.R_far (p := ⟨ab, 0, none⟩) (Kd.R_types aJ.out ac.out (by decide)) (fun _ hk => hk.2) (.slice aB ak.length aA)) (fun _ hk => hk.2) (.int .i64 ao)) (fun _ hk => hk.2) (.slice aE am.length aD)) (fun _ hk => hk.2) (.slice aI an.length aF)) (fun _ h_ => h_.1))) hb); have aP := zK (Kd.S_below (by (with_reducible repeat (first | apply Kd.S_alloc | apply Kd.S_drewN | apply Kd.S_drew)); exact (Kd.S_mono (Kd.S_far (p := ⟨ab, 3, none⟩) (Kd.S_far (p := ⟨ab, 2, none⟩) (Kd.S_far (p := ⟨ab, 1, none⟩) (Kd.S_far (p := ⟨ab, 0, none⟩) (Kd.S_types aK.out ac.out (by decide)) (fun _ hk => hk.2) (.slice aB ak.length aA)) (fun _ hk => hk.2) (.int .i64 ao)) (fun _ hk => hk.2) (.slice aE am.length aD)) (fun _ hk => hk.2) (.slice aI an.length aF)) (fun _ h_ => h_.1))) hb); have a5 := zK (Kd.S_below (by (with_reducible repeat (first | apply Kd.S_alloc | apply Kd.S_drewN | apply Kd.S_drew)); exact (Kd.S_mono (Kd.S_far (p := ⟨ab, 3, none⟩) (Kd.S_far (p := ⟨ab, 2, none⟩) (Kd.S_far (p := ⟨ab, 1, none⟩) (Kd.S_far (p := ⟨ab, 0, none⟩) (Kd.S_types aL.out ac.out (by decide)) (fun _ hk => hk.2) (.slice aB ak.length aA)) (fun _ hk => hk.2) (.int .i64 ao)) (fun _ hk => hk.2) (.slice aE am.length aD)) (fun _ hk => hk.2) (.slice aI an.length aF)) (fun _ h_ => h_.1))) hb); have a9 := zK (blk_below (g := ad) (o := .cells #[.slice ap ae.length aq, .int .i64 a0_1, .slice ar af.length au, .slice av ag.length aw] 43 (0, 0)) (by (with_reducible repeat (first | refine zN ?_ _ | refine zD ?_ | refine zA ?_ _)); refine blk_far ?_ aC.out _; (with_reducible repeat (first | refine zN ?_ _ | refine zD ?_ | refine zA ?_ _)); refine blk_far ?_ aC.out _; (with_reducible repeat (first | refine zN ?_ _ | refine zD ?_ | refine zA ?_ _)); refine blk_far ?_ aC.out _; (with_reducible repeat (first | refine zN ?_ _ | refine zD ?_ | refine zA ?_ _)); refine blk_far ?_ aC.out _; (with_reducible repeat (first | refine zN ?_ _ | refine zD ?_ | refine zA ?_ _)); exact aa.out) hb); have ba := zK (blk_below (g := ab) (o := .cells #[.slice aB ak.length aA, .int .i64 ao, .slice aE am.length aD, .slice aI an.length aF] 28 (0, 0)) (by (with_reducible repeat (first | refine zN ?_ _ | refine zD ?_ | refine zA ?_ _)); refine blk_put (cs := #[.slice aB ak.length aA, .int .i64 ao, .slice aE am.length aD, .slice none 0 0]) ?_ 3 _ rfl; (with_reducible repeat (first | refine zN ?_ _ | refine zD ?_ | refine zA ?_ _)); refine blk_put (cs := #[.slice aB ak.length aA, .int .i64 ao, .slice none 0 0, .slice none 0 0]) ?_ 2 _ rfl; (with_reducible repeat (first | refine zN ?_ _ | refine zD ?_ | refine zA ?_ _)); refine blk_put (cs := #[.slice aB ak.length aA, .int .i64 0, .slice none 0 0, .slice none 0 0]) ?_ 1 _ rfl; (with_reducible repeat (first | refine zN ?_ _ | refine zD ?_ | refine zA ?_ _)); refine blk_put (cs := #[.slice none 0 0, .int .i64 0, .slice none 0 0, .slice none 0 0]) ?_ 0 _ rfl; (with_reducible repeat (first | refine zN ?_ _ | refine zD ?_ | refine zA ?_ _)); exact ac.out) hb); have bg := zK (below_step (zb HB) hb); clear ax; clear ay; clear az; clear aJ; clear aK; clear aL; clear aa; clear ac; clear HB; have ax := aG; have ay := aH; have az := aM; have aJ := aN; have aK := aP; have aL := a5; have aa := a9; have ac := ba; have HB := bg; clear aG aH aM aN aP a5 a9 ba bg; (try clear hb); (try clear hk)))
  (try simp only [Act.put, zp, zq, zr])
  go_cut [38] (fun v38 wc => ∃ (kq : Nat) (aW : Bool), v38 = .bool aW ∧ Aside0 (laws_FnExactEmptyAt.j0 kq aW ae a0_1 af ag ak ao am an = some r) ∧ Aside0 (kq ≤ k) ∧ Aside0 (Kd.R (Kd.int .i64) 3 wc w.heap.size (fun _ => True) (.slice aB ak.length aA) ak) ∧ Aside0 (Kd.S k69 69 wc w.heap.size (fun k_ => some k_ ≠ ((.slice aB ak.length aA) : Value).ownBlock) (.slice aE am.length aD) am) ∧ Aside0 (Kd.S k74 74 wc w.heap.size (fun k_ => some k_ ≠ ((.slice aB ak.length aA) : Value).ownBlock) (.slice aI an.length aF) an) ∧ Aside0 (wc.heap[ad]? = some (.cells #[(.slice ap ae.length aq), .int .i64 a0_1, (.slice ar af.length au), (.slice av ag.length aw)] 43 (0, 0))) ∧ Aside0 (wc.heap[ab]? = some (.cells #[(.slice aB ak.length aA), .int .i64 ao, (.slice aE am.length aD), (.slice aI an.length aF)] 28 (0, 0))) ∧ Aside0 (Below w.heap.size w wc))
  case first =>
   have H := b8.out; clear b8
   by_cases bX : a6 = aV
   ·rw [if_pos bX] at H
    have aR : (a6 == aV) = true := beq_iff_eq.mpr bX
    have bY : (a6 != aV) = false := bne_eq_false_iff_eq.mpr bX
    clear bX
    (first | rw [aR] | (simp only [i64_w, i32_w]; rw [aR]) | skip)
    have H' := zK H; clear H
    go_wp2
    go_meet
    case rel => exact ⟨_, ((b7 != bf)), (by first | rfl | (simp; done) | (simp [*]; done)), H', ⟨by first | omega | exact Nat.le_refl _⟩, ⟨by (with_reducible repeat (first | apply Kd.R_alloc | apply Kd.R_drewN | apply Kd.R_drew)); exact Kd.R_mono aJ.out (fun _ hk => trivial)⟩, ⟨by (with_reducible repeat (first | apply Kd.S_alloc | apply Kd.S_drewN | apply Kd.S_drew)); exact Kd.S_mono aK.out (fun _ hk => hk.1.1)⟩, ⟨by (with_reducible repeat (first | apply Kd.S_alloc | apply Kd.S_drewN | apply Kd.S_drew)); exact Kd.S_mono aL.out (fun _ hk => hk.1.1)⟩, ⟨zk aa⟩, ⟨zk ac⟩, ⟨zb HB⟩⟩
   ·rw [if_neg bX] at H
    have aR : (a6 == aV) = false := beq_eq_false_iff_ne.mpr bX
    have bY : (a6 != aV) = true := bne_iff_ne.mpr bX
    (first | rw [aR] | (simp only [i64_w, i32_w]; rw [aR]) | skip)
    exact absurd (H.trans (congrArg some hrt.out)) (by cases k <;> simp [laws_FnExactEmptyAt.j0])
  case rest =>
   clear b8
   try clear c2
   try clear p2
   try clear c3
   try clear c4
   try clear cd
   try clear c9
   try clear c26
   try clear bX
   try clear aR
   try clear bY
   try clear bi
   try clear bj
   try clear bk
   try clear bl
   try clear bq
   try clear br
   try clear bs
   try clear bu
   try clear bA
   try clear bB
   try clear bC
   try clear bD
   try clear bI
   try clear bJ
   try clear bK
   try clear bL
   try clear bZ
   try clear b0
   try clear b1
   try clear b2
   try clear bm
   try clear bn
   try clear bo
   try clear bp
   try clear bv
   try clear bw
   try clear bx
   try clear bz
   try clear bE
   try clear bF
   try clear bG
   try clear bH
   try clear bM
   try clear bN
   try clear bO
   try clear bP
   try clear b3
   try clear b4
   try clear b5
   try clear b6
   obtain ⟨kq, aW, rfl, HA, HJ11, ah, ai, aj, aa, ac, HB⟩ := hcut
   cases kq with
   | zero => exact absurd HA.out (by simp [laws_FnExactEmptyAt.j0])
   | succ kj11 =>
    have H := HA.out; clear HA
    simp only [laws_FnExactEmptyAt.j0] at H
    by_cases c32 : aW = true
    ·subst c32
     have H1 : (some false) = some r := by rw [if_pos rfl] at H; exact H
     clear H; have H := H1; clear H1
     exact absurd (H.trans (congrArg some hrt.out)) (by simp)
    ·replace c32 := Bool.eq_false_iff.mpr c32
     subst c32
     have H1 : ((laws_toLoop.f kj11 ae a0_1 af ag).bind fun bt880 => ((laws_eqLoop.f kj11 ak ao am an bt880.1 bt880.2.1 bt880.2.2.1 bt880.2.2.2).bind fun be => (if be = true then (some true) else (some false)))) = some r := by rw [if_neg (show ¬ (false = true) by decide)] at H; exact H
     clear H; have H := H1; clear H1; replace H := Option.bind_eq_some_iff.mp H
     obtain ⟨⟨bQ, bR, bS, bT⟩, ck, H⟩ := H
     replace H : ((laws_eqLoop.f kj11 ak ao am an bQ bR bS bT).bind fun be => (if be = true then (some true) else (some false))) = some r := H
     have A33 := zK ck; clear ck; replace H := Option.bind_eq_some_iff.mp H
     obtain ⟨be, cl, H⟩ := H
     replace H : (if be = true then (some true) else (some false)) = some r := H
     have A34 := zK cl; clear cl
     by_cases c35 : be = true
     ·subst c35
      have H1 : (some true) = some r := by rw [if_pos rfl] at H; exact H
      clear H; have H := H1; clear H1; obtain rfl := Option.some.inj H
      try go_wp2
      have aG := zK (Kd.R_drew ah.out)
      have aH := zK (Kd.S_drew ai.out)
      have aM := zK (Kd.S_drew aj.out)
      have aN := zK (zD aa.out)
      have aP := zK (zD ac.out)
      have a5 := zK (zE HB.out)
      clear ah ai aj aa ac HB; have ah := aG; have ai := aH; have aj := aM; have aa := aN; have ac := aP; have HB := a5; clear aG aH aM aN aP a5
      refine start_ (n := 5) (S := fun w' => w'.cell? ⟨ab, 0, none⟩ = some (.slice aB ak.length aA) ∧ w'.cell? ⟨ab, 1, none⟩ = some (.int .i64 ao) ∧ w'.cell? ⟨ab, 2, none⟩ = some (.slice aE am.length aD) ∧ w'.cell? ⟨ab, 3, none⟩ = some (.slice aI an.length aF) ∧ w'.cell? ⟨ad, 0, none⟩ = some (.slice ap ae.length aq) ∧ w'.cell? ⟨ad, 1, none⟩ = some (.int .i64 a0_1) ∧ w'.cell? ⟨ad, 2, none⟩ = some (.slice ar af.length au) ∧ w'.cell? ⟨ad, 3, none⟩ = some (.slice av ag.length aw)) (ds := []) #[ff, ff, ff, ff, ff] (by kernel_rfl) rfl rfl ⟨(blk_cell ac.out 0).trans rfl, (blk_cell ac.out 1).trans rfl, (blk_cell ac.out 2).trans rfl, (blk_cell ac.out 3).trans rfl, (blk_cell aa.out 0).trans rfl, (blk_cell aa.out 1).trans rfl, (blk_cell aa.out 2).trans rfl, (blk_cell aa.out 3).trans rfl⟩ (fun hHeld => ?_)
      generalize wc.drew = w36 at ah ai aj aa ac HB hHeld ⊢
      refine zt 0 (some 39) #[tt, ff, ff, ff, ff] (by kernel_rfl) hHeld ?_
      refine zt 1 (some 40) #[tt, tt, ff, ff, ff] (by kernel_rfl) hHeld ?_
      refine one_ (i := 2) (N := some 41) #[tt, tt, tt, ff, ff] rfl rfl (by kernel_rfl) (by decide) (fun K hK => ?_)
      refine goes_ Try.func32 (by kernel_rfl) rfl #[.agg #[.slice ap ae.length aq, .int .i64 a0_1, .slice ar af.length au, .slice av ag.length aw]] (by rfl) rfl rfl (by (try simp only [List.map_toArray, List.map_cons, List.map_nil]); first | done | rfl | (simp only [List.length_drop, List.length_take]; rfl)) ?_
      with_reducible refine (laws_toLoop.calls kj11 _ _ ae a0_1 _ _ af _ _ ag bQ bR bS bT _ ?side1 ?side2 ?side3 ?side4 ?side5 ?side6 A33.out).mono ?_
      (case side1 => repeat (first | exact (Kd.C_below aX.out HB.out) | (with_reducible refine Kd.C_alloc ?_ _) | (with_reducible refine Kd.C_drewN ?_ _) | (with_reducible refine Kd.C_drew ?_)))
      (case side2 => exact aY.out)
      (case side3 => repeat (first | exact (Kd.C_below aZ.out HB.out) | (with_reducible refine Kd.C_alloc ?_ _) | (with_reducible refine Kd.C_drewN ?_ _) | (with_reducible refine Kd.C_drew ?_)))
      (case side4 => exact a0.out)
      (case side5 => repeat (first | exact (Kd.C_below a2.out HB.out) | (with_reducible refine Kd.C_alloc ?_ _) | (with_reducible refine Kd.C_drewN ?_ _) | (with_reducible refine Kd.C_drew ?_)))
      (case side6 => exact a3.out)
      rintro e w37 ⟨v881, v885, v888, rfl, ho0, ho1, ho2, hb⟩
      refine ⟨_, rfl, ?_⟩
      have aG := zK (Kd.R_elder' (zR ah) (Kd.R_base ho0) hb)
      have aH := zK (Kd.S_mono (Kd.S_told (Kd.S_told (Kd.S_old (zT ai) hb) (Kd.R_base ho0)) (Kd.S_base ho1)) (fun _ h_ => h_.1))
      have aM := zK (Kd.S_mono (Kd.S_told (Kd.S_told (Kd.S_old (zT aj) hb) (Kd.R_base ho0)) (Kd.S_base ho2)) (fun _ h_ => h_.1))
      have aN := zK (Kd.R_lower (Kd.R_new' ho0 (Kd.R_lt (zR ah))) (below_size (zb HB)))
      have aP := zK (Kd.S_lower (Kd.S_new' (Kd.S_new' ho1 (Kd.R_lt (zR ah))) (Kd.S_lt (zT ai))) (below_size (zb HB)))
      have a5 := zK (Kd.S_lower (Kd.S_new' (Kd.S_new' ho2 (Kd.R_lt (zR ah))) (Kd.S_lt (zT aj))) (below_size (zb HB)))
      have a9 := zK (blk_below (g := ad) (o := .cells #[.slice ap ae.length aq, .int .i64 a0_1, .slice ar af.length au, .slice av ag.length aw] 43 (0, 0)) (zk aa) hb)
      have ba := zK (blk_below (g := ab) (o := .cells #[.slice aB ak.length aA, .int .i64 ao, .slice aE am.length aD, .slice aI an.length aF] 28 (0, 0)) (zk ac) hb)
      have bg := zK (below_step (zb HB) hb)
      clear ah ai aj aa ac HB; have ah := aG; have ai := aH; have aj := aM; have aS := aN; have aT := aP; have aU := a5; have aa := a9; have ac := ba; have HB := bg; clear aG aH aM aN aP a5 a9 ba bg; (try clear hb); (try clear hb2); (try clear hk); (try clear hi); (try clear ho0); (try clear ho1); (try clear ho2)
      obtain ⟨Ao38, co38, cm⟩ := Kd.R_slice aS.out
      (first | subst cm | (injection cm with f1_ f2_ f3_; have f4_ := f1_.symm; have f5_ := f3_.symm; clear f1_ f2_ f3_; subst f4_; subst f5_))
      obtain ⟨Ao39, co39, cn⟩ := Kd.S_slice aT.out
      (first | subst cn | (injection cn with f1_ f2_ f3_; have f4_ := f1_.symm; have f5_ := f3_.symm; clear f1_ f2_ f3_; subst f4_; subst f5_))
      obtain ⟨Ao40, co40, co⟩ := Kd.S_slice aU.out
      (first | subst co | (injection co with f1_ f2_ f3_; have f4_ := f1_.symm; have f5_ := f3_.symm; clear f1_ f2_ f3_; subst f4_; subst f5_))
      refine hK.out _ _ ⟨(blk_cell ac.out 0).trans rfl, (blk_cell ac.out 1).trans rfl, (blk_cell ac.out 2).trans rfl, (blk_cell ac.out 3).trans rfl, (blk_cell aa.out 0).trans rfl, (blk_cell aa.out 1).trans rfl, (blk_cell aa.out 2).trans rfl, (blk_cell aa.out 3).trans rfl⟩ (fun hHeld => ?_)
      clear hK K
      refine norm_ (a' := ?_) ?_ ?_
      rotate_left
      ·show Act.put _ (some 41) _ = _
       simp only [Act.put, zp, zq, zr, i64_w, i32_w]
       rfl
      refine one_ (i := 3) (N := some 42) #[tt, tt, tt, tt, ff] rfl rfl (by kernel_rfl) (by decide) (fun K hK => ?_)
      refine goes_ Try.func33 (by kernel_rfl) rfl #[.agg #[.slice aB ak.length aA, .int .i64 ao, .slice aE am.length aD, .slice aI an.length aF], .agg #[.slice Ao38 bQ.length co38, .int .i64 bR, .slice Ao39 bS.length co39, .slice Ao40 bT.length co40]] (by rfl) rfl rfl (by (try simp only [List.map_toArray, List.map_cons, List.map_nil]); first | done | rfl | (simp only [List.length_drop, List.length_take]; rfl)) ?_
      with_reducible refine (laws_eqLoop.calls kj11 _ _ ak ao _ _ am _ _ an _ _ bQ bR _ _ bS _ _ bT true _ ?side1 ?side2 ?side3 ?side4 ?side5 ?side6 ?side7 ?side8 ?side9 ?side10 ?side11 ?side12 A34.out).mono ?_
      (case side1 => repeat (first | exact (Kd.R_reads' ah.out).2.2 | (with_reducible refine Kd.C_alloc ?_ _) | (with_reducible refine Kd.C_drewN ?_ _) | (with_reducible refine Kd.C_drew ?_)))
      (case side2 => exact (Kd.R_reads' ah.out).2.1)
      (case side3 => repeat (first | exact (Kd.S_reads' ai.out).2.2 | (with_reducible refine Kd.C_alloc ?_ _) | (with_reducible refine Kd.C_drewN ?_ _) | (with_reducible refine Kd.C_drew ?_)))
      (case side4 => exact (Kd.S_reads' ai.out).2.1)
      (case side5 => repeat (first | exact (Kd.S_reads' aj.out).2.2 | (with_reducible refine Kd.C_alloc ?_ _) | (with_reducible refine Kd.C_drewN ?_ _) | (with_reducible refine Kd.C_drew ?_)))
      (case side6 => exact (Kd.S_reads' aj.out).2.1)
      (case side7 => repeat (first | exact (Kd.R_reads' aS.out).2.2 | (with_reducible refine Kd.C_alloc ?_ _) | (with_reducible refine Kd.C_drewN ?_ _) | (with_reducible refine Kd.C_drew ?_)))
      (case side8 => exact (Kd.R_reads' aS.out).2.1)
      (case side9 => repeat (first | exact (Kd.S_reads' aT.out).2.2 | (with_reducible refine Kd.C_alloc ?_ _) | (with_reducible refine Kd.C_drewN ?_ _) | (with_reducible refine Kd.C_drew ?_)))
      (case side10 => exact (Kd.S_reads' aT.out).2.1)
      (case side11 => repeat (first | exact (Kd.S_reads' aU.out).2.2 | (with_reducible refine Kd.C_alloc ?_ _) | (with_reducible refine Kd.C_drewN ?_ _) | (with_reducible refine Kd.C_drew ?_)))
      (case side12 => exact (Kd.S_reads' aU.out).2.1)
      rintro e w41 ⟨rfl, hb⟩
      refine ⟨_, rfl, ?_⟩
      have aG := zK (Kd.R_below (zR ah) hb)
      have aH := zK (Kd.S_below (zT ai) hb)
      have aM := zK (Kd.S_below (zT aj) hb)
      have aN := zK (Kd.R_below (zR aS) hb)
      have aP := zK (Kd.S_below (zT aT) hb)
      have a5 := zK (Kd.S_below (zT aU) hb)
      have a9 := zK (blk_below (g := ad) (o := .cells #[.slice ap ae.length aq, .int .i64 a0_1, .slice ar af.length au, .slice av ag.length aw] 43 (0, 0)) (zk aa) hb)
      have ba := zK (blk_below (g := ab) (o := .cells #[.slice aB ak.length aA, .int .i64 ao, .slice aE am.length aD, .slice aI an.length aF] 28 (0, 0)) (zk ac) hb)
      have bg := zK (below_step (zb HB) hb)
      clear ah ai aj aS aT aU aa ac HB; have ah := aG; have ai := aH; have aj := aM; have aS := aN; have aT := aP; have aU := a5; have aa := a9; have ac := ba; have HB := bg; clear aG aH aM aN aP a5 a9 ba bg; (try clear hb); (try clear hb2); (try clear hk); (try clear hi)
      refine hK.out _ _ ⟨(blk_cell ac.out 0).trans rfl, (blk_cell ac.out 1).trans rfl, (blk_cell ac.out 2).trans rfl, (blk_cell ac.out 3).trans rfl, (blk_cell aa.out 0).trans rfl, (blk_cell aa.out 1).trans rfl, (blk_cell aa.out 2).trans rfl, (blk_cell aa.out 3).trans rfl⟩ (fun hHeld => ?_)
      clear hK K
      refine norm_ (a' := ?_) ?_ ?_
      rotate_left
      ·show Act.put _ (some 42) _ = _
       simp only [Act.put, zp, zq, zr, i64_w, i32_w]
       rfl
      refine zu 4 (some 43) #[tt, tt, tt, tt, tt] (by kernel_rfl) ?_
      refine done_ (by kernel_rfl) ?_
      try go_wp2
      go_ret
      exact ⟨by first | rfl | (simp [errW_none, errW_some] <;> rfl) | (simp [*, errW_none, errW_some] <;> rfl), by repeat (first | (with_reducible first | exact HB.out | apply zB | apply zC | apply zE | refine zS ?_ al.out | refine zS ?_ aO.out) | exact HB.out)⟩
     ·replace c35 := Bool.eq_false_iff.mpr c35
      subst c35
      have H1 : (some false) = some r := by rw [if_neg (show ¬ (false = true) by decide)] at H; exact H
      clear H; have H := H1; clear H1
      exact absurd (H.trans (congrArg some hrt.out)) (by simp)
end Go.Proofs.Ytmjhbdmicejppaa.Px
