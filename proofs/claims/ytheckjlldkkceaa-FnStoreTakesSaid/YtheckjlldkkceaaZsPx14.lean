import Derived.Test.YtheckjlldkkceaaZsPx0
import Derived.Test.YtheckjlldkkceaaZsPx3
import Derived.Test.YtheckjlldkkceaaZsPx7
namespace Go.Proofs.Ytheckjlldkkceaa.Px
open Go.RowKit Go.Proofs.YtheckjlldkkceaaW.PrintWords Go.Proofs.YtheckjlldkkceaaW.PrintLast Go.Proofs.YtheckjlldkkceaaW.PrintMore
attribute [local go_sem] max2_int min2_int max_two min_two max_three min_three max_four min_four   
set_option linter.unusedVariables false
set_option linter.unusedSimpArgs false
mutual
def spec_Buried.l0 : Nat → Int → Int → Int → List (List (S30)) → Option (Int)
 | 0, _, _, _, _ => none
 | k + 1, x3, x4, x339000, x339001 => if x4 < (x339001.length : Int) then (spec_Buried.l1 k x3 x4 1 x339000 x339001) else (some x3)
def spec_Buried.l1 : Nat → Int → Int → Int → Int → List (List (S30)) → Option (Int)
 | 0, _, _, _, _, _ => none
 | k + 1, x3, x4, x5, x339000, x339001 => if 0 ≤ x4 then (if x4 < (x339001.length : Int) then (if x5 < ((rd_L2 x339001 x4).length : Int) then (if 0 ≤ x5 then (if x5 ≤ ((rd_L2 x339001 x4).length : Int) then ((spec_l06Least.f k ((rd_L2 x339001 x4).take (x5 : Int).toNat)).bind fun t346 => (if t346 < ((rd_T30 (rd_L2 x339001 x4) x5).f1) then (spec_Buried.l1 k (wrap64 (x3 + 1)) x4 (wrap64 (x5 + 1)) x339000 x339001) else (spec_Buried.l1 k x3 x4 (wrap64 (x5 + 1)) x339000 x339001))) else (none)) else (none)) else (spec_Buried.l0 k x3 (wrap64 (x4 + 1)) x339000 x339001)) else (none)) else (none)
end
def spec_Buried.f (k : Nat) (a0_0 : Int) (l0_1 : List (List (S30))) : Option (Int) := (spec_StoreOk.f k a0_0 l0_1).bind fun t339 => (if t339 = true then (spec_Buried.l0 k 0 0 a0_0 l0_1) else (some (-1)))
def spec_Buried.T10 : Bool × List (List Nat × List Nat) := (true, [([], []), ([0], [0]), ([], []), ([1, 2], [1, 2]), ([3], [3]), ([], []), ([4, 5], [4, 5]), ([6], [6]), ([], []), ([8], [8]), ([], []), ([9, 10], [9, 10]), ([11], [11]), ([], []), ([12, 13], [12, 13]), ([14], [14]), ([15], [15]), ([7, 16], [7, 16])])
def spec_Buried.B10 : List Nat := [0, 1, 0, 7, 15, 0, 63, 127, 0, 256, 0, 1792, 3840, 0, 16128, 32512, 65280, 131071]
theorem spec_Buried.tab10 : rtab .any (opsOf Try.f25 10) = spec_Buried.T10 := by kernel_rfl
theorem spec_Buried.bits10 : waitsOk spec_Buried.T10.2 spec_Buried.B10 = true := by kernel_rfl
set_option maxHeartbeats 8000000 in
set_option maxRecDepth 100000 in
theorem spec_Buried.calls (k : Nat) (a0_0 : Int) (ax : Option Addr) (au : Nat) (ab : List (List (S30))) (r : Int) (w : World) (bd : Kd.C (Kd.slice 30 k30) w ax ab.length ab) (hc0_1 : ab.length ≤ au) (h : spec_Buried.f k a0_0 ab = some r) :
  Calls Try.prog 25 #[.agg #[.int .i64 a0_0, .slice ax ab.length au]] w fun e w' => e = .returned (.int .i64 r) ∧ Below w.heap.size w w' := by
 have hu24 := Try.underlying24; have ay := zK bd; have be := zK hc0_1; clear bd hc0_1
 have HB := zK (Below.refl w.heap.size w)
 have H : ((spec_StoreOk.f k a0_0 ab).bind fun ba => (if ba = true then (spec_Buried.l0 k 0 0 a0_0 ab) else (some (-1)))) = some r := h
 clear h; replace H := Option.bind_eq_some_iff.mp H
 obtain ⟨ba, A20, H⟩ := H
 replace H : (if ba = true then (spec_Buried.l0 k 0 0 a0_0 ab) else (some (-1))) = some r := H
 have A2 := zK A20; clear A20
 by_cases c3 : ba = true
 ·subst c3
  have H1 : (spec_Buried.l0 k 0 0 a0_0 ab) = some r := by rw [if_pos rfl] at H; exact H
  clear H; have H := H1; clear H1; have H' := zK H; clear H
  go_enter Try.func25, Try.ntmps25
  go_wp2_with (first | ((with_reducible refine gate_dst (N := 1) rfl ?_); refine box_event ?hg (N := 1) ?hd (cs := #[.int .i64 a0_0, .slice ax ab.length au]) (t := 24) ?hr ?_; (case hd => rfl); (case hg => rfl); (case hr => first | (go_simp; done) | (go_simp; rfl)); intro ae hg w4 hbox hb; have aF := zK (below_step (zb HB) hb); have aG := zK (hbox); have bC := zK ((by rw [hg]; exact (below_size (zb HB)) : w.heap.size ≤ ae)); have bD := zK ((by rw [hg]; exact (below_size (zb HB)) : w.heap.size ≤ ae)); clear HB; have HB := aF; have aa := aG; have bE := bC; have aw := bD; clear aF aG bC bD; clear hb hbox hg; have a0 : w4.cell? ⟨ae, 0, none⟩ = some (.int .i64 a0_0) := (blk_cell aa.out 0).trans rfl; have a1 : w4.cell? ⟨ae, 1, none⟩ = some (.slice ax ab.length au) := (blk_cell aa.out 1).trans rfl; have a2 := blk_frozen aa.out 0; have a3 := blk_frozen aa.out 1) | ((with_reducible refine gate_callee (f := 15) rfl ?_); refine goesL_ (some 7) rfl rfl Try.func15 (by kernel_rfl) rfl #[.agg #[.int .i64 a0_0, .slice ax ab.length au]] rfl (by (try simp only [List.map_toArray, List.map_cons, List.map_nil]); first | done | rfl | (simp only [List.length_drop, List.length_take]; rfl)) ?_; (with_reducible refine (spec_StoreOk.calls k a0_0 _ _ ab true _ ?side1 ?side2 A2.out).mono ?_); (case side1 => repeat (first | exact (Kd.C_below ay.out HB.out) | (with_reducible refine Kd.C_alloc ?_ _) | (with_reducible refine Kd.C_drewN ?_ _) | (with_reducible refine Kd.C_drew ?_))); (case side2 => exact be.out); rintro e w6 ⟨rfl, hb⟩; refine ⟨_, rfl, ?_⟩; have aF := zK (blk_below (g := ae) (o := .cells #[.int .i64 a0_0, .slice ax ab.length au] 24 (0, 0)) (zk aa) hb); have aG := zK (below_step (zb HB) hb); clear aa; clear HB; have aa := aF; have HB := aG; clear aF aG; (try clear hb)))
  go_loopg [3, 4] k (fun kq v3 v4 w' => ∃ (bb : Int) (ac : Int), v3 = .int .i64 bb ∧ v4 = .int .i64 ac ∧ Aside0 (spec_Buried.l0 kq bb ac a0_0 ab = some r) ∧ Aside0 (kq ≤ k) ∧ Aside0 (w'.heap[ae]? = some (.cells #[.int .i64 a0_0, (.slice ax ab.length au)] 24 (0, 0))) ∧ Aside0 (Below w.heap.size w w'))
  case atStart => exact ⟨(0), (0), (by first | rfl | (simp; done) | (simp [*]; done)), (by first | rfl | (simp; done) | (simp [*]; done)), H', ⟨Nat.le_refl _⟩, ⟨zk aa⟩, ⟨zb HB⟩⟩
  case round =>
   clear H'
   try clear c1
   try clear c2
   try clear p2
   try clear c3
   try clear a0
   try clear a1
   try clear a2
   try clear a3
   obtain ⟨bb, ac, rfl, rfl, HA, bx, aa, HB⟩ := hrel
   cases gk with
   | zero => exact absurd HA.out (by simp [spec_Buried.l0])
   | succ k1 =>
    have H := HA.out; clear HA
    simp only [spec_Buried.l0] at H
    by_cases c7 : ac < (ab.length : Int)
    ·rw [if_pos c7] at H
     have bF : decide (ac < (ab.length : Int)) = true := decide_eq_true c7
     clear c7; have H' := zK H; clear H
     have bh : wr.cell? ⟨ae, 0, none⟩ = some (.int .i64 a0_0) := (blk_cell aa.out 0).trans rfl
     have bi : wr.cell? ⟨ae, 1, none⟩ = some (.slice ax ab.length au) := (blk_cell aa.out 1).trans rfl
     have bj := blk_frozen aa.out 0; have bk := blk_frozen aa.out 1
     go_wp2
     go_loopg [3, 5] k1 (fun kq v3 v5 w' => ∃ (aK : Int) (ad : Int), v3 = .int .i64 aK ∧ v5 = .int .i64 ad ∧ Aside0 (spec_Buried.l1 kq aK ac ad a0_0 ab = some r) ∧ Aside0 (kq ≤ k1) ∧ Aside0 (w'.heap[ae]? = some (.cells #[.int .i64 a0_0, (.slice ax ab.length au)] 24 (0, 0))) ∧ Aside0 (Below w.heap.size w w'))
     case atStart => exact ⟨(bb), (1), (by first | rfl | (simp; done) | (simp [*]; done)), (by first | rfl | (simp; done) | (simp [*]; done)), H', ⟨Nat.le_refl _⟩, ⟨zk aa⟩, ⟨zb HB⟩⟩
     case round =>
      clear H'
      try clear c1
      try clear c2
      try clear p2
      try clear c3
      try clear c7
      try clear bF
      try clear a0
      try clear a1
      try clear bh
      try clear bi
      try clear a2
      try clear a3
      try clear bj
      try clear bk
      try clear p2
      obtain ⟨aK, ad, rfl, rfl, HA, bz, aa, HB⟩ := hrel
      cases gk with
      | zero => exact absurd HA.out (by simp [spec_Buried.l1])
      | succ k2 =>
       have H := HA.out; clear HA
       simp only [spec_Buried.l1] at H
       by_cases c9 : 0 ≤ ac
       ·rw [if_pos c9] at H
        have c9b0 : decide (0 ≤ ac) = true := decide_eq_true c9
        clear c9
        by_cases c10 : ac < (ab.length : Int)
        ·rw [if_pos c10] at H
         have c10b0 : decide (ac < (ab.length : Int)) = true := decide_eq_true c10
         clear c10
         by_cases bA : ad < ((rd_L2 ab ac).length : Int)
         ·rw [if_pos bA] at H
          have bG : decide (ad < ((rd_L2 ab ac).length : Int)) = true := decide_eq_true bA
          clear bA
          by_cases bH : 0 ≤ ad
          ·rw [if_pos bH] at H
           have c12b0 := eq_true bH
           have c12b1 : decide (0 ≤ ad) = true := decide_eq_true bH
           clear bH
           by_cases bI : ad ≤ ((rd_L2 ab ac).length : Int)
           ·rw [if_pos bI] at H
            have c13b0 := eq_true bI
            have c13b1 : decide (ad ≤ ((rd_L2 ab ac).length : Int)) = true := decide_eq_true bI
            clear bI
            obtain ⟨aL, aN⟩ : ∃ y_ : List (S30), y_ = ((rd_L2 ab ac).take (ad : Int).toNat) := ⟨_, rfl⟩
            replace H : ((spec_l06Least.f k2 aL).bind fun aO => (if aO < ((rd_T30 (rd_L2 ab ac) ad).f1) then (spec_Buried.l1 k2 (wrap64 (aK + 1)) ac (wrap64 (ad + 1)) a0_0 ab) else (spec_Buried.l1 k2 aK ac (wrap64 (ad + 1)) a0_0 ab))) = some r := by first | (rw [aN]; with_reducible exact H) | (have H2_ := (Option.bind_some _ _).symm.trans H; rw [aN]; with_reducible exact H2_) | (have H2_ := (Option.bind_some _ _).symm.trans H; with_reducible exact H2_) | with_reducible exact H | (rw [aN]; exact H) | exact H
            have Ny342 := zK aN; clear aN; replace H := Option.bind_eq_some_iff.mp H
            obtain ⟨aO, bJ, H⟩ := H
            replace H : (if aO < ((rd_T30 (rd_L2 ab ac) ad).f1) then (spec_Buried.l1 k2 (wrap64 (aK + 1)) ac (wrap64 (ad + 1)) a0_0 ab) else (spec_Buried.l1 k2 aK ac (wrap64 (ad + 1)) a0_0 ab)) = some r := H
            have A14 := zK bJ; clear bJ
            by_cases bB : aO < ((rd_T30 (rd_L2 ab ac) ad).f1)
            ·rw [if_pos bB] at H
             have bK : decide (aO < ((rd_T30 (rd_L2 ab ac) ad).f1)) = true := decide_eq_true bB
             clear bB; have H' := zK H; clear H
             have hcz16_0 : wr.cell? ⟨ae, 0, none⟩ = some (.int .i64 a0_0) := (blk_cell aa.out 0).trans rfl
             have hcz16_1 : wr.cell? ⟨ae, 1, none⟩ = some (.slice ax ab.length au) := (blk_cell aa.out 1).trans rfl
             have hfz16_0 := blk_frozen aa.out 0; have hfz16_1 := blk_frozen aa.out 1
             have aH : 0 ≤ (ac : Int) := of_decide_eq_true (by first | (with_reducible assumption) | assumption)
             have aI : ac < (ab.length : Int) := of_decide_eq_true (by first | (with_reducible assumption) | assumption)
             obtain ⟨ap, a4, a5, a6, ah, aq, ar⟩ := at_L2 ay.out ac aH aI
             cases a6
             replace ah := (HB.out.cell (World.block_lt_of_cell? w _ ah)).trans ah
             have aW := zK ar; have aX := zK aq; clear ar aq; replace aH := eq_true aH; replace aI := eq_true aI
             try go_wp2
             have aF := zK (zD aa.out)
             have aG := zK (zE HB.out)
             clear aa HB; have aa := aF; have HB := aG; clear aF aG
             have aQ : 0 ≤ (ac : Int) := of_decide_eq_true (by first | (with_reducible assumption) | assumption)
             have aR : ac < (ab.length : Int) := of_decide_eq_true (by first | (with_reducible assumption) | assumption)
             obtain ⟨a7, aJ, ak, bl, af, az, aA⟩ := at_L2 ay.out ac aQ aR
             have al := af
             obtain rfl : ap = a7 := (by injection bl)
             replace af := (HB.out.cell (World.block_lt_of_cell? w _ af)).trans af
             have aB := zK aA; have aM := zK az; clear aA az; replace aQ := eq_true aQ; replace aR := eq_true aR
             have q18 : (ad : Int) ≤ (((rd_L2 ab ac).length : Int) : Int) := of_decide_eq_true (by first | (with_reducible assumption) | assumption)
             obtain ⟨i018, bf, _, bL, _⟩ := info_parts info30
             have aY : (rd_L2 ab ac).length ≤ ak := aM.out
             have bM : Kd.C k30 _ aJ (rd_L2 ab ac).length (rd_L2 ab ac) := aB.out
             have bm := cut_to (P := Try.prog) 28 30 .i64 Try.underlying28 bf aJ (rd_L2 ab ac).length ak ad (of_decide_eq_true (by first | (with_reducible assumption) | assumption)) q18 aY
             have bn := Kd.C_take (m := (ad : Int).toNat) bM (by omega)
             have bo : aL.length = (ad : Int).toNat := (by rw [Ny342.out, List.length_take]; omega)
             rw [← Ny342.out] at bn
             rw [← bo] at bm
             have aP := zK bn
             have a8 := zK (show aL.length ≤ ak from by omega)
             clear bn bM aY bf bL; have KY18 := zK bo; clear bo; replace q18 := eq_true q18
             have aS : 0 ≤ (ac : Int) := of_decide_eq_true (by first | (with_reducible assumption) | assumption)
             have aT : ac < (ab.length : Int) := of_decide_eq_true (by first | (with_reducible assumption) | assumption)
             obtain ⟨a9, bp, bq, br, ag, aC, aD⟩ := at_L2 ay.out ac aS aT
             have am := ag
             obtain rfl : ap = a9 := (by injection br)
             replace ag := (HB.out.cell (World.block_lt_of_cell? w _ ag)).trans ag
             have aE := zK aD; have bc := zK aC; clear aD aC; replace aS := eq_true aS; replace aT := eq_true aT
             have ea_ := Option.some.inj (af.symm.trans ag)
             injection ea_ with ea_ en_ ec_
             subst ea_; subst ec_; clear en_
             have aU : 0 ≤ (ad : Int) := of_decide_eq_true (by first | (with_reducible assumption) | assumption)
             have aV : ad < ((rd_L2 ab ac).length : Int) := of_decide_eq_true (by first | (with_reducible assumption) | assumption)
             obtain ⟨av, bs, ai, aj⟩ := at_T30 aE.out ad aU aV
             have an := aj; have ao := ai
             cases bs
             replace ai := (HB.out.cell (World.block_lt_of_cell? w _ ai)).trans ai
             replace aj := (HB.out.cell (World.block_lt_of_cell? w _ aj)).trans aj
             replace aU := eq_true aU; replace aV := eq_true aV
             refine start_ (n := 18) (S := fun w' => w'.cell? ⟨ae, 0, none⟩ = some (.int .i64 a0_0) ∧ w'.cell? ⟨ae, 1, none⟩ = some (.slice (some ap) ab.length au) ∧ w'.cell? (ap.add (ac).toNat) = some (.slice (some av) (rd_L2 ab ac).length ak) ∧ w'.cell? (ap.add (ac).toNat) = some (.slice (some av) (rd_L2 ab ac).length ak) ∧ w'.cell? (av.add ((ad).toNat * 2)) = some (.int .i64 ((rd_T30 (rd_L2 ab ac) ad).f0)) ∧ w'.cell? ⟨(av.add ((ad).toNat * 2)).block, (av.add ((ad).toNat * 2)).off + 1, none⟩ = some (.int .i64 ((rd_T30 (rd_L2 ab ac) ad).f1))) (ds := []) #[ff, ff, ff, ff, ff, ff, ff, ff, ff, ff, ff, ff, ff, ff, ff, ff, ff, ff] (by kernel_rfl) rfl rfl ⟨(blk_cell aa.out 0).trans rfl, (blk_cell aa.out 1).trans rfl, ((HB.out.cell (World.block_lt_of_cell? w _ al)).trans al), ((HB.out.cell (World.block_lt_of_cell? w _ am)).trans am), ((HB.out.cell (World.block_lt_of_cell? w _ ao)).trans ao), ((HB.out.cell (World.block_lt_of_cell? w _ an)).trans an)⟩ (fun hHeld => ?_); refine with_tabW spec_Buried.tab10 spec_Buried.bits10 (fun HT_ HW_ => ?_)
             generalize wr.drew = w17 at aa HB aB aP aE af ag ai aj hHeld ⊢
             refine zu 0 (some 26) #[tt, ff, ff, ff, ff, ff, ff, ff, ff, ff, ff, ff, ff, ff, ff, ff, ff, ff] (any_of HT_.out (by kernel_rfl)) ?_
             refine zu 2 (some 28) #[tt, ff, tt, ff, ff, ff, ff, ff, ff, ff, ff, ff, ff, ff, ff, ff, ff, ff] (any_of HT_.out (by kernel_rfl)) ?_
             refine zu 5 (some 31) #[tt, ff, tt, ff, ff, tt, ff, ff, ff, ff, ff, ff, ff, ff, ff, ff, ff, ff] (any_of HT_.out (by kernel_rfl)) ?_
             refine zu 8 (some 34) #[tt, ff, tt, ff, ff, tt, ff, ff, tt, ff, ff, ff, ff, ff, ff, ff, ff, ff] (any_of HT_.out (by kernel_rfl)) ?_
             refine zu 10 (some 36) #[tt, ff, tt, ff, ff, tt, ff, ff, tt, ff, tt, ff, ff, ff, ff, ff, ff, ff] (any_of HT_.out (by kernel_rfl)) ?_
             refine zu 13 (some 39) #[tt, ff, tt, ff, ff, tt, ff, ff, tt, ff, tt, ff, ff, tt, ff, ff, ff, ff] (any_of HT_.out (by kernel_rfl)) ?_
             refine zt 1 (some 27) #[tt, tt, tt, ff, ff, tt, ff, ff, tt, ff, tt, ff, ff, tt, ff, ff, ff, ff] (take_ofW HT_.out HW_.out (by kernel_rfl)) hHeld ?_
             refine zu 3 (some 29) #[tt, tt, tt, tt, ff, tt, ff, ff, tt, ff, tt, ff, ff, tt, ff, ff, ff, ff] (any_of HT_.out (by kernel_rfl)) ?_
             refine zt 4 (some 30) #[tt, tt, tt, tt, tt, tt, ff, ff, tt, ff, tt, ff, ff, tt, ff, ff, ff, ff] (take_ofW HT_.out HW_.out (by kernel_rfl)) hHeld ?_
             refine zu 6 (some 32) #[tt, tt, tt, tt, tt, tt, tt, ff, tt, ff, tt, ff, ff, tt, ff, ff, ff, ff] (any_of HT_.out (by kernel_rfl)) ?_
             refine zt 9 (some 35) #[tt, tt, tt, tt, tt, tt, tt, ff, tt, tt, tt, ff, ff, tt, ff, ff, ff, ff] (take_ofW HT_.out HW_.out (by kernel_rfl)) hHeld ?_
             refine zu 11 (some 37) #[tt, tt, tt, tt, tt, tt, tt, ff, tt, tt, tt, tt, ff, tt, ff, ff, ff, ff] (any_of HT_.out (by kernel_rfl)) ?_
             refine zt 12 (some 38) #[tt, tt, tt, tt, tt, tt, tt, ff, tt, tt, tt, tt, tt, tt, ff, ff, ff, ff] (take_ofW HT_.out HW_.out (by kernel_rfl)) hHeld ?_
             refine zu 14 (some 40) #[tt, tt, tt, tt, tt, tt, tt, ff, tt, tt, tt, tt, tt, tt, tt, ff, ff, ff] (any_of HT_.out (by kernel_rfl)) ?_
             refine zu 15 (some 41) #[tt, tt, tt, tt, tt, tt, tt, ff, tt, tt, tt, tt, tt, tt, tt, tt, ff, ff] (any_of HT_.out (by kernel_rfl)) ?_
             refine zt 16 (some 42) #[tt, tt, tt, tt, tt, tt, tt, ff, tt, tt, tt, tt, tt, tt, tt, tt, tt, ff] (take_ofW HT_.out HW_.out (by kernel_rfl)) hHeld ?_
             refine one_ (i := 7) (N := some 33) #[tt, tt, tt, tt, tt, tt, tt, tt, tt, tt, tt, tt, tt, tt, tt, tt, tt, ff] rfl rfl (one_of HT_.out (by kernel_rfl)) (by decide) (fun K hK => ?_)
             refine goes_ Try.func61 (by kernel_rfl) rfl #[.slice (some av) aL.length ak] (by rfl) rfl rfl (by (try simp only [List.map_toArray, List.map_cons, List.map_nil]); first | done | rfl | (simp only [List.length_drop, List.length_take]; rfl)) ?_
             with_reducible refine (spec_l06Least.calls k2 _ _ aL aO _ ?side1 ?side2 A14.out).mono ?_
             (case side1 => repeat (first | exact (Kd.C_below aP.out HB.out) | (with_reducible refine Kd.C_alloc ?_ _) | (with_reducible refine Kd.C_drewN ?_ _) | (with_reducible refine Kd.C_drew ?_)))
             (case side2 => exact a8.out)
             rintro e w19 ⟨rfl, hb⟩
             refine ⟨_, rfl, ?_⟩
             have aF := zK (blk_below (g := ae) (o := .cells #[.int .i64 a0_0, .slice (some ap) ab.length au] 24 (0, 0)) (zk aa) hb)
             have aG := zK (below_step (zb HB) hb)
             clear aa HB; have aa := aF; have HB := aG; clear aF aG; (try clear hb); (try clear hb2); (try clear hk); (try clear hi)
             refine hK.out _ _ ⟨(blk_cell aa.out 0).trans rfl, (blk_cell aa.out 1).trans rfl, ((HB.out.cell (World.block_lt_of_cell? w _ al)).trans al), ((HB.out.cell (World.block_lt_of_cell? w _ am)).trans am), ((HB.out.cell (World.block_lt_of_cell? w _ ao)).trans ao), ((HB.out.cell (World.block_lt_of_cell? w _ an)).trans an)⟩ (fun hHeld => ?_)
             clear hK K
             refine norm_ (a' := ?_) ?_ ?_
             rotate_left
             ·show Act.put _ (some 33) _ = _
              simp only [Act.put, zp, zq, zr, i64_w, i32_w]
              rfl
             refine zu 17 (some 43) #[tt, tt, tt, tt, tt, tt, tt, tt, tt, tt, tt, tt, tt, tt, tt, tt, tt, tt] (any_of HT_.out (by kernel_rfl)) ?_
             refine done_ (done_of HT_.out (by kernel_rfl)) ?_
             try go_wp2
             go_roundg k2
             case measure => have := bx.out; have := bz.out; omega
             case rel => exact ⟨(wrap64 (aK + 1)), (wrap64 (ad + 1)), (by first | rfl | (simp; done) | (simp [*]; done)), (by first | rfl | (simp; done) | (simp [*]; done)), H', ⟨by have := bx.out; have := bz.out; omega⟩, ⟨zk aa⟩, ⟨zb HB⟩⟩
            ·rw [if_neg bB] at H
             have bK : decide (aO < ((rd_T30 (rd_L2 ab ac) ad).f1)) = false := decide_eq_false bB
             clear bB; have H' := zK H; clear H
             have hcz20_0 : wr.cell? ⟨ae, 0, none⟩ = some (.int .i64 a0_0) := (blk_cell aa.out 0).trans rfl
             have hcz20_1 : wr.cell? ⟨ae, 1, none⟩ = some (.slice ax ab.length au) := (blk_cell aa.out 1).trans rfl
             have hfz20_0 := blk_frozen aa.out 0; have hfz20_1 := blk_frozen aa.out 1
             have aH : 0 ≤ (ac : Int) := of_decide_eq_true (by first | (with_reducible assumption) | assumption)
             have aI : ac < (ab.length : Int) := of_decide_eq_true (by first | (with_reducible assumption) | assumption)
             obtain ⟨ap, a4, a5, a6, ah, aq, ar⟩ := at_L2 ay.out ac aH aI
             cases a6
             replace ah := (HB.out.cell (World.block_lt_of_cell? w _ ah)).trans ah
             have aW := zK ar; have aX := zK aq; clear ar aq; replace aH := eq_true aH; replace aI := eq_true aI
             try go_wp2
             have aF := zK (zD aa.out)
             have aG := zK (zE HB.out)
             clear aa HB; have aa := aF; have HB := aG; clear aF aG
             have aQ : 0 ≤ (ac : Int) := of_decide_eq_true (by first | (with_reducible assumption) | assumption)
             have aR : ac < (ab.length : Int) := of_decide_eq_true (by first | (with_reducible assumption) | assumption)
             obtain ⟨a7, aJ, ak, bl, af, az, aA⟩ := at_L2 ay.out ac aQ aR
             have al := af
             obtain rfl : ap = a7 := (by injection bl)
             replace af := (HB.out.cell (World.block_lt_of_cell? w _ af)).trans af
             have aB := zK aA; have aM := zK az; clear aA az; replace aQ := eq_true aQ; replace aR := eq_true aR
             have q22 : (ad : Int) ≤ (((rd_L2 ab ac).length : Int) : Int) := of_decide_eq_true (by first | (with_reducible assumption) | assumption)
             obtain ⟨i022, bg, _, bN, _⟩ := info_parts info30
             have aZ : (rd_L2 ab ac).length ≤ ak := aM.out
             have bO : Kd.C k30 _ aJ (rd_L2 ab ac).length (rd_L2 ab ac) := aB.out
             have bt := cut_to (P := Try.prog) 28 30 .i64 Try.underlying28 bg aJ (rd_L2 ab ac).length ak ad (of_decide_eq_true (by first | (with_reducible assumption) | assumption)) q22 aZ
             have bv := Kd.C_take (m := (ad : Int).toNat) bO (by omega)
             have bw : aL.length = (ad : Int).toNat := (by rw [Ny342.out, List.length_take]; omega)
             rw [← Ny342.out] at bv
             rw [← bw] at bt
             have aP := zK bv
             have a8 := zK (show aL.length ≤ ak from by omega)
             clear bv bO aZ bg bN; have KY22 := zK bw; clear bw; replace q22 := eq_true q22
             have aS : 0 ≤ (ac : Int) := of_decide_eq_true (by first | (with_reducible assumption) | assumption)
             have aT : ac < (ab.length : Int) := of_decide_eq_true (by first | (with_reducible assumption) | assumption)
             obtain ⟨a9, bp, bq, br, ag, aC, aD⟩ := at_L2 ay.out ac aS aT
             have am := ag
             obtain rfl : ap = a9 := (by injection br)
             replace ag := (HB.out.cell (World.block_lt_of_cell? w _ ag)).trans ag
             have aE := zK aD; have bc := zK aC; clear aD aC; replace aS := eq_true aS; replace aT := eq_true aT
             have ea_ := Option.some.inj (af.symm.trans ag)
             injection ea_ with ea_ en_ ec_
             subst ea_; subst ec_; clear en_
             have aU : 0 ≤ (ad : Int) := of_decide_eq_true (by first | (with_reducible assumption) | assumption)
             have aV : ad < ((rd_L2 ab ac).length : Int) := of_decide_eq_true (by first | (with_reducible assumption) | assumption)
             obtain ⟨av, bs, ai, aj⟩ := at_T30 aE.out ad aU aV
             have an := aj; have ao := ai
             cases bs
             replace ai := (HB.out.cell (World.block_lt_of_cell? w _ ai)).trans ai
             replace aj := (HB.out.cell (World.block_lt_of_cell? w _ aj)).trans aj
             replace aU := eq_true aU; replace aV := eq_true aV
             refine start_ (n := 18) (S := fun w' => w'.cell? ⟨ae, 0, none⟩ = some (.int .i64 a0_0) ∧ w'.cell? ⟨ae, 1, none⟩ = some (.slice (some ap) ab.length au) ∧ w'.cell? (ap.add (ac).toNat) = some (.slice (some av) (rd_L2 ab ac).length ak) ∧ w'.cell? (ap.add (ac).toNat) = some (.slice (some av) (rd_L2 ab ac).length ak) ∧ w'.cell? (av.add ((ad).toNat * 2)) = some (.int .i64 ((rd_T30 (rd_L2 ab ac) ad).f0)) ∧ w'.cell? ⟨(av.add ((ad).toNat * 2)).block, (av.add ((ad).toNat * 2)).off + 1, none⟩ = some (.int .i64 ((rd_T30 (rd_L2 ab ac) ad).f1))) (ds := []) #[ff, ff, ff, ff, ff, ff, ff, ff, ff, ff, ff, ff, ff, ff, ff, ff, ff, ff] (by kernel_rfl) rfl rfl ⟨(blk_cell aa.out 0).trans rfl, (blk_cell aa.out 1).trans rfl, ((HB.out.cell (World.block_lt_of_cell? w _ al)).trans al), ((HB.out.cell (World.block_lt_of_cell? w _ am)).trans am), ((HB.out.cell (World.block_lt_of_cell? w _ ao)).trans ao), ((HB.out.cell (World.block_lt_of_cell? w _ an)).trans an)⟩ (fun hHeld => ?_); refine with_tabW spec_Buried.tab10 spec_Buried.bits10 (fun HT_ HW_ => ?_)
             generalize wr.drew = w21 at aa HB aB aP aE af ag ai aj hHeld ⊢
             refine zu 0 (some 26) #[tt, ff, ff, ff, ff, ff, ff, ff, ff, ff, ff, ff, ff, ff, ff, ff, ff, ff] (any_of HT_.out (by kernel_rfl)) ?_
             refine zu 2 (some 28) #[tt, ff, tt, ff, ff, ff, ff, ff, ff, ff, ff, ff, ff, ff, ff, ff, ff, ff] (any_of HT_.out (by kernel_rfl)) ?_
             refine zu 5 (some 31) #[tt, ff, tt, ff, ff, tt, ff, ff, ff, ff, ff, ff, ff, ff, ff, ff, ff, ff] (any_of HT_.out (by kernel_rfl)) ?_
             refine zu 8 (some 34) #[tt, ff, tt, ff, ff, tt, ff, ff, tt, ff, ff, ff, ff, ff, ff, ff, ff, ff] (any_of HT_.out (by kernel_rfl)) ?_
             refine zu 10 (some 36) #[tt, ff, tt, ff, ff, tt, ff, ff, tt, ff, tt, ff, ff, ff, ff, ff, ff, ff] (any_of HT_.out (by kernel_rfl)) ?_
             refine zu 13 (some 39) #[tt, ff, tt, ff, ff, tt, ff, ff, tt, ff, tt, ff, ff, tt, ff, ff, ff, ff] (any_of HT_.out (by kernel_rfl)) ?_
             refine zt 1 (some 27) #[tt, tt, tt, ff, ff, tt, ff, ff, tt, ff, tt, ff, ff, tt, ff, ff, ff, ff] (take_ofW HT_.out HW_.out (by kernel_rfl)) hHeld ?_
             refine zu 3 (some 29) #[tt, tt, tt, tt, ff, tt, ff, ff, tt, ff, tt, ff, ff, tt, ff, ff, ff, ff] (any_of HT_.out (by kernel_rfl)) ?_
             refine zt 4 (some 30) #[tt, tt, tt, tt, tt, tt, ff, ff, tt, ff, tt, ff, ff, tt, ff, ff, ff, ff] (take_ofW HT_.out HW_.out (by kernel_rfl)) hHeld ?_
             refine zu 6 (some 32) #[tt, tt, tt, tt, tt, tt, tt, ff, tt, ff, tt, ff, ff, tt, ff, ff, ff, ff] (any_of HT_.out (by kernel_rfl)) ?_
             refine zt 9 (some 35) #[tt, tt, tt, tt, tt, tt, tt, ff, tt, tt, tt, ff, ff, tt, ff, ff, ff, ff] (take_ofW HT_.out HW_.out (by kernel_rfl)) hHeld ?_
             refine zu 11 (some 37) #[tt, tt, tt, tt, tt, tt, tt, ff, tt, tt, tt, tt, ff, tt, ff, ff, ff, ff] (any_of HT_.out (by kernel_rfl)) ?_
             refine zt 12 (some 38) #[tt, tt, tt, tt, tt, tt, tt, ff, tt, tt, tt, tt, tt, tt, ff, ff, ff, ff] (take_ofW HT_.out HW_.out (by kernel_rfl)) hHeld ?_
             refine zu 14 (some 40) #[tt, tt, tt, tt, tt, tt, tt, ff, tt, tt, tt, tt, tt, tt, tt, ff, ff, ff] (any_of HT_.out (by kernel_rfl)) ?_
             refine zu 15 (some 41) #[tt, tt, tt, tt, tt, tt, tt, ff, tt, tt, tt, tt, tt, tt, tt, tt, ff, ff] (any_of HT_.out (by kernel_rfl)) ?_
             refine zt 16 (some 42) #[tt, tt, tt, tt, tt, tt, tt, ff, tt, tt, tt, tt, tt, tt, tt, tt, tt, ff] (take_ofW HT_.out HW_.out (by kernel_rfl)) hHeld ?_
             refine one_ (i := 7) (N := some 33) #[tt, tt, tt, tt, tt, tt, tt, tt, tt, tt, tt, tt, tt, tt, tt, tt, tt, ff] rfl rfl (one_of HT_.out (by kernel_rfl)) (by decide) (fun K hK => ?_)
             refine goes_ Try.func61 (by kernel_rfl) rfl #[.slice (some av) aL.length ak] (by rfl) rfl rfl (by (try simp only [List.map_toArray, List.map_cons, List.map_nil]); first | done | rfl | (simp only [List.length_drop, List.length_take]; rfl)) ?_
             with_reducible refine (spec_l06Least.calls k2 _ _ aL aO _ ?side1 ?side2 A14.out).mono ?_
             (case side1 => repeat (first | exact (Kd.C_below aP.out HB.out) | (with_reducible refine Kd.C_alloc ?_ _) | (with_reducible refine Kd.C_drewN ?_ _) | (with_reducible refine Kd.C_drew ?_)))
             (case side2 => exact a8.out)
             rintro e w23 ⟨rfl, hb⟩
             refine ⟨_, rfl, ?_⟩
             have aF := zK (blk_below (g := ae) (o := .cells #[.int .i64 a0_0, .slice (some ap) ab.length au] 24 (0, 0)) (zk aa) hb)
             have aG := zK (below_step (zb HB) hb)
             clear aa HB; have aa := aF; have HB := aG; clear aF aG; (try clear hb); (try clear hb2); (try clear hk); (try clear hi)
             refine hK.out _ _ ⟨(blk_cell aa.out 0).trans rfl, (blk_cell aa.out 1).trans rfl, ((HB.out.cell (World.block_lt_of_cell? w _ al)).trans al), ((HB.out.cell (World.block_lt_of_cell? w _ am)).trans am), ((HB.out.cell (World.block_lt_of_cell? w _ ao)).trans ao), ((HB.out.cell (World.block_lt_of_cell? w _ an)).trans an)⟩ (fun hHeld => ?_)
             clear hK K
             refine norm_ (a' := ?_) ?_ ?_
             rotate_left
             ·show Act.put _ (some 33) _ = _
              simp only [Act.put, zp, zq, zr, i64_w, i32_w]
              rfl
             refine zu 17 (some 43) #[tt, tt, tt, tt, tt, tt, tt, tt, tt, tt, tt, tt, tt, tt, tt, tt, tt, tt] (any_of HT_.out (by kernel_rfl)) ?_
             refine done_ (done_of HT_.out (by kernel_rfl)) ?_
             try go_wp2
             go_roundg k2
             case measure => have := bx.out; have := bz.out; omega
             case rel => exact ⟨(aK), (wrap64 (ad + 1)), (by first | rfl | (simp; done) | (simp [*]; done)), (by first | rfl | (simp; done) | (simp [*]; done)), H', ⟨by have := bx.out; have := bz.out; omega⟩, ⟨zk aa⟩, ⟨zb HB⟩⟩
           ·rw [if_neg bI] at H
            exact absurd H (by simp)
          ·rw [if_neg bH] at H
           exact absurd H (by simp)
         ·rw [if_neg bA] at H
          have bG : decide (ad < ((rd_L2 ab ac).length : Int)) = false := decide_eq_false bA
          clear bA; have H' := zK H; clear H
          have hcz24_0 : wr.cell? ⟨ae, 0, none⟩ = some (.int .i64 a0_0) := (blk_cell aa.out 0).trans rfl
          have hcz24_1 : wr.cell? ⟨ae, 1, none⟩ = some (.slice ax ab.length au) := (blk_cell aa.out 1).trans rfl
          have hfz24_0 := blk_frozen aa.out 0; have hfz24_1 := blk_frozen aa.out 1
          have aH : 0 ≤ (ac : Int) := of_decide_eq_true (by first | (with_reducible assumption) | assumption)
          have aI : ac < (ab.length : Int) := of_decide_eq_true (by first | (with_reducible assumption) | assumption)
          obtain ⟨ap, a4, a5, a6, ah, aq, ar⟩ := at_L2 ay.out ac aH aI
          cases a6
          replace ah := (HB.out.cell (World.block_lt_of_cell? w _ ah)).trans ah
          have aW := zK ar; have aX := zK aq; clear ar aq; replace aH := eq_true aH; replace aI := eq_true aI
          go_wp2
          go_roundg k2
          case measure => have := bx.out; have := bz.out; omega
          case rel => exact ⟨(aK), (wrap64 (ac + 1)), (by first | rfl | (simp; done) | (simp [*]; done)), (by first | rfl | (simp; done) | (simp [*]; done)), H', ⟨by have := bx.out; have := bz.out; omega⟩, ⟨zk aa⟩, ⟨zb HB⟩⟩
        ·rw [if_neg c10] at H
         exact absurd H (by simp)
       ·rw [if_neg c9] at H
        exact absurd H (by simp)
    ·rw [if_neg c7] at H
     have bF : decide (ac < (ab.length : Int)) = false := decide_eq_false c7
     clear c7; obtain rfl := Option.some.inj H
     have hcz25_0 : wr.cell? ⟨ae, 0, none⟩ = some (.int .i64 a0_0) := (blk_cell aa.out 0).trans rfl
     have hcz25_1 : wr.cell? ⟨ae, 1, none⟩ = some (.slice ax ab.length au) := (blk_cell aa.out 1).trans rfl
     have hfz25_0 := blk_frozen aa.out 0; have hfz25_1 := blk_frozen aa.out 1
     go_wp2
     go_ret
     exact ⟨by first | rfl | (simp [errW_none, errW_some] <;> rfl) | (simp [*, errW_none, errW_some] <;> rfl), by repeat (first | (with_reducible first | exact HB.out | apply zB | apply zC | apply zE | refine zS ?_ aw.out) | exact HB.out)⟩
 ·replace c3 := Bool.eq_false_iff.mpr c3
  subst c3
  have H1 : (some (-1)) = some r := by rw [if_neg (show ¬ (false = true) by decide)] at H; exact H
  clear H; have H := H1; clear H1; obtain rfl := Option.some.inj H
  go_enter Try.func25, Try.ntmps25
  go_wp2_with (first | ((with_reducible refine gate_dst (N := 1) rfl ?_); refine box_event ?hg (N := 1) ?hd (cs := #[.int .i64 a0_0, .slice ax ab.length au]) (t := 24) ?hr ?_; (case hd => rfl); (case hg => rfl); (case hr => first | (go_simp; done) | (go_simp; rfl)); intro ae hg w26 hbox hb; have aF := zK (below_step (zb HB) hb); have aG := zK (hbox); have bC := zK ((by rw [hg]; exact (below_size (zb HB)) : w.heap.size ≤ ae)); have bD := zK ((by rw [hg]; exact (below_size (zb HB)) : w.heap.size ≤ ae)); clear HB; have HB := aF; have aa := aG; have bE := bC; have aw := bD; clear aF aG bC bD; clear hb hbox hg; have hcz27_0 : w26.cell? ⟨ae, 0, none⟩ = some (.int .i64 a0_0) := (blk_cell aa.out 0).trans rfl; have hcz27_1 : w26.cell? ⟨ae, 1, none⟩ = some (.slice ax ab.length au) := (blk_cell aa.out 1).trans rfl; have hfz27_0 := blk_frozen aa.out 0; have hfz27_1 := blk_frozen aa.out 1) | ((with_reducible refine gate_callee (f := 15) rfl ?_); refine goesL_ (some 7) rfl rfl Try.func15 (by kernel_rfl) rfl #[.agg #[.int .i64 a0_0, .slice ax ab.length au]] rfl (by (try simp only [List.map_toArray, List.map_cons, List.map_nil]); first | done | rfl | (simp only [List.length_drop, List.length_take]; rfl)) ?_; (with_reducible refine (spec_StoreOk.calls k a0_0 _ _ ab false _ ?side1 ?side2 A2.out).mono ?_); (case side1 => repeat (first | exact (Kd.C_below ay.out HB.out) | (with_reducible refine Kd.C_alloc ?_ _) | (with_reducible refine Kd.C_drewN ?_ _) | (with_reducible refine Kd.C_drew ?_))); (case side2 => exact be.out); rintro e w28 ⟨rfl, hb⟩; refine ⟨_, rfl, ?_⟩; have aF := zK (blk_below (g := ae) (o := .cells #[.int .i64 a0_0, .slice ax ab.length au] 24 (0, 0)) (zk aa) hb); have aG := zK (below_step (zb HB) hb); clear aa; clear HB; have aa := aF; have HB := aG; clear aF aG; (try clear hb)))
  go_ret
  exact ⟨by first | rfl | (simp [errW_none, errW_some] <;> rfl) | (simp [*, errW_none, errW_some] <;> rfl), by repeat (first | (with_reducible first | exact HB.out | apply zB | apply zC | apply zE | refine zS ?_ aw.out) | exact HB.out)⟩
end Go.Proofs.Ytheckjlldkkceaa.Px
