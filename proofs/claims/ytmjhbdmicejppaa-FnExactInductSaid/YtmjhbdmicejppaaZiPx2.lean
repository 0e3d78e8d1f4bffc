import Derived.Test.YtmjhbdmicejppaaZiPx0
import Derived.Test.YtmjhbdmicejppaaZiPx1
namespace Go.Proofs.Ytmjhbdmicejppaa.Px
open Go.RowKit Go.Proofs.YtmjhbdmicejppaaW.PrintWords Go.Proofs.YtmjhbdmicejppaaW.PrintLast Go.Proofs.YtmjhbdmicejppaaW.PrintMore
attribute [local go_sem] max2_int min2_int max_two min_two max_three min_three max_four min_four   
set_option linter.unusedVariables false
set_option linter.unusedSimpArgs false
mutual
def spec_LoopOk.j0 : Nat → Int → Bool → List Int → Int → List (S69) → List (S74) → Option (Bool)
 | 0, _, _, _, _, _, _ => none
 | k + 1, x3, x39, x257000, x257001, x257002, x257003 => if x39 = true then (some false) else (spec_LoopOk.l0 k x3 (([] : List Int)) 0 x257000 x257001 x257002 x257003)
def spec_LoopOk.l0 : Nat → Int → List Int → Int → List Int → Int → List (S69) → List (S74) → Option (Bool)
 | 0, _, _, _, _, _, _, _ => none
 | k + 1, x3, x4, x5, x257000, x257001, x257002, x257003 => if x5 < x3 then (if 0 ≤ x5 then (if x5 < (x257000.length : Int) then (if (rd x257000 x5) = 0 then (spec_LoopOk.l0 k x3 x4 (wrap64 (x5 + 1)) x257000 x257001 x257002 x257003) else (if x4.length < 17592186044416 then (spec_LoopOk.l0 k x3 (x4 ++ [rd x257000 x5]) (wrap64 (x5 + 1)) x257000 x257001 x257002 x257003) else (none))) else (none)) else (none)) else (spec_LoopOk.l1 k x3 x4 0 x257000 x257001 x257002 x257003)
def spec_LoopOk.l1 : Nat → Int → List Int → Int → List Int → Int → List (S69) → List (S74) → Option (Bool)
 | 0, _, _, _, _, _, _, _ => none
 | k + 1, x3, x4, x6, x257000, x257001, x257002, x257003 => if x6 < (x257002.length : Int) then (if 0 ≤ x6 then ((spec_l01In.f ((rd_T69 x257002 x6).f0) 0 (wrap64 (x3 - 1))).bind fun t269 => (if t269 = true then ((spec_l01In.f ((rd_T69 x257002 x6).f1) 0 40).bind fun t270 => (if t270 = true then (spec_LoopOk.j3 k x3 x4 x6 (decide ((((rd_T69 x257002 x6).f2).length : Int) > ((rd_T69 x257002 x6).f1))) x257000 x257001 x257002 x257003 ((rd_T69 x257002 x6).f0) ((rd_T69 x257002 x6).f1) ((rd_T69 x257002 x6).f2)) else (spec_LoopOk.j3 k x3 x4 x6 true x257000 x257001 x257002 x257003 ((rd_T69 x257002 x6).f0) ((rd_T69 x257002 x6).f1) ((rd_T69 x257002 x6).f2)))) else (spec_LoopOk.j3 k x3 x4 x6 true x257000 x257001 x257002 x257003 ((rd_T69 x257002 x6).f0) ((rd_T69 x257002 x6).f1) ((rd_T69 x257002 x6).f2)))) else (none)) else (spec_LoopOk.l3 k x4 0 x257000 x257001 x257002 x257003)
def spec_LoopOk.j3 : Nat → Int → List Int → Int → Bool → List Int → Int → List (S69) → List (S74) → Int → Int → List Int → Option (Bool)
 | 0, _, _, _, _, _, _, _, _, _, _, _ => none
 | k + 1, x3, x4, x6, x91, x257000, x257001, x257002, x257003, x269000, x269001, x269002 => if x91 = true then (some false) else (spec_LoopOk.l2 k x3 x4 x6 0 x257000 x257001 x257002 x257003 x269000 x269001 x269002)
def spec_LoopOk.l2 : Nat → Int → List Int → Int → Int → List Int → Int → List (S69) → List (S74) → Int → Int → List Int → Option (Bool)
 | 0, _, _, _, _, _, _, _, _, _, _, _ => none
 | k + 1, x3, x4, x6, x8, x257000, x257001, x257002, x257003, x269000, x269001, x269002 => if x8 < x6 then (if 0 ≤ x8 then (if x8 < (x257002.length : Int) then (if ((rd_T69 x257002 x8).f0) = x269000 then (some false) else (spec_LoopOk.l2 k x3 x4 x6 (wrap64 (x8 + 1)) x257000 x257001 x257002 x257003 x269000 x269001 x269002)) else (none)) else (none)) else (if x4.length + x269002.length < 17592186044416 then (spec_LoopOk.l1 k x3 (x4 ++ x269002) (wrap64 (x6 + 1)) x257000 x257001 x257002 x257003) else (none))
def spec_LoopOk.l3 : Nat → List Int → Int → List Int → Int → List (S69) → List (S74) → Option (Bool)
 | 0, _, _, _, _, _, _ => none
 | k + 1, x4, x9, x257000, x257001, x257002, x257003 => if x9 < (x4.length : Int) then (if 0 ≤ x9 then (if (rd x4 x9) < 1 then (some false) else (if x9 ≤ (x4.length : Int) then ((spec_l03Has.f k (x4.take (x9 : Int).toNat) (rd x4 x9)).bind fun t281 => (if t281 = true then (some false) else (spec_LoopOk.l3 k x4 (wrap64 (x9 + 1)) x257000 x257001 x257002 x257003))) else (none))) else (none)) else (spec_LoopOk.l4 k 0 x257000 x257001 x257002 x257003)
def spec_LoopOk.l4 : Nat → Int → List Int → Int → List (S69) → List (S74) → Option (Bool)
 | 0, _, _, _, _, _ => none
 | k + 1, x10, x257000, x257001, x257002, x257003 => if x10 < (x257003.length : Int) then (if 0 ≤ x10 then (if ((rd_T74 x257003 x10).f0) < 1 then (some false) else (spec_LoopOk.l5 k x10 0 x257000 x257001 x257002 x257003 ((rd_T74 x257003 x10).f0) ((rd_T74 x257003 x10).f1))) else (none)) else (some true)
def spec_LoopOk.l5 : Nat → Int → Int → List Int → Int → List (S69) → List (S74) → Int → List Int → Option (Bool)
 | 0, _, _, _, _, _, _, _, _ => none
 | k + 1, x10, x12, x257000, x257001, x257002, x257003, x284000, x284001 => if x12 < x10 then (if 0 ≤ x12 then (if x12 < (x257003.length : Int) then (if ((rd_T74 x257003 x12).f0) = x284000 then (some false) else (spec_LoopOk.l5 k x10 (wrap64 (x12 + 1)) x257000 x257001 x257002 x257003 x284000 x284001)) else (none)) else (none)) else (spec_LoopOk.l6 k x10 0 x257000 x257001 x257002 x257003 x284000 x284001)
def spec_LoopOk.l6 : Nat → Int → Int → List Int → Int → List (S69) → List (S74) → Int → List Int → Option (Bool)
 | 0, _, _, _, _, _, _, _, _ => none
 | k + 1, x10, x13, x257000, x257001, x257002, x257003, x284000, x284001 => if x13 < (x284001.length : Int) then (if 0 ≤ x13 then ((spec_l01In.f (rd x284001 x13) 0 (wrap64 ((x257002.length : Int) - 1))).bind fun t286 => (if t286 = true then (if x13 > 0 then (if 0 ≤ (wrap64 (x13 - 1)) then (if (wrap64 (x13 - 1)) < (x284001.length : Int) then (spec_LoopOk.j9 k x10 x13 (decide ((rd x284001 x13) ≤ (rd x284001 (wrap64 (x13 - 1))))) x257000 x257001 x257002 x257003 x284000 x284001) else (none)) else (none)) else (spec_LoopOk.j9 k x10 x13 false x257000 x257001 x257002 x257003 x284000 x284001)) else (spec_LoopOk.j9 k x10 x13 true x257000 x257001 x257002 x257003 x284000 x284001))) else (none)) else (spec_LoopOk.l4 k (wrap64 (x10 + 1)) x257000 x257001 x257002 x257003)
def spec_LoopOk.j9 : Nat → Int → Int → Bool → List Int → Int → List (S69) → List (S74) → Int → List Int → Option (Bool)
 | 0, _, _, _, _, _, _, _, _, _ => none
 | k + 1, x10, x13, x195, x257000, x257001, x257002, x257003, x284000, x284001 => if x195 = true then (some false) else (spec_LoopOk.l6 k x10 (wrap64 (x13 + 1)) x257000 x257001 x257002 x257003 x284000 x284001)
end
def spec_LoopOk.f (k : Nat) (l0_0 : List Int) (a0_1 : Int) (l0_2 : List (S69)) (l0_3 : List (S74)) : Option (Bool) := (spec_l01In.f (l0_0.length : Int) 2 60).bind fun t257 => (if t257 = true then ((spec_l01In.f a0_1 0 (wrap64 ((l0_0.length : Int) - 1))).bind fun t258 => (if t258 = true then (if (l0_2.length : Int) > 8 then (spec_LoopOk.j0 k (l0_0.length : Int) true l0_0 a0_1 l0_2 l0_3) else (spec_LoopOk.j0 k (l0_0.length : Int) (decide ((l0_3.length : Int) > 60)) l0_0 a0_1 l0_2 l0_3)) else (spec_LoopOk.j0 k (l0_0.length : Int) true l0_0 a0_1 l0_2 l0_3))) else (spec_LoopOk.j0 k (l0_0.length : Int) true l0_0 a0_1 l0_2 l0_3))
set_option maxHeartbeats 8000000 in
set_option maxRecDepth 100000 in
theorem spec_LoopOk.calls (k : Nat) (aq : Option Addr) (an : Nat) (ae : List Int) (a0_1 : Int) (aw : Option Addr) (ao : Nat) (ab : List (S69)) (az : Option Addr) (ap : Nat) (ad : List (S74)) (r : Bool) (w : World) (hm : Kd.C (Kd.int .i64) w aq ae.length ae) (hc0_0 : ae.length ≤ an) (hn : Kd.C k69 w aw ab.length ab) (hc0_2 : ab.length ≤ ao) (hq : Kd.C k74 w az ad.length ad) (hc0_3 : ad.length ≤ ap) (h : spec_LoopOk.f k ae a0_1 ab ad = some r) :
  Calls Try.prog 23 #[.agg #[.slice aq ae.length an, .int .i64 a0_1, .slice aw ab.length ao, .slice az ad.length ap]] w fun e w' => e = .returned (.bool r) ∧ Below w.heap.size w w' := by
 have hu28 := Try.underlying28; have hu69 := Try.underlying69; have hu74 := Try.underlying74; have fH := zK hm; have HC0_0 := zK hc0_0; clear hm hc0_0; have fI := zK hn; have HC0_2 := zK hc0_2; clear hn hc0_2; have eU := zK hq; have HC0_3 := zK hc0_3; clear hq hc0_3
 have HB := zK (Below.refl w.heap.size w)
 have H : ((spec_l01In.f (ae.length : Int) 2 60).bind fun gR => (if gR = true then ((spec_l01In.f a0_1 0 (wrap64 ((ae.length : Int) - 1))).bind fun eH => (if eH = true then (if (ab.length : Int) > 8 then (spec_LoopOk.j0 k (ae.length : Int) true ae a0_1 ab ad) else (spec_LoopOk.j0 k (ae.length : Int) (decide ((ad.length : Int) > 60)) ae a0_1 ab ad)) else (spec_LoopOk.j0 k (ae.length : Int) true ae a0_1 ab ad))) else (spec_LoopOk.j0 k (ae.length : Int) true ae a0_1 ab ad))) = some r := h
 clear h; have HC2 := zK H; clear H
 go_enter Try.func23, Try.ntmps23
 go_upto_region 2 with (first | ((with_reducible refine gate_dst (N := 1) rfl ?_); (try (refine gate_guard (by rfl) ?_; dsimp only)); refine box_event ?hg (N := 1) ?hd (cs := #[.slice aq ae.length an, .int .i64 a0_1, .slice aw ab.length ao, .slice az ad.length ap]) (t := 28) ?hr ?_; (case hd => rfl); (case hg => rfl); (case hr => first | (go_simp; done) | (go_simp; rfl)); intro ac hg w3 hbox hb; have bf := zK (below_step (zb HB) hb); have bg := zK (hbox); have bh := zK ((by rw [hg]; exact (below_size (zb HB)) : w.heap.size ≤ ac)); have bO := zK ((by rw [hg]; exact (below_size (zb HB)) : w.heap.size ≤ ac)); clear HB; have HB := bf; have aa := bg; have hs := bh; have ah := bO; clear bf bg bh bO; clear hb hbox hg; have bp : w3.cell? ⟨ac, 0, none⟩ = some (.slice aq ae.length an) := (blk_cell aa.out 0).trans rfl; have bq : w3.cell? ⟨ac, 1, none⟩ = some (.int .i64 a0_1) := (blk_cell aa.out 1).trans rfl; have br : w3.cell? ⟨ac, 2, none⟩ = some (.slice aw ab.length ao) := (blk_cell aa.out 2).trans rfl; have bs : w3.cell? ⟨ac, 3, none⟩ = some (.slice az ad.length ap) := (blk_cell aa.out 3).trans rfl; have bu := blk_frozen aa.out 0; have bv := blk_frozen aa.out 1; have bw := blk_frozen aa.out 2; have bx := blk_frozen aa.out 3))
 repeat (go_quiet (first | ((with_reducible refine gate_dst (N := 1) rfl ?_); (try (refine gate_guard (by rfl) ?_; dsimp only)); refine box_event ?hg (N := 1) ?hd (cs := #[.slice aq ae.length an, .int .i64 a0_1, .slice aw ab.length ao, .slice az ad.length ap]) (t := 28) ?hr ?_; (case hd => rfl); (case hg => rfl); (case hr => first | (go_simp; done) | (go_simp; rfl)); intro ac hg w3 hbox hb; have bf := zK (below_step (zb HB) hb); have bg := zK (hbox); have bh := zK ((by rw [hg]; exact (below_size (zb HB)) : w.heap.size ≤ ac)); have bO := zK ((by rw [hg]; exact (below_size (zb HB)) : w.heap.size ≤ ac)); clear HB; have HB := bf; have aa := bg; have hs := bh; have ah := bO; clear bf bg bh bO; clear hb hbox hg; have bp : w3.cell? ⟨ac, 0, none⟩ = some (.slice aq ae.length an) := (blk_cell aa.out 0).trans rfl; have bq : w3.cell? ⟨ac, 1, none⟩ = some (.int .i64 a0_1) := (blk_cell aa.out 1).trans rfl; have br : w3.cell? ⟨ac, 2, none⟩ = some (.slice aw ab.length ao) := (blk_cell aa.out 2).trans rfl; have bs : w3.cell? ⟨ac, 3, none⟩ = some (.slice az ad.length ap) := (blk_cell aa.out 3).trans rfl; have bu := blk_frozen aa.out 0; have bv := blk_frozen aa.out 1; have bw := blk_frozen aa.out 2; have bx := blk_frozen aa.out 3)); go_upto_region 2 with (first | ((with_reducible refine gate_dst (N := 1) rfl ?_); (try (refine gate_guard (by rfl) ?_; dsimp only)); refine box_event ?hg (N := 1) ?hd (cs := #[.slice aq ae.length an, .int .i64 a0_1, .slice aw ab.length ao, .slice az ad.length ap]) (t := 28) ?hr ?_; (case hd => rfl); (case hg => rfl); (case hr => first | (go_simp; done) | (go_simp; rfl)); intro ac hg w3 hbox hb; have bf := zK (below_step (zb HB) hb); have bg := zK (hbox); have bh := zK ((by rw [hg]; exact (below_size (zb HB)) : w.heap.size ≤ ac)); have bO := zK ((by rw [hg]; exact (below_size (zb HB)) : w.heap.size ≤ ac)); clear HB; have HB := bf; have aa := bg; have hs := bh; have ah := bO; clear bf bg bh bO; clear hb hbox hg; have bp : w3.cell? ⟨ac, 0, none⟩ = some (.slice aq ae.length an) := (blk_cell aa.out 0).trans rfl; have bq : w3.cell? ⟨ac, 1, none⟩ = some (.int .i64 a0_1) := (blk_cell aa.out 1).trans rfl; have br : w3.cell? ⟨ac, 2, none⟩ = some (.slice aw ab.length ao) := (blk_cell aa.out 2).trans rfl; have bs : w3.cell? ⟨ac, 3, none⟩ = some (.slice az ad.length ap) := (blk_cell aa.out 3).trans rfl; have bu := blk_frozen aa.out 0; have bv := blk_frozen aa.out 1; have bw := blk_frozen aa.out 2; have bx := blk_frozen aa.out 3)))
 (try simp only [Act.put, zp, zq, zr])
 go_cut [39] (fun v39 wc => ∃ (kq : Nat) (eV : Bool), v39 = .bool eV ∧ Aside0 (spec_LoopOk.j0 kq (ae.length : Int) eV ae a0_1 ab ad = some r) ∧ Aside0 (kq ≤ k) ∧ Aside0 (wc.heap[ac]? = some (.cells #[(.slice aq ae.length an), .int .i64 a0_1, (.slice aw ab.length ao), (.slice az ad.length ap)] 28 (0, 0))) ∧ Aside0 (Below w.heap.size w wc))
 case first =>
  have H := HC2.out; clear HC2; replace H := Option.bind_eq_some_iff.mp H
  obtain ⟨gR, A50, H⟩ := H
  replace H : (if gR = true then ((spec_l01In.f a0_1 0 (wrap64 ((ae.length : Int) - 1))).bind fun eH => (if eH = true then (if (ab.length : Int) > 8 then (spec_LoopOk.j0 k (ae.length : Int) true ae a0_1 ab ad) else (spec_LoopOk.j0 k (ae.length : Int) (decide ((ad.length : Int) > 60)) ae a0_1 ab ad)) else (spec_LoopOk.j0 k (ae.length : Int) true ae a0_1 ab ad))) else (spec_LoopOk.j0 k (ae.length : Int) true ae a0_1 ab ad)) = some r := H
  have A5 := zK A50; clear A50
  by_cases c6 : gR = true
  ·subst c6
   have H1 : ((spec_l01In.f a0_1 0 (wrap64 ((ae.length : Int) - 1))).bind fun eH => (if eH = true then (if (ab.length : Int) > 8 then (spec_LoopOk.j0 k (ae.length : Int) true ae a0_1 ab ad) else (spec_LoopOk.j0 k (ae.length : Int) (decide ((ad.length : Int) > 60)) ae a0_1 ab ad)) else (spec_LoopOk.j0 k (ae.length : Int) true ae a0_1 ab ad))) = some r := by rw [if_pos rfl] at H; exact H
   clear H; have H := H1; clear H1; replace H := Option.bind_eq_some_iff.mp H
   obtain ⟨eH, A70, H⟩ := H
   replace H : (if eH = true then (if (ab.length : Int) > 8 then (spec_LoopOk.j0 k (ae.length : Int) true ae a0_1 ab ad) else (spec_LoopOk.j0 k (ae.length : Int) (decide ((ad.length : Int) > 60)) ae a0_1 ab ad)) else (spec_LoopOk.j0 k (ae.length : Int) true ae a0_1 ab ad)) = some r := H
   have A7 := zK A70; clear A70
   by_cases c8 : eH = true
   ·subst c8
    have H1 : (if (ab.length : Int) > 8 then (spec_LoopOk.j0 k (ae.length : Int) true ae a0_1 ab ad) else (spec_LoopOk.j0 k (ae.length : Int) (decide ((ad.length : Int) > 60)) ae a0_1 ab ad)) = some r := by rw [if_pos rfl] at H; exact H
    clear H; have H := H1; clear H1
    by_cases c9 : (ab.length : Int) > 8
    ·rw [if_pos c9] at H
     have cz : decide (8 < (ab.length : Int)) = true := decide_eq_true c9
     have d1 : decide (8 < ab.length) = true := decide_eq_true (by omega)
     clear c9
     (first | rw [cz] | (simp only [i64_w, i32_w]; rw [cz]) | skip)
     have H' := zK H; clear H
     go_wp2_with (first | (go_at_call 62; (with_reducible refine (spec_l01In.calls (ae.length : Int) 2 60 true _ A5.out).mono ?_); rintro e w' ⟨rfl, ⟨nd, rfl⟩⟩; (try first | exact ⟨rfl, _, World.drewN_drewN _ _ _⟩ | exact ⟨rfl, _, Eq.trans (World.drewN_drewN _ _ _) (congrArg (World.drewN _) (Nat.add_assoc _ _ _))⟩); have aI : w3.cell? ⟨ac, 0, none⟩ = some (.slice aq ae.length an) := (blk_cell aa.out 0).trans rfl; have aJ : w3.cell? ⟨ac, 1, none⟩ = some (.int .i64 a0_1) := (blk_cell aa.out 1).trans rfl; have aK : w3.cell? ⟨ac, 2, none⟩ = some (.slice aw ab.length ao) := (blk_cell aa.out 2).trans rfl; have aM : w3.cell? ⟨ac, 3, none⟩ = some (.slice az ad.length ap) := (blk_cell aa.out 3).trans rfl; have aN := blk_frozen aa.out 0; have aQ := blk_frozen aa.out 1; have aT := blk_frozen aa.out 2; have aU := blk_frozen aa.out 3) | (go_at_call 62; (with_reducible refine (spec_l01In.calls a0_1 0 (wrap64 ((ae.length : Int) - 1)) true _ A7.out).mono ?_); rintro e w' ⟨rfl, ⟨nd, rfl⟩⟩; (try first | exact ⟨rfl, _, World.drewN_drewN _ _ _⟩ | exact ⟨rfl, _, Eq.trans (World.drewN_drewN _ _ _) (congrArg (World.drewN _) (Nat.add_assoc _ _ _))⟩)))
     repeat (go_quiet (first | (go_at_call 62; (with_reducible refine (spec_l01In.calls (ae.length : Int) 2 60 true _ A5.out).mono ?_); rintro e w' ⟨rfl, ⟨nd, rfl⟩⟩; (try first | exact ⟨rfl, _, World.drewN_drewN _ _ _⟩ | exact ⟨rfl, _, Eq.trans (World.drewN_drewN _ _ _) (congrArg (World.drewN _) (Nat.add_assoc _ _ _))⟩); have aI : w3.cell? ⟨ac, 0, none⟩ = some (.slice aq ae.length an) := (blk_cell aa.out 0).trans rfl; have aJ : w3.cell? ⟨ac, 1, none⟩ = some (.int .i64 a0_1) := (blk_cell aa.out 1).trans rfl; have aK : w3.cell? ⟨ac, 2, none⟩ = some (.slice aw ab.length ao) := (blk_cell aa.out 2).trans rfl; have aM : w3.cell? ⟨ac, 3, none⟩ = some (.slice az ad.length ap) := (blk_cell aa.out 3).trans rfl; have aN := blk_frozen aa.out 0; have aQ := blk_frozen aa.out 1; have aT := blk_frozen aa.out 2; have aU := blk_frozen aa.out 3) | (go_at_call 62; (with_reducible refine (spec_l01In.calls a0_1 0 (wrap64 ((ae.length : Int) - 1)) true _ A7.out).mono ?_); rintro e w' ⟨rfl, ⟨nd, rfl⟩⟩; (try first | exact ⟨rfl, _, World.drewN_drewN _ _ _⟩ | exact ⟨rfl, _, Eq.trans (World.drewN_drewN _ _ _) (congrArg (World.drewN _) (Nat.add_assoc _ _ _))⟩))); try go_wp2_with (first | (go_at_call 62; (with_reducible refine (spec_l01In.calls (ae.length : Int) 2 60 true _ A5.out).mono ?_); rintro e w' ⟨rfl, ⟨nd, rfl⟩⟩; (try first | exact ⟨rfl, _, World.drewN_drewN _ _ _⟩ | exact ⟨rfl, _, Eq.trans (World.drewN_drewN _ _ _) (congrArg (World.drewN _) (Nat.add_assoc _ _ _))⟩); have aI : w3.cell? ⟨ac, 0, none⟩ = some (.slice aq ae.length an) := (blk_cell aa.out 0).trans rfl; have aJ : w3.cell? ⟨ac, 1, none⟩ = some (.int .i64 a0_1) := (blk_cell aa.out 1).trans rfl; have aK : w3.cell? ⟨ac, 2, none⟩ = some (.slice aw ab.length ao) := (blk_cell aa.out 2).trans rfl; have aM : w3.cell? ⟨ac, 3, none⟩ = some (.slice az ad.length ap) := (blk_cell aa.out 3).trans rfl; have aN := blk_frozen aa.out 0; have aQ := blk_frozen aa.out 1; have aT := blk_frozen aa.out 2; have aU := blk_frozen aa.out 3) | (go_at_call 62; (with_reducible refine (spec_l01In.calls a0_1 0 (wrap64 ((ae.length : Int) - 1)) true _ A7.out).mono ?_); rintro e w' ⟨rfl, ⟨nd, rfl⟩⟩; (try first | exact ⟨rfl, _, World.drewN_drewN _ _ _⟩ | exact ⟨rfl, _, Eq.trans (World.drewN_drewN _ _ _) (congrArg (World.drewN _) (Nat.add_assoc _ _ _))⟩))))
     go_meet
     case rel => exact ⟨_, (true), (by first | rfl | (simp; done) | (simp [*]; done)), H', ⟨by first | omega | exact Nat.le_refl _⟩, ⟨zk aa⟩, ⟨zb HB⟩⟩
    ·rw [if_neg c9] at H
     have cz : decide (8 < (ab.length : Int)) = false := decide_eq_false c9
     have d1 : decide (8 < ab.length) = false := decide_eq_false (by omega)
     clear c9
     (first | rw [cz] | (simp only [i64_w, i32_w]; rw [cz]) | skip)
     have H' := zK H; clear H
     go_wp2_with (first | (go_at_call 62; (with_reducible refine (spec_l01In.calls (ae.length : Int) 2 60 true _ A5.out).mono ?_); rintro e w' ⟨rfl, ⟨nd, rfl⟩⟩; (try first | exact ⟨rfl, _, World.drewN_drewN _ _ _⟩ | exact ⟨rfl, _, Eq.trans (World.drewN_drewN _ _ _) (congrArg (World.drewN _) (Nat.add_assoc _ _ _))⟩); have aV : w3.cell? ⟨ac, 0, none⟩ = some (.slice aq ae.length an) := (blk_cell aa.out 0).trans rfl; have aW : w3.cell? ⟨ac, 1, none⟩ = some (.int .i64 a0_1) := (blk_cell aa.out 1).trans rfl; have aX : w3.cell? ⟨ac, 2, none⟩ = some (.slice aw ab.length ao) := (blk_cell aa.out 2).trans rfl; have aY : w3.cell? ⟨ac, 3, none⟩ = some (.slice az ad.length ap) := (blk_cell aa.out 3).trans rfl; have aZ := blk_frozen aa.out 0; have a0 := blk_frozen aa.out 1; have a1 := blk_frozen aa.out 2; have a2 := blk_frozen aa.out 3) | (go_at_call 62; (with_reducible refine (spec_l01In.calls a0_1 0 (wrap64 ((ae.length : Int) - 1)) true _ A7.out).mono ?_); rintro e w' ⟨rfl, ⟨nd, rfl⟩⟩; (try first | exact ⟨rfl, _, World.drewN_drewN _ _ _⟩ | exact ⟨rfl, _, Eq.trans (World.drewN_drewN _ _ _) (congrArg (World.drewN _) (Nat.add_assoc _ _ _))⟩)))
     repeat (go_quiet (first | (go_at_call 62; (with_reducible refine (spec_l01In.calls (ae.length : Int) 2 60 true _ A5.out).mono ?_); rintro e w' ⟨rfl, ⟨nd, rfl⟩⟩; (try first | exact ⟨rfl, _, World.drewN_drewN _ _ _⟩ | exact ⟨rfl, _, Eq.trans (World.drewN_drewN _ _ _) (congrArg (World.drewN _) (Nat.add_assoc _ _ _))⟩); have aV : w3.cell? ⟨ac, 0, none⟩ = some (.slice aq ae.length an) := (blk_cell aa.out 0).trans rfl; have aW : w3.cell? ⟨ac, 1, none⟩ = some (.int .i64 a0_1) := (blk_cell aa.out 1).trans rfl; have aX : w3.cell? ⟨ac, 2, none⟩ = some (.slice aw ab.length ao) := (blk_cell aa.out 2).trans rfl; have aY : w3.cell? ⟨ac, 3, none⟩ = some (.slice az ad.length ap) := (blk_cell aa.out 3).trans rfl; have aZ := blk_frozen aa.out 0; have a0 := blk_frozen aa.out 1; have a1 := blk_frozen aa.out 2; have a2 := blk_frozen aa.out 3) | (go_at_call 62; (with_reducible refine (spec_l01In.calls a0_1 0 (wrap64 ((ae.length : Int) - 1)) true _ A7.out).mono ?_); rintro e w' ⟨rfl, ⟨nd, rfl⟩⟩; (try first | exact ⟨rfl, _, World.drewN_drewN _ _ _⟩ | exact ⟨rfl, _, Eq.trans (World.drewN_drewN _ _ _) (congrArg (World.drewN _) (Nat.add_assoc _ _ _))⟩))); try go_wp2_with (first | (go_at_call 62; (with_reducible refine (spec_l01In.calls (ae.length : Int) 2 60 true _ A5.out).mono ?_); rintro e w' ⟨rfl, ⟨nd, rfl⟩⟩; (try first | exact ⟨rfl, _, World.drewN_drewN _ _ _⟩ | exact ⟨rfl, _, Eq.trans (World.drewN_drewN _ _ _) (congrArg (World.drewN _) (Nat.add_assoc _ _ _))⟩); have aV : w3.cell? ⟨ac, 0, none⟩ = some (.slice aq ae.length an) := (blk_cell aa.out 0).trans rfl; have aW : w3.cell? ⟨ac, 1, none⟩ = some (.int .i64 a0_1) := (blk_cell aa.out 1).trans rfl; have aX : w3.cell? ⟨ac, 2, none⟩ = some (.slice aw ab.length ao) := (blk_cell aa.out 2).trans rfl; have aY : w3.cell? ⟨ac, 3, none⟩ = some (.slice az ad.length ap) := (blk_cell aa.out 3).trans rfl; have aZ := blk_frozen aa.out 0; have a0 := blk_frozen aa.out 1; have a1 := blk_frozen aa.out 2; have a2 := blk_frozen aa.out 3) | (go_at_call 62; (with_reducible refine (spec_l01In.calls a0_1 0 (wrap64 ((ae.length : Int) - 1)) true _ A7.out).mono ?_); rintro e w' ⟨rfl, ⟨nd, rfl⟩⟩; (try first | exact ⟨rfl, _, World.drewN_drewN _ _ _⟩ | exact ⟨rfl, _, Eq.trans (World.drewN_drewN _ _ _) (congrArg (World.drewN _) (Nat.add_assoc _ _ _))⟩))))
     go_meet
     case rel => exact ⟨_, (decide ((ad.length : Int) > 60)), (by first | rfl | (simp; done) | (simp [*]; done)), H', ⟨by first | omega | exact Nat.le_refl _⟩, ⟨zk aa⟩, ⟨zb HB⟩⟩
   ·replace c8 := Bool.eq_false_iff.mpr c8
    subst c8
    have H1 : (spec_LoopOk.j0 k (ae.length : Int) true ae a0_1 ab ad) = some r := by rw [if_neg (show ¬ (false = true) by decide)] at H; exact H
    clear H; have H := H1; clear H1; have H' := zK H; clear H
    go_wp2_with (first | (go_at_call 62; (with_reducible refine (spec_l01In.calls (ae.length : Int) 2 60 true _ A5.out).mono ?_); rintro e w' ⟨rfl, ⟨nd, rfl⟩⟩; (try first | exact ⟨rfl, _, World.drewN_drewN _ _ _⟩ | exact ⟨rfl, _, Eq.trans (World.drewN_drewN _ _ _) (congrArg (World.drewN _) (Nat.add_assoc _ _ _))⟩); have a3 : w3.cell? ⟨ac, 0, none⟩ = some (.slice aq ae.length an) := (blk_cell aa.out 0).trans rfl; have a4 : w3.cell? ⟨ac, 1, none⟩ = some (.int .i64 a0_1) := (blk_cell aa.out 1).trans rfl; have a5 : w3.cell? ⟨ac, 2, none⟩ = some (.slice aw ab.length ao) := (blk_cell aa.out 2).trans rfl; have a6 : w3.cell? ⟨ac, 3, none⟩ = some (.slice az ad.length ap) := (blk_cell aa.out 3).trans rfl; have a7 := blk_frozen aa.out 0; have a8 := blk_frozen aa.out 1; have a9 := blk_frozen aa.out 2; have ba := blk_frozen aa.out 3) | (go_at_call 62; (with_reducible refine (spec_l01In.calls a0_1 0 (wrap64 ((ae.length : Int) - 1)) false _ A7.out).mono ?_); rintro e w' ⟨rfl, ⟨nd, rfl⟩⟩; (try first | exact ⟨rfl, _, World.drewN_drewN _ _ _⟩ | exact ⟨rfl, _, Eq.trans (World.drewN_drewN _ _ _) (congrArg (World.drewN _) (Nat.add_assoc _ _ _))⟩)))
    repeat (go_quiet (first | (go_at_call 62; (with_reducible refine (spec_l01In.calls (ae.length : Int) 2 60 true _ A5.out).mono ?_); rintro e w' ⟨rfl, ⟨nd, rfl⟩⟩; (try first | exact ⟨rfl, _, World.drewN_drewN _ _ _⟩ | exact ⟨rfl, _, Eq.trans (World.drewN_drewN _ _ _) (congrArg (World.drewN _) (Nat.add_assoc _ _ _))⟩); have a3 : w3.cell? ⟨ac, 0, none⟩ = some (.slice aq ae.length an) := (blk_cell aa.out 0).trans rfl; have a4 : w3.cell? ⟨ac, 1, none⟩ = some (.int .i64 a0_1) := (blk_cell aa.out 1).trans rfl; have a5 : w3.cell? ⟨ac, 2, none⟩ = some (.slice aw ab.length ao) := (blk_cell aa.out 2).trans rfl; have a6 : w3.cell? ⟨ac, 3, none⟩ = some (.slice az ad.length ap) := (blk_cell aa.out 3).trans rfl; have a7 := blk_frozen aa.out 0; have a8 := blk_frozen aa.out 1; have a9 := blk_frozen aa.out 2; have ba := blk_frozen aa.out 3) | (go_at_call 62; (with_reducible refine (spec_l01In.calls a0_1 0 (wrap64 ((ae.length : Int) - 1)) false _ A7.out).mono ?_); rintro e w' ⟨rfl, ⟨nd, rfl⟩⟩; (try first | exact ⟨rfl, _, World.drewN_drewN _ _ _⟩ | exact ⟨rfl, _, Eq.trans (World.drewN_drewN _ _ _) (congrArg (World.drewN _) (Nat.add_assoc _ _ _))⟩))); try go_wp2_with (first | (go_at_call 62; (with_reducible refine (spec_l01In.calls (ae.length : Int) 2 60 true _ A5.out).mono ?_); rintro e w' ⟨rfl, ⟨nd, rfl⟩⟩; (try first | exact ⟨rfl, _, World.drewN_drewN _ _ _⟩ | exact ⟨rfl, _, Eq.trans (World.drewN_drewN _ _ _) (congrArg (World.drewN _) (Nat.add_assoc _ _ _))⟩); have a3 : w3.cell? ⟨ac, 0, none⟩ = some (.slice aq ae.length an) := (blk_cell aa.out 0).trans rfl; have a4 : w3.cell? ⟨ac, 1, none⟩ = some (.int .i64 a0_1) := (blk_cell aa.out 1).trans rfl; have a5 : w3.cell? ⟨ac, 2, none⟩ = some (.slice aw ab.length ao) := (blk_cell aa.out 2).trans rfl; have a6 : w3.cell? ⟨ac, 3, none⟩ = some (.slice az ad.length ap) := (blk_cell aa.out 3).trans rfl; have a7 := blk_frozen aa.out 0; have a8 := blk_frozen aa.out 1; have a9 := blk_frozen aa.out 2; have ba := blk_frozen aa.out 3) | (go_at_call 62; (with_reducible refine (spec_l01In.calls a0_1 0 (wrap64 ((ae.length : Int) - 1)) false _ A7.out).mono ?_); rintro e w' ⟨rfl, ⟨nd, rfl⟩⟩; (try first | exact ⟨rfl, _, World.drewN_drewN _ _ _⟩ | exact ⟨rfl, _, Eq.trans (World.drewN_drewN _ _ _) (congrArg (World.drewN _) (Nat.add_assoc _ _ _))⟩))))
    go_meet
    case rel => exact ⟨_, (true), (by first | rfl | (simp; done) | (simp [*]; done)), H', ⟨by first | omega | exact Nat.le_refl _⟩, ⟨zk aa⟩, ⟨zb HB⟩⟩
  ·replace c6 := Bool.eq_false_iff.mpr c6
   subst c6
   have H1 : (spec_LoopOk.j0 k (ae.length : Int) true ae a0_1 ab ad) = some r := by rw [if_neg (show ¬ (false = true) by decide)] at H; exact H
   clear H; have H := H1; clear H1; have H' := zK H; clear H
   go_wp2_with (first | (go_at_call 62; (with_reducible refine (spec_l01In.calls (ae.length : Int) 2 60 false _ A5.out).mono ?_); rintro e w' ⟨rfl, ⟨nd, rfl⟩⟩; (try first | exact ⟨rfl, _, World.drewN_drewN _ _ _⟩ | exact ⟨rfl, _, Eq.trans (World.drewN_drewN _ _ _) (congrArg (World.drewN _) (Nat.add_assoc _ _ _))⟩)))
   repeat (go_quiet (first | (go_at_call 62; (with_reducible refine (spec_l01In.calls (ae.length : Int) 2 60 false _ A5.out).mono ?_); rintro e w' ⟨rfl, ⟨nd, rfl⟩⟩; (try first | exact ⟨rfl, _, World.drewN_drewN _ _ _⟩ | exact ⟨rfl, _, Eq.trans (World.drewN_drewN _ _ _) (congrArg (World.drewN _) (Nat.add_assoc _ _ _))⟩))); try go_wp2_with (first | (go_at_call 62; (with_reducible refine (spec_l01In.calls (ae.length : Int) 2 60 false _ A5.out).mono ?_); rintro e w' ⟨rfl, ⟨nd, rfl⟩⟩; (try first | exact ⟨rfl, _, World.drewN_drewN _ _ _⟩ | exact ⟨rfl, _, Eq.trans (World.drewN_drewN _ _ _) (congrArg (World.drewN _) (Nat.add_assoc _ _ _))⟩))))
   go_meet
   case rel => exact ⟨_, (true), (by first | rfl | (simp; done) | (simp [*]; done)), H', ⟨by first | omega | exact Nat.le_refl _⟩, ⟨zk aa⟩, ⟨zb HB⟩⟩
 case rest =>
  clear HC2
  try clear c2
  try clear p2
  try clear c6
  try clear p6
  try clear c8
  try clear c9
  try clear cz
  try clear d1
  try clear aI
  try clear aJ
  try clear aK
  try clear aM
  try clear aV
  try clear aW
  try clear aX
  try clear aY
  try clear a3
  try clear a4
  try clear a5
  try clear a6
  try clear bp
  try clear bq
  try clear br
  try clear bs
  try clear aN
  try clear aQ
  try clear aT
  try clear aU
  try clear aZ
  try clear a0
  try clear a1
  try clear a2
  try clear a7
  try clear a8
  try clear a9
  try clear ba
  try clear bu
  try clear bv
  try clear bw
  try clear bx
  obtain ⟨kq, eV, rfl, HA, d9, aa, HB⟩ := hcut
  cases kq with
  | zero => exact absurd HA.out (by simp [spec_LoopOk.j0])
  | succ kj1 =>
   have H := HA.out; clear HA
   simp only [spec_LoopOk.j0] at H
   by_cases fx : eV = true
   ·subst fx
    have H1 : (some false) = some r := by rw [if_pos rfl] at H; exact H
    clear H; have H := H1; clear H1; obtain rfl := Option.some.inj H
    go_wp2
    repeat (go_quiet (fail); try go_wp2)
    go_ret
    exact ⟨by first | rfl | (simp [errW_none, errW_some] <;> rfl) | (simp [*, errW_none, errW_some] <;> rfl), by repeat (first | (with_reducible first | exact HB.out | apply zB | apply zC | apply zE | refine zS ?_ ah.out) | exact HB.out)⟩
   ·replace fx := Bool.eq_false_iff.mpr fx
    subst fx
    have H1 : (spec_LoopOk.l0 kj1 (ae.length : Int) (([] : List Int)) 0 ae a0_1 ab ad) = some r := by rw [if_neg (show ¬ (false = true) by decide)] at H; exact H
    clear H; have H := H1; clear H1
    obtain ⟨iw, eI⟩ : ∃ y_ : List Int, y_ = (([] : List Int)) := ⟨_, rfl⟩
    replace H : (spec_LoopOk.l0 kj1 (ae.length : Int) iw 0 ae a0_1 ab ad) = some r := by first | (rw [eI]; with_reducible exact H) | (have H2_ := (Option.bind_some _ _).symm.trans H; rw [eI]; with_reducible exact H2_) | (have H2_ := (Option.bind_some _ _).symm.trans H; with_reducible exact H2_) | with_reducible exact H | (rw [eI]; exact H) | exact H
    have Ny259 := zK eI; clear eI; have H' := zK H; clear H
    go_wp2_with (first | ((with_reducible refine gate_dst (N := 40) rfl ?_); (try (refine gate_guard (by rfl) ?_; dsimp only)); refine Kd.R_lit (Kd.int .i64) _ 3 ?hg (N := 40) ?hd (xs := ([] : List Int)) (inner := []) (ok := fun _ => True) (okp := fun _ => True) ?hr ?hp (fun _ hk => hk) trivial (Below.refl _ _) (Nat.le_refl _) (by simp) ?_; (case hd => rfl); (case hg => rfl); (case hr => first | (go_simp; done) | (go_simp; rfl)); (case hp => exact (Reps.none _ _)); intro ix w14 ho15 hb hg_ hnew_; clear hg_ hnew_; (first | rw [← Ny259.out] at ho15 | (simp only [Int.reduceToNat] at ho15; rw [← Ny259.out] at ho15)); have bf := zK (Kd.R_lower ho15 (below_size (zb HB))); have bg := zK (blk_below (g := ac) (o := .cells #[.slice aq ae.length an, .int .i64 a0_1, .slice aw ab.length ao, .slice az ad.length ap] 28 (0, 0)) (zk aa) hb); have bh := zK (below_step (zb HB) hb); clear aa; clear HB; have fJ := bf; have aa := bg; have HB := bh; clear bf bg bh; clear hb ho15))
    repeat (go_quiet (first | ((with_reducible refine gate_dst (N := 40) rfl ?_); (try (refine gate_guard (by rfl) ?_; dsimp only)); refine Kd.R_lit (Kd.int .i64) _ 3 ?hg (N := 40) ?hd (xs := ([] : List Int)) (inner := []) (ok := fun _ => True) (okp := fun _ => True) ?hr ?hp (fun _ hk => hk) trivial (Below.refl _ _) (Nat.le_refl _) (by simp) ?_; (case hd => rfl); (case hg => rfl); (case hr => first | (go_simp; done) | (go_simp; rfl)); (case hp => exact (Reps.none _ _)); intro ix w14 ho15 hb hg_ hnew_; clear hg_ hnew_; (first | rw [← Ny259.out] at ho15 | (simp only [Int.reduceToNat] at ho15; rw [← Ny259.out] at ho15)); have bf := zK (Kd.R_lower ho15 (below_size (zb HB))); have bg := zK (blk_below (g := ac) (o := .cells #[.slice aq ae.length an, .int .i64 a0_1, .slice aw ab.length ao, .slice az ad.length ap] 28 (0, 0)) (zk aa) hb); have bh := zK (below_step (zb HB) hb); clear aa; clear HB; have fJ := bf; have aa := bg; have HB := bh; clear bf bg bh; clear hb ho15)); try go_wp2_with (first | ((with_reducible refine gate_dst (N := 40) rfl ?_); (try (refine gate_guard (by rfl) ?_; dsimp only)); refine Kd.R_lit (Kd.int .i64) _ 3 ?hg (N := 40) ?hd (xs := ([] : List Int)) (inner := []) (ok := fun _ => True) (okp := fun _ => True) ?hr ?hp (fun _ hk => hk) trivial (Below.refl _ _) (Nat.le_refl _) (by simp) ?_; (case hd => rfl); (case hg => rfl); (case hr => first | (go_simp; done) | (go_simp; rfl)); (case hp => exact (Reps.none _ _)); intro ix w14 ho15 hb hg_ hnew_; clear hg_ hnew_; (first | rw [← Ny259.out] at ho15 | (simp only [Int.reduceToNat] at ho15; rw [← Ny259.out] at ho15)); have bf := zK (Kd.R_lower ho15 (below_size (zb HB))); have bg := zK (blk_below (g := ac) (o := .cells #[.slice aq ae.length an, .int .i64 a0_1, .slice aw ab.length ao, .slice az ad.length ap] 28 (0, 0)) (zk aa) hb); have bh := zK (below_step (zb HB) hb); clear aa; clear HB; have fJ := bf; have aa := bg; have HB := bh; clear bf bg bh; clear hb ho15)))
    go_loopg [4, 5] kj1 (fun kq v4 v5 w' => ∃ (eb : List Int) (aG : Int), v5 = .int .i64 aG ∧ Aside0 (spec_LoopOk.l0 kq (ae.length : Int) eb aG ae a0_1 ab ad = some r) ∧ Aside0 (kq ≤ kj1) ∧ Aside0 (Kd.R (Kd.int .i64) 3 w' w.heap.size (fun _ => True) v4 eb) ∧ Aside0 (w'.heap[ac]? = some (.cells #[(.slice aq ae.length an), .int .i64 a0_1, (.slice aw ab.length ao), (.slice az ad.length ap)] 28 (0, 0))) ∧ Aside0 (Below w.heap.size w w'))
    case atStart => exact ⟨(iw), (0), (by first | rfl | (simp; done) | (simp [*]; done)), H', ⟨Nat.le_refl _⟩, ⟨zR fJ⟩, ⟨zk aa⟩, ⟨zb HB⟩⟩
    case round =>
     clear H'
     try clear c1
     try clear c2
     try clear p2
     try clear c6
     try clear p6
     try clear c8
     try clear c9
     try clear cz
     try clear d1
     try clear fx
     try clear aI
     try clear aJ
     try clear aK
     try clear aM
     try clear aV
     try clear aW
     try clear aX
     try clear aY
     try clear a3
     try clear a4
     try clear a5
     try clear a6
     try clear bp
     try clear bq
     try clear br
     try clear bs
     try clear aN
     try clear aQ
     try clear aT
     try clear aU
     try clear aZ
     try clear a0
     try clear a1
     try clear a2
     try clear a7
     try clear a8
     try clear a9
     try clear ba
     try clear bu
     try clear bv
     try clear bw
     try clear bx
     try clear p2
     try clear p6
     obtain ⟨eb, aG, rfl, HA, ea, ay, aa, HB⟩ := hrel
     cases gk with
     | zero => exact absurd HA.out (by simp [spec_LoopOk.l0])
     | succ k2 =>
      have H := HA.out; clear HA
      simp only [spec_LoopOk.l0] at H
      by_cases eW : aG < (ae.length : Int)
      ·rw [if_pos eW] at H
       have cE : decide (aG < (ae.length : Int)) = true := decide_eq_true eW
       clear eW
       by_cases fB : 0 ≤ aG
       ·rw [if_pos fB] at H
        have dM : decide (0 ≤ aG) = true := decide_eq_true fB
        clear fB
        by_cases fC : aG < (ae.length : Int)
        ·rw [if_pos fC] at H
         have dN : decide (aG < (ae.length : Int)) = true := decide_eq_true fC
         clear fC
         by_cases eT : (rd ae aG) = 0
         ·rw [if_pos eT] at H
          have cF : ((rd ae aG) == 0) = true := beq_iff_eq.mpr eT
          have cG : ((rd ae aG) != 0) = false := bne_eq_false_iff_eq.mpr eT
          clear eT; have H' := zK H; clear H
          have bP : wr.cell? ⟨ac, 0, none⟩ = some (.slice aq ae.length an) := (blk_cell aa.out 0).trans rfl
          have bQ : wr.cell? ⟨ac, 1, none⟩ = some (.int .i64 a0_1) := (blk_cell aa.out 1).trans rfl
          have bR : wr.cell? ⟨ac, 2, none⟩ = some (.slice aw ab.length ao) := (blk_cell aa.out 2).trans rfl
          have bS : wr.cell? ⟨ac, 3, none⟩ = some (.slice az ad.length ap) := (blk_cell aa.out 3).trans rfl
          have bT := blk_frozen aa.out 0; have bU := blk_frozen aa.out 1; have bV := blk_frozen aa.out 2; have bW := blk_frozen aa.out 3
          have cA : 0 ≤ (aG : Int) := zd
          have cB : aG < (ae.length : Int) := zd
          obtain ⟨eJ, hO, aE⟩ := Kd.at_int fH.out aG cA cB
          cases hO
          replace aE := (HB.out.cell (World.block_lt_of_cell? w _ aE)).trans aE
          replace cA := eq_true cA; replace cB := eq_true cB
          go_wp2
          repeat (go_quiet (fail); try go_wp2)
          go_roundg k2
          case measure => have := d9.out; have := ea.out; omega
          case rel => exact ⟨(eb), (wrap64 (aG + 1)), (by first | rfl | (simp; done) | (simp [*]; done)), H', ⟨by have := d9.out; have := ea.out; omega⟩, ⟨zR ay⟩, ⟨zk aa⟩, ⟨zb HB⟩⟩
         ·rw [if_neg eT] at H
          have cF : ((rd ae aG) == 0) = false := beq_eq_false_iff_ne.mpr eT
          have cG : ((rd ae aG) != 0) = true := bne_iff_ne.mpr eT
          by_cases fD : eb.length < 17592186044416
          ·rw [if_pos fD] at H
           have fK := zK fD; clear fD
           obtain ⟨iy, eK⟩ : ∃ y_ : List Int, y_ = (eb ++ [rd ae aG]) := ⟨_, rfl⟩
           replace H : (spec_LoopOk.l0 k2 (ae.length : Int) iy (wrap64 (aG + 1)) ae a0_1 ab ad) = some r := by first | (rw [eK]; with_reducible exact H) | (have H2_ := (Option.bind_some _ _).symm.trans H; rw [eK]; with_reducible exact H2_) | (have H2_ := (Option.bind_some _ _).symm.trans H; with_reducible exact H2_) | with_reducible exact H | (rw [eK]; exact H) | exact H
           have Ny264 := zK eK; clear eK; have H' := zK H; clear H
           have bX : wr.cell? ⟨ac, 0, none⟩ = some (.slice aq ae.length an) := (blk_cell aa.out 0).trans rfl
           have bY : wr.cell? ⟨ac, 1, none⟩ = some (.int .i64 a0_1) := (blk_cell aa.out 1).trans rfl
           have bZ : wr.cell? ⟨ac, 2, none⟩ = some (.slice aw ab.length ao) := (blk_cell aa.out 2).trans rfl
           have b0 : wr.cell? ⟨ac, 3, none⟩ = some (.slice az ad.length ap) := (blk_cell aa.out 3).trans rfl
           have b1 := blk_frozen aa.out 0; have b2 := blk_frozen aa.out 1; have b3 := blk_frozen aa.out 2; have b4 := blk_frozen aa.out 3
           have cA : 0 ≤ (aG : Int) := zd
           have cB : aG < (ae.length : Int) := zd
           obtain ⟨eJ, hO, aE⟩ := Kd.at_int fH.out aG cA cB
           cases hO
           replace aE := (HB.out.cell (World.block_lt_of_cell? w _ aE)).trans aE
           replace cA := eq_true cA; replace cB := eq_true cB
           have d2 : 0 ≤ (aG : Int) := zd
           have d3 : aG < (ae.length : Int) := zd
           obtain ⟨iz, e263, bi⟩ := Kd.at_int fH.out aG d2 d3
           obtain rfl : eJ = iz := (by injection e263)
           replace bi := (HB.out.cell (World.block_lt_of_cell? w _ bi)).trans bi
           replace d2 := eq_true d2; replace d3 := eq_true d3
           go_wp2_with (first | ((with_reducible refine gate_builtin (b := .append) (xs := #[.tmp 52, .tmp 58]) rfl ?_); (try (refine gate_guard (by rfl) ?_; dsimp only)); at_builtin; refine Kd.R_append (Kd.int .i64) (w0 := w) w.heap.size rfl (.tmp 52) (.tmp 58) 24 3 (.int .i64 0) 8 rfl Try.underlying24 info3 rfl (by decide) (by omega) u4 eb (rd ae aG) [.int .i64 (rd ae aG)] (fun _ => True) (fun _ => False) rfl rfl ?aP (fun _ hk => hk.elim) ?aF ?aO ?aB ?aS ?aL ?_; (case aP => exact rfl); (case aB => exact (zb HB)); (case aF => exact (fun _ _ => trivial)); (case aO => exact (zR ay)); (case aS => exact (below_size (zb HB))); (case aL => have := fK.out; omega); intro iA w23 ho hb hg hat; rw [← Ny264.out] at ho; have bf := zK (blk_grown (g := ac) (o := .cells #[.slice (some eJ) ae.length an, .int .i64 a0_1, .slice aw ab.length ao, .slice az ad.length ap] 28 (0, 0)) (zk aa) hg (Kd.R_ne ay.out aa.out (by decide))); have bg := zK (hb); have bh := zK (ho); clear aa; clear HB; clear ay; have aa := bf; have HB := bg; have fL := bh; clear bf bg bh; clear ho hb hg hat))
           repeat (go_quiet (first | ((with_reducible refine gate_builtin (b := .append) (xs := #[.tmp 52, .tmp 58]) rfl ?_); (try (refine gate_guard (by rfl) ?_; dsimp only)); at_builtin; refine Kd.R_append (Kd.int .i64) (w0 := w) w.heap.size rfl (.tmp 52) (.tmp 58) 24 3 (.int .i64 0) 8 rfl Try.underlying24 info3 rfl (by decide) (by omega) u4 eb (rd ae aG) [.int .i64 (rd ae aG)] (fun _ => True) (fun _ => False) rfl rfl ?aP (fun _ hk => hk.elim) ?aF ?aO ?aB ?aS ?aL ?_; (case aP => exact rfl); (case aB => exact (zb HB)); (case aF => exact (fun _ _ => trivial)); (case aO => exact (zR ay)); (case aS => exact (below_size (zb HB))); (case aL => have := fK.out; omega); intro iA w23 ho hb hg hat; rw [← Ny264.out] at ho; have bf := zK (blk_grown (g := ac) (o := .cells #[.slice (some eJ) ae.length an, .int .i64 a0_1, .slice aw ab.length ao, .slice az ad.length ap] 28 (0, 0)) (zk aa) hg (Kd.R_ne ay.out aa.out (by decide))); have bg := zK (hb); have bh := zK (ho); clear aa; clear HB; clear ay; have aa := bf; have HB := bg; have fL := bh; clear bf bg bh; clear ho hb hg hat)); try go_wp2_with (first | ((with_reducible refine gate_builtin (b := .append) (xs := #[.tmp 52, .tmp 58]) rfl ?_); (try (refine gate_guard (by rfl) ?_; dsimp only)); at_builtin; refine Kd.R_append (Kd.int .i64) (w0 := w) w.heap.size rfl (.tmp 52) (.tmp 58) 24 3 (.int .i64 0) 8 rfl Try.underlying24 info3 rfl (by decide) (by omega) u4 eb (rd ae aG) [.int .i64 (rd ae aG)] (fun _ => True) (fun _ => False) rfl rfl ?aP (fun _ hk => hk.elim) ?aF ?aO ?aB ?aS ?aL ?_; (case aP => exact rfl); (case aB => exact (zb HB)); (case aF => exact (fun _ _ => trivial)); (case aO => exact (zR ay)); (case aS => exact (below_size (zb HB))); (case aL => have := fK.out; omega); intro iA w23 ho hb hg hat; rw [← Ny264.out] at ho; have bf := zK (blk_grown (g := ac) (o := .cells #[.slice (some eJ) ae.length an, .int .i64 a0_1, .slice aw ab.length ao, .slice az ad.length ap] 28 (0, 0)) (zk aa) hg (Kd.R_ne ay.out aa.out (by decide))); have bg := zK (hb); have bh := zK (ho); clear aa; clear HB; clear ay; have aa := bf; have HB := bg; have fL := bh; clear bf bg bh; clear ho hb hg hat)))
           go_roundg k2
           case measure => have := d9.out; have := ea.out; omega
           case rel => exact ⟨(iy), (wrap64 (aG + 1)), (by first | rfl | (simp; done) | (simp [*]; done)), H', ⟨by have := d9.out; have := ea.out; omega⟩, ⟨zR fL⟩, ⟨zk aa⟩, ⟨zb HB⟩⟩
          ·rw [if_neg fD] at H
           exact absurd H (by simp)
        ·rw [if_neg fC] at H
         exact absurd H (by simp)
       ·rw [if_neg fB] at H
        exact absurd H (by simp)
      ·rw [if_neg eW] at H
       have cE : decide (aG < (ae.length : Int)) = false := decide_eq_false eW
       clear eW; have H' := zK H; clear H
       go_wp2
       repeat (go_quiet (fail); try go_wp2)
       go_loopg [4, 6] k2 (fun kq v4 v6 w' => ∃ (ax : List Int) (ag : Int), v6 = .int .i64 ag ∧ Aside0 (spec_LoopOk.l1 kq (ae.length : Int) ax ag ae a0_1 ab ad = some r) ∧ Aside0 (kq ≤ k2) ∧ Aside0 (Kd.R (Kd.int .i64) 3 w' w.heap.size (fun _ => True) v4 ax) ∧ Aside0 (w'.heap[ac]? = some (.cells #[(.slice aq ae.length an), .int .i64 a0_1, (.slice aw ab.length ao), (.slice az ad.length ap)] 28 (0, 0))) ∧ Aside0 (Below w.heap.size w w'))
       case atStart => exact ⟨(eb), (0), (by first | rfl | (simp; done) | (simp [*]; done)), H', ⟨Nat.le_refl _⟩, ⟨zR ay⟩, ⟨zk aa⟩, ⟨zb HB⟩⟩
       case round =>
        clear H'
        try clear c1
        try clear c2
        try clear p2
        try clear q2
        try clear hP
        try clear c6
        try clear p6
        try clear c8
        try clear c9
        try clear cz
        try clear d1
        try clear fx
        try clear eW
        try clear cE
        try clear fB
        try clear dM
        try clear fC
        try clear dN
        try clear eT
        try clear cF
        try clear cG
        try clear fD
        try clear hQ
        try clear aI
        try clear aJ
        try clear aK
        try clear aM
        try clear aV
        try clear aW
        try clear aX
        try clear aY
        try clear a3
        try clear a4
        try clear a5
        try clear a6
        try clear bP
        try clear bQ
        try clear bR
        try clear bS
        try clear bX
        try clear bY
        try clear bZ
        try clear b0
        try clear bp
        try clear bq
        try clear br
        try clear bs
        try clear aN
        try clear aQ
        try clear aT
        try clear aU
        try clear aZ
        try clear a0
        try clear a1
        try clear a2
        try clear a7
        try clear a8
        try clear a9
        try clear ba
        try clear bT
        try clear bU
        try clear bV
        try clear bW
        try clear b1
        try clear b2
        try clear b3
        try clear b4
        try clear bu
        try clear bv
        try clear bw
        try clear bx
        try clear aE
        try clear bi
        try clear p2
        try clear cA
        try clear d2
        try clear p6
        try clear cB
        try clear d3
        obtain ⟨ax, ag, rfl, HA, eG, ay, aa, HB⟩ := hrel
        cases gk with
        | zero => exact absurd HA.out (by simp [spec_LoopOk.l1])
        | succ k3 =>
         have H := HA.out; clear HA
         simp only [spec_LoopOk.l1] at H
         by_cases fy : ag < (ab.length : Int)
         ·rw [if_pos fy] at H
          have dO : decide (ag < (ab.length : Int)) = true := decide_eq_true fy
          clear fy
          by_cases fM : 0 ≤ ag
          ·rw [if_pos fM] at H
           have d4 : decide (0 ≤ ag) = true := decide_eq_true fM
           clear fM; have hR := zK H; clear H
           have b6 : wr.cell? ⟨ac, 0, none⟩ = some (.slice aq ae.length an) := (blk_cell aa.out 0).trans rfl
           have b7 : wr.cell? ⟨ac, 1, none⟩ = some (.int .i64 a0_1) := (blk_cell aa.out 1).trans rfl
           have b8 : wr.cell? ⟨ac, 2, none⟩ = some (.slice aw ab.length ao) := (blk_cell aa.out 2).trans rfl
           have b9 : wr.cell? ⟨ac, 3, none⟩ = some (.slice az ad.length ap) := (blk_cell aa.out 3).trans rfl
           have ca := blk_frozen aa.out 0; have cb := blk_frozen aa.out 1; have cc := blk_frozen aa.out 2; have cd := blk_frozen aa.out 3
           have ec : 0 ≤ (ag : Int) := zd
           have ed : ag < (ab.length : Int) := zd
           obtain ⟨bj, bJ, bK, e267, bk, bl, bm, eX, eY⟩ := at_T69 fI.out ag ec ed
           cases e267
           replace bk := (HB.out.cell (World.block_lt_of_cell? w _ bk)).trans bk
           replace bl := (HB.out.cell (World.block_lt_of_cell? w _ bl)).trans bl
           replace bm := (HB.out.cell (World.block_lt_of_cell? w _ bm)).trans bm
           have ek := zK eY; have HC267_2 := zK eX; clear eY eX; replace ec := eq_true ec; replace ed := eq_true ed
           go_upto_region 14 with (first | ((with_reducible refine gate_dst (N := 7) rfl ?_); (try (refine gate_guard (by rfl) ?_; dsimp only)); refine box_event ?hg (N := 7) ?hd (cs := #[.int .i64 0, .int .i64 0, .slice none 0 0]) (t := 69) ?hr ?_; (case hd => rfl); (case hg => rfl); (case hr => first | (go_simp; done) | (go_simp; rfl)); intro am hg eg hbox hb; have bf := zK (Kd.R_below (zR ay) hb); have bg := zK (blk_below (g := ac) (o := .cells #[.slice aq ae.length an, .int .i64 a0_1, .slice (some bj) ab.length ao, .slice az ad.length ap] 28 (0, 0)) (zk aa) hb); have bh := zK (below_step (zb HB) hb); have bO := zK (hbox); have dP := zK ((by rw [hg]; exact (below_size (zb HB)) : w.heap.size ≤ am)); have dQ := zK ((by rw [hg]; exact (below_size (zb HB)) : w.heap.size ≤ am)); have dR := zK ((by rw [hg]; exact Nat.ne_of_lt (blk_lt (g := ac) (o := .cells #[.slice aq ae.length an, .int .i64 a0_1, .slice (some bj) ab.length ao, .slice az ad.length ap] 28 (0, 0)) (zk aa)) : ac ≠ am)); have ht := zK ((by rw [hg]; exact Nat.ne_of_gt (blk_lt (g := ac) (o := .cells #[.slice aq ae.length an, .int .i64 a0_1, .slice (some bj) ab.length ao, .slice az ad.length ap] 28 (0, 0)) (zk aa)) : am ≠ ac)); clear ay; clear aa; clear HB; have ay := bf; have aa := bg; have HB := bh; have ai := bO; have hu := dP; have bz := dQ; have ar := dR; have aD := ht; clear bf bg bh bO dP dQ dR ht; clear hb hbox hg; have hv := aD.out; have hw := ar.out; have bB : eg.cell? ⟨am, 0, none⟩ = some (.int .i64 0) := (blk_cell ai.out 0).trans rfl; have bC : eg.cell? ⟨am, 1, none⟩ = some (.int .i64 0) := (blk_cell ai.out 1).trans rfl; have bD : eg.cell? ⟨am, 2, none⟩ = some (.slice none 0 0) := (blk_cell ai.out 2).trans rfl; have bE := blk_frozen ai.out 0; have bF := blk_frozen ai.out 1; have bG := blk_frozen ai.out 2))
           repeat (go_quiet (first | ((with_reducible refine gate_dst (N := 7) rfl ?_); (try (refine gate_guard (by rfl) ?_; dsimp only)); refine box_event ?hg (N := 7) ?hd (cs := #[.int .i64 0, .int .i64 0, .slice none 0 0]) (t := 69) ?hr ?_; (case hd => rfl); (case hg => rfl); (case hr => first | (go_simp; done) | (go_simp; rfl)); intro am hg eg hbox hb; have bf := zK (Kd.R_below (zR ay) hb); have bg := zK (blk_below (g := ac) (o := .cells #[.slice aq ae.length an, .int .i64 a0_1, .slice (some bj) ab.length ao, .slice az ad.length ap] 28 (0, 0)) (zk aa) hb); have bh := zK (below_step (zb HB) hb); have bO := zK (hbox); have dP := zK ((by rw [hg]; exact (below_size (zb HB)) : w.heap.size ≤ am)); have dQ := zK ((by rw [hg]; exact (below_size (zb HB)) : w.heap.size ≤ am)); have dR := zK ((by rw [hg]; exact Nat.ne_of_lt (blk_lt (g := ac) (o := .cells #[.slice aq ae.length an, .int .i64 a0_1, .slice (some bj) ab.length ao, .slice az ad.length ap] 28 (0, 0)) (zk aa)) : ac ≠ am)); have ht := zK ((by rw [hg]; exact Nat.ne_of_gt (blk_lt (g := ac) (o := .cells #[.slice aq ae.length an, .int .i64 a0_1, .slice (some bj) ab.length ao, .slice az ad.length ap] 28 (0, 0)) (zk aa)) : am ≠ ac)); clear ay; clear aa; clear HB; have ay := bf; have aa := bg; have HB := bh; have ai := bO; have hu := dP; have bz := dQ; have ar := dR; have aD := ht; clear bf bg bh bO dP dQ dR ht; clear hb hbox hg; have hv := aD.out; have hw := ar.out; have bB : eg.cell? ⟨am, 0, none⟩ = some (.int .i64 0) := (blk_cell ai.out 0).trans rfl; have bC : eg.cell? ⟨am, 1, none⟩ = some (.int .i64 0) := (blk_cell ai.out 1).trans rfl; have bD : eg.cell? ⟨am, 2, none⟩ = some (.slice none 0 0) := (blk_cell ai.out 2).trans rfl; have bE := blk_frozen ai.out 0; have bF := blk_frozen ai.out 1; have bG := blk_frozen ai.out 2)); go_upto_region 14 with (first | ((with_reducible refine gate_dst (N := 7) rfl ?_); (try (refine gate_guard (by rfl) ?_; dsimp only)); refine box_event ?hg (N := 7) ?hd (cs := #[.int .i64 0, .int .i64 0, .slice none 0 0]) (t := 69) ?hr ?_; (case hd => rfl); (case hg => rfl); (case hr => first | (go_simp; done) | (go_simp; rfl)); intro am hg eg hbox hb; have bf := zK (Kd.R_below (zR ay) hb); have bg := zK (blk_below (g := ac) (o := .cells #[.slice aq ae.length an, .int .i64 a0_1, .slice (some bj) ab.length ao, .slice az ad.length ap] 28 (0, 0)) (zk aa) hb); have bh := zK (below_step (zb HB) hb); have bO := zK (hbox); have dP := zK ((by rw [hg]; exact (below_size (zb HB)) : w.heap.size ≤ am)); have dQ := zK ((by rw [hg]; exact (below_size (zb HB)) : w.heap.size ≤ am)); have dR := zK ((by rw [hg]; exact Nat.ne_of_lt (blk_lt (g := ac) (o := .cells #[.slice aq ae.length an, .int .i64 a0_1, .slice (some bj) ab.length ao, .slice az ad.length ap] 28 (0, 0)) (zk aa)) : ac ≠ am)); have ht := zK ((by rw [hg]; exact Nat.ne_of_gt (blk_lt (g := ac) (o := .cells #[.slice aq ae.length an, .int .i64 a0_1, .slice (some bj) ab.length ao, .slice az ad.length ap] 28 (0, 0)) (zk aa)) : am ≠ ac)); clear ay; clear aa; clear HB; have ay := bf; have aa := bg; have HB := bh; have ai := bO; have hu := dP; have bz := dQ; have ar := dR; have aD := ht; clear bf bg bh bO dP dQ dR ht; clear hb hbox hg; have hv := aD.out; have hw := ar.out; have bB : eg.cell? ⟨am, 0, none⟩ = some (.int .i64 0) := (blk_cell ai.out 0).trans rfl; have bC : eg.cell? ⟨am, 1, none⟩ = some (.int .i64 0) := (blk_cell ai.out 1).trans rfl; have bD : eg.cell? ⟨am, 2, none⟩ = some (.slice none 0 0) := (blk_cell ai.out 2).trans rfl; have bE := blk_frozen ai.out 0; have bF := blk_frozen ai.out 1; have bG := blk_frozen ai.out 2)))
           (try simp only [Act.put, zp, zq, zr])
           go_cut [91] (fun v91 wc => ∃ (kq : Nat) (el : Bool), v91 = .bool el ∧ Aside0 (spec_LoopOk.j3 kq (ae.length : Int) ax ag el ae a0_1 ab ad ((rd_T69 ab ag).f0) ((rd_T69 ab ag).f1) ((rd_T69 ab ag).f2) = some r) ∧ Aside0 (kq ≤ k3) ∧ Aside0 (Kd.R (Kd.int .i64) 3 wc w.heap.size (fun _ => True) u4 ax) ∧ Aside0 (wc.heap[ac]? = some (.cells #[(.slice aq ae.length an), .int .i64 a0_1, (.slice (some bj) ab.length ao), (.slice az ad.length ap)] 28 (0, 0))) ∧ Aside0 (wc.heap[am]? = some (.cells #[.int .i64 ((rd_T69 ab ag).f0), .int .i64 ((rd_T69 ab ag).f1), (.slice bJ ((rd_T69 ab ag).f2).length bK)] 69 (0, 0))) ∧ Aside0 (Below w.heap.size w wc))
           case first =>
            have H := hR.out; clear hR; replace H := Option.bind_eq_some_iff.mp H
            obtain ⟨iB, iC, H⟩ := H
            replace H : (if iB = true then ((spec_l01In.f ((rd_T69 ab ag).f1) 0 40).bind fun fz => (if fz = true then (spec_LoopOk.j3 k3 (ae.length : Int) ax ag (decide ((((rd_T69 ab ag).f2).length : Int) > ((rd_T69 ab ag).f1))) ae a0_1 ab ad ((rd_T69 ab ag).f0) ((rd_T69 ab ag).f1) ((rd_T69 ab ag).f2)) else (spec_LoopOk.j3 k3 (ae.length : Int) ax ag true ae a0_1 ab ad ((rd_T69 ab ag).f0) ((rd_T69 ab ag).f1) ((rd_T69 ab ag).f2)))) else (spec_LoopOk.j3 k3 (ae.length : Int) ax ag true ae a0_1 ab ad ((rd_T69 ab ag).f0) ((rd_T69 ab ag).f1) ((rd_T69 ab ag).f2))) = some r := H
            have gS := zK iC; clear iC
            by_cases fN : iB = true
            ·subst fN
             have H1 : ((spec_l01In.f ((rd_T69 ab ag).f1) 0 40).bind fun fz => (if fz = true then (spec_LoopOk.j3 k3 (ae.length : Int) ax ag (decide ((((rd_T69 ab ag).f2).length : Int) > ((rd_T69 ab ag).f1))) ae a0_1 ab ad ((rd_T69 ab ag).f0) ((rd_T69 ab ag).f1) ((rd_T69 ab ag).f2)) else (spec_LoopOk.j3 k3 (ae.length : Int) ax ag true ae a0_1 ab ad ((rd_T69 ab ag).f0) ((rd_T69 ab ag).f1) ((rd_T69 ab ag).f2)))) = some r := by rw [if_pos rfl] at H; exact H
             clear H; have H := H1; clear H1; replace H := Option.bind_eq_some_iff.mp H
             obtain ⟨fz, iD, H⟩ := H
             replace H : (if fz = true then (spec_LoopOk.j3 k3 (ae.length : Int) ax ag (decide ((((rd_T69 ab ag).f2).length : Int) > ((rd_T69 ab ag).f1))) ae a0_1 ab ad ((rd_T69 ab ag).f0) ((rd_T69 ab ag).f1) ((rd_T69 ab ag).f2)) else (spec_LoopOk.j3 k3 (ae.length : Int) ax ag true ae a0_1 ab ad ((rd_T69 ab ag).f0) ((rd_T69 ab ag).f1) ((rd_T69 ab ag).f2))) = some r := H
             have ii := zK iD; clear iD
             by_cases fO : fz = true
             ·subst fO
              have H1 : (spec_LoopOk.j3 k3 (ae.length : Int) ax ag (decide ((((rd_T69 ab ag).f2).length : Int) > ((rd_T69 ab ag).f1))) ae a0_1 ab ad ((rd_T69 ab ag).f0) ((rd_T69 ab ag).f1) ((rd_T69 ab ag).f2)) = some r := by rw [if_pos rfl] at H; exact H
              clear H; have H := H1; clear H1; have H' := zK H; clear H; have hnb35 := aD.out; have hnc35 := ar.out
              have ce : eg.cell? ⟨am, 0, none⟩ = some (.int .i64 0) := (blk_cell ai.out 0).trans rfl
              have cf : eg.cell? ⟨am, 1, none⟩ = some (.int .i64 0) := (blk_cell ai.out 1).trans rfl
              have cg : eg.cell? ⟨am, 2, none⟩ = some (.slice none 0 0) := (blk_cell ai.out 2).trans rfl
              have ch := blk_frozen ai.out 0; have ci := blk_frozen ai.out 1; have cj := blk_frozen ai.out 2
              go_wp2_with (first | (go_at_call 62; (with_reducible refine (spec_l01In.calls ((rd_T69 ab ag).f0) 0 (wrap64 ((ae.length : Int) - 1)) true _ gS.out).mono ?_); rintro e w' ⟨rfl, ⟨nd, rfl⟩⟩; (try first | exact ⟨rfl, _, World.drewN_drewN _ _ _⟩ | exact ⟨rfl, _, Eq.trans (World.drewN_drewN _ _ _) (congrArg (World.drewN _) (Nat.add_assoc _ _ _))⟩)) | (go_at_call 62; (with_reducible refine (spec_l01In.calls ((rd_T69 ab ag).f1) 0 40 true _ ii.out).mono ?_); rintro e w' ⟨rfl, ⟨nd, rfl⟩⟩; (try first | exact ⟨rfl, _, World.drewN_drewN _ _ _⟩ | exact ⟨rfl, _, Eq.trans (World.drewN_drewN _ _ _) (congrArg (World.drewN _) (Nat.add_assoc _ _ _))⟩)))
              repeat (go_quiet (first | (go_at_call 62; (with_reducible refine (spec_l01In.calls ((rd_T69 ab ag).f0) 0 (wrap64 ((ae.length : Int) - 1)) true _ gS.out).mono ?_); rintro e w' ⟨rfl, ⟨nd, rfl⟩⟩; (try first | exact ⟨rfl, _, World.drewN_drewN _ _ _⟩ | exact ⟨rfl, _, Eq.trans (World.drewN_drewN _ _ _) (congrArg (World.drewN _) (Nat.add_assoc _ _ _))⟩)) | (go_at_call 62; (with_reducible refine (spec_l01In.calls ((rd_T69 ab ag).f1) 0 40 true _ ii.out).mono ?_); rintro e w' ⟨rfl, ⟨nd, rfl⟩⟩; (try first | exact ⟨rfl, _, World.drewN_drewN _ _ _⟩ | exact ⟨rfl, _, Eq.trans (World.drewN_drewN _ _ _) (congrArg (World.drewN _) (Nat.add_assoc _ _ _))⟩))); try go_wp2_with (first | (go_at_call 62; (with_reducible refine (spec_l01In.calls ((rd_T69 ab ag).f0) 0 (wrap64 ((ae.length : Int) - 1)) true _ gS.out).mono ?_); rintro e w' ⟨rfl, ⟨nd, rfl⟩⟩; (try first | exact ⟨rfl, _, World.drewN_drewN _ _ _⟩ | exact ⟨rfl, _, Eq.trans (World.drewN_drewN _ _ _) (congrArg (World.drewN _) (Nat.add_assoc _ _ _))⟩)) | (go_at_call 62; (with_reducible refine (spec_l01In.calls ((rd_T69 ab ag).f1) 0 40 true _ ii.out).mono ?_); rintro e w' ⟨rfl, ⟨nd, rfl⟩⟩; (try first | exact ⟨rfl, _, World.drewN_drewN _ _ _⟩ | exact ⟨rfl, _, Eq.trans (World.drewN_drewN _ _ _) (congrArg (World.drewN _) (Nat.add_assoc _ _ _))⟩))))
              go_meet
              case rel => exact ⟨_, (decide ((((rd_T69 ab ag).f2).length : Int) > ((rd_T69 ab ag).f1))), (by first | rfl | (simp; done) | (simp [*]; done)), H', ⟨by have := d9.out; have := ea.out; have := eG.out; first | omega | exact Nat.le_refl _⟩, ⟨by (with_reducible repeat (first | apply Kd.R_alloc | apply Kd.R_drewN | apply Kd.R_drew)); exact Kd.R_mono (Kd.R_far (p := ⟨am, 2, none⟩) (Kd.R_far (p := ⟨am, 1, none⟩) (Kd.R_far (p := ⟨am, 0, none⟩) (Kd.R_types ay.out ai.out (by decide)) (fun _ hk => hk.2) (.int .i64 ((rd_T69 ab ag).f0))) (fun _ hk => hk.2) (.int .i64 ((rd_T69 ab ag).f1))) (fun _ hk => hk.2) (.slice bJ ((rd_T69 ab ag).f2).length bK)) (fun _ hk => trivial)⟩, ⟨by (with_reducible repeat (first | refine zN ?_ _ | refine zD ?_ | refine zA ?_ _)); refine blk_far ?_ ar.out _; (with_reducible repeat (first | refine zN ?_ _ | refine zD ?_ | refine zA ?_ _)); refine blk_far ?_ ar.out _; (with_reducible repeat (first | refine zN ?_ _ | refine zD ?_ | refine zA ?_ _)); refine blk_far ?_ ar.out _; (with_reducible repeat (first | refine zN ?_ _ | refine zD ?_ | refine zA ?_ _)); exact aa.out⟩, ⟨by (with_reducible repeat (first | refine zN ?_ _ | refine zD ?_ | refine zA ?_ _)); refine blk_put (cs := #[.int .i64 ((rd_T69 ab ag).f0), .int .i64 ((rd_T69 ab ag).f1), .slice none 0 0]) ?_ 2 _ rfl; (with_reducible repeat (first | refine zN ?_ _ | refine zD ?_ | refine zA ?_ _)); refine blk_put (cs := #[.int .i64 ((rd_T69 ab ag).f0), .int .i64 0, .slice none 0 0]) ?_ 1 _ rfl; (with_reducible repeat (first | refine zN ?_ _ | refine zD ?_ | refine zA ?_ _)); refine blk_put (cs := #[.int .i64 0, .int .i64 0, .slice none 0 0]) ?_ 0 _ rfl; (with_reducible repeat (first | refine zN ?_ _ | refine zD ?_ | refine zA ?_ _)); exact ai.out⟩, ⟨zb HB⟩⟩
             ·replace fO := Bool.eq_false_iff.mpr fO
              subst fO
              have H1 : (spec_LoopOk.j3 k3 (ae.length : Int) ax ag true ae a0_1 ab ad ((rd_T69 ab ag).f0) ((rd_T69 ab ag).f1) ((rd_T69 ab ag).f2)) = some r := by rw [if_neg (show ¬ (false = true) by decide)] at H; exact H
              clear H; have H := H1; clear H1; have H' := zK H; clear H; have hnb37 := aD.out; have hnc37 := ar.out
              have ck : eg.cell? ⟨am, 0, none⟩ = some (.int .i64 0) := (blk_cell ai.out 0).trans rfl
              have cl : eg.cell? ⟨am, 1, none⟩ = some (.int .i64 0) := (blk_cell ai.out 1).trans rfl
              have cm : eg.cell? ⟨am, 2, none⟩ = some (.slice none 0 0) := (blk_cell ai.out 2).trans rfl
              have cn := blk_frozen ai.out 0; have co := blk_frozen ai.out 1; have cp := blk_frozen ai.out 2
              go_wp2_with (first | (go_at_call 62; (with_reducible refine (spec_l01In.calls ((rd_T69 ab ag).f0) 0 (wrap64 ((ae.length : Int) - 1)) true _ gS.out).mono ?_); rintro e w' ⟨rfl, ⟨nd, rfl⟩⟩; (try first | exact ⟨rfl, _, World.drewN_drewN _ _ _⟩ | exact ⟨rfl, _, Eq.trans (World.drewN_drewN _ _ _) (congrArg (World.drewN _) (Nat.add_assoc _ _ _))⟩)) | (go_at_call 62; (with_reducible refine (spec_l01In.calls ((rd_T69 ab ag).f1) 0 40 false _ ii.out).mono ?_); rintro e w' ⟨rfl, ⟨nd, rfl⟩⟩; (try first | exact ⟨rfl, _, World.drewN_drewN _ _ _⟩ | exact ⟨rfl, _, Eq.trans (World.drewN_drewN _ _ _) (congrArg (World.drewN _) (Nat.add_assoc _ _ _))⟩)))
              repeat (go_quiet (first | (go_at_call 62; (with_reducible refine (spec_l01In.calls ((rd_T69 ab ag).f0) 0 (wrap64 ((ae.length : Int) - 1)) true _ gS.out).mono ?_); rintro e w' ⟨rfl, ⟨nd, rfl⟩⟩; (try first | exact ⟨rfl, _, World.drewN_drewN _ _ _⟩ | exact ⟨rfl, _, Eq.trans (World.drewN_drewN _ _ _) (congrArg (World.drewN _) (Nat.add_assoc _ _ _))⟩)) | (go_at_call 62; (with_reducible refine (spec_l01In.calls ((rd_T69 ab ag).f1) 0 40 false _ ii.out).mono ?_); rintro e w' ⟨rfl, ⟨nd, rfl⟩⟩; (try first | exact ⟨rfl, _, World.drewN_drewN _ _ _⟩ | exact ⟨rfl, _, Eq.trans (World.drewN_drewN _ _ _) (congrArg (World.drewN _) (Nat.add_assoc _ _ _))⟩))); try go_wp2_with (first | (go_at_call 62; (with_reducible refine (spec_l01In.calls ((rd_T69 ab ag).f0) 0 (wrap64 ((ae.length : Int) - 1)) true _ gS.out).mono ?_); rintro e w' ⟨rfl, ⟨nd, rfl⟩⟩; (try first | exact ⟨rfl, _, World.drewN_drewN _ _ _⟩ | exact ⟨rfl, _, Eq.trans (World.drewN_drewN _ _ _) (congrArg (World.drewN _) (Nat.add_assoc _ _ _))⟩)) | (go_at_call 62; (with_reducible refine (spec_l01In.calls ((rd_T69 ab ag).f1) 0 40 false _ ii.out).mono ?_); rintro e w' ⟨rfl, ⟨nd, rfl⟩⟩; (try first | exact ⟨rfl, _, World.drewN_drewN _ _ _⟩ | exact ⟨rfl, _, Eq.trans (World.drewN_drewN _ _ _) (congrArg (World.drewN _) (Nat.add_assoc _ _ _))⟩))))
              go_meet
              case rel => exact ⟨_, (true), (by first | rfl | (simp; done) | (simp [*]; done)), H', ⟨by have := d9.out; have := ea.out; have := eG.out; first | omega | exact Nat.le_refl _⟩, ⟨by (with_reducible repeat (first | apply Kd.R_alloc | apply Kd.R_drewN | apply Kd.R_drew)); exact Kd.R_mono (Kd.R_far (p := ⟨am, 2, none⟩) (Kd.R_far (p := ⟨am, 1, none⟩) (Kd.R_far (p := ⟨am, 0, none⟩) (Kd.R_types ay.out ai.out (by decide)) (fun _ hk => hk.2) (.int .i64 ((rd_T69 ab ag).f0))) (fun _ hk => hk.2) (.int .i64 ((rd_T69 ab ag).f1))) (fun _ hk => hk.2) (.slice bJ ((rd_T69 ab ag).f2).length bK)) (fun _ hk => trivial)⟩, ⟨by (with_reducible repeat (first | refine zN ?_ _ | refine zD ?_ | refine zA ?_ _)); refine blk_far ?_ ar.out _; (with_reducible repeat (first | refine zN ?_ _ | refine zD ?_ | refine zA ?_ _)); refine blk_far ?_ ar.out _; (with_reducible repeat (first | refine zN ?_ _ | refine zD ?_ | refine zA ?_ _)); refine blk_far ?_ ar.out _; (with_reducible repeat (first | refine zN ?_ _ | refine zD ?_ | refine zA ?_ _)); exact aa.out⟩, ⟨by (with_reducible repeat (first | refine zN ?_ _ | refine zD ?_ | refine zA ?_ _)); refine blk_put (cs := #[.int .i64 ((rd_T69 ab ag).f0), .int .i64 ((rd_T69 ab ag).f1), .slice none 0 0]) ?_ 2 _ rfl; (with_reducible repeat (first | refine zN ?_ _ | refine zD ?_ | refine zA ?_ _)); refine blk_put (cs := #[.int .i64 ((rd_T69 ab ag).f0), .int .i64 0, .slice none 0 0]) ?_ 1 _ rfl; (with_reducible repeat (first | refine zN ?_ _ | refine zD ?_ | refine zA ?_ _)); refine blk_put (cs := #[.int .i64 0, .int .i64 0, .slice none 0 0]) ?_ 0 _ rfl; (with_reducible repeat (first | refine zN ?_ _ | refine zD ?_ | refine zA ?_ _)); exact ai.out⟩, ⟨zb HB⟩⟩
            ·replace fN := Bool.eq_false_iff.mpr fN
             subst fN
             have H1 : (spec_LoopOk.j3 k3 (ae.length : Int) ax ag true ae a0_1 ab ad ((rd_T69 ab ag).f0) ((rd_T69 ab ag).f1) ((rd_T69 ab ag).f2)) = some r := by rw [if_neg (show ¬ (false = true) by decide)] at H; exact H
             clear H; have H := H1; clear H1; have H' := zK H; clear H; have hnb39 := aD.out; have hnc39 := ar.out
             have cq : eg.cell? ⟨am, 0, none⟩ = some (.int .i64 0) := (blk_cell ai.out 0).trans rfl
             have cr : eg.cell? ⟨am, 1, none⟩ = some (.int .i64 0) := (blk_cell ai.out 1).trans rfl
             have ct : eg.cell? ⟨am, 2, none⟩ = some (.slice none 0 0) := (blk_cell ai.out 2).trans rfl
             have cu := blk_frozen ai.out 0; have cv := blk_frozen ai.out 1; have cw := blk_frozen ai.out 2
             go_wp2_with (first | (go_at_call 62; (with_reducible refine (spec_l01In.calls ((rd_T69 ab ag).f0) 0 (wrap64 ((ae.length : Int) - 1)) false _ gS.out).mono ?_); rintro e w' ⟨rfl, ⟨nd, rfl⟩⟩; (try first | exact ⟨rfl, _, World.drewN_drewN _ _ _⟩ | exact ⟨rfl, _, Eq.trans (World.drewN_drewN _ _ _) (congrArg (World.drewN _) (Nat.add_assoc _ _ _))⟩)))
             repeat (go_quiet (first | (go_at_call 62; (with_reducible refine (spec_l01In.calls ((rd_T69 ab ag).f0) 0 (wrap64 ((ae.length : Int) - 1)) false _ gS.out).mono ?_); rintro e w' ⟨rfl, ⟨nd, rfl⟩⟩; (try first | exact ⟨rfl, _, World.drewN_drewN _ _ _⟩ | exact ⟨rfl, _, Eq.trans (World.drewN_drewN _ _ _) (congrArg (World.drewN _) (Nat.add_assoc _ _ _))⟩))); try go_wp2_with (first | (go_at_call 62; (with_reducible refine (spec_l01In.calls ((rd_T69 ab ag).f0) 0 (wrap64 ((ae.length : Int) - 1)) false _ gS.out).mono ?_); rintro e w' ⟨rfl, ⟨nd, rfl⟩⟩; (try first | exact ⟨rfl, _, World.drewN_drewN _ _ _⟩ | exact ⟨rfl, _, Eq.trans (World.drewN_drewN _ _ _) (congrArg (World.drewN _) (Nat.add_assoc _ _ _))⟩))))
             go_meet
             case rel => exact ⟨_, (true), (by first | rfl | (simp; done) | (simp [*]; done)), H', ⟨by have := d9.out; have := ea.out; have := eG.out; first | omega | exact Nat.le_refl _⟩, ⟨by (with_reducible repeat (first | apply Kd.R_alloc | apply Kd.R_drewN | apply Kd.R_drew)); exact Kd.R_mono (Kd.R_far (p := ⟨am, 2, none⟩) (Kd.R_far (p := ⟨am, 1, none⟩) (Kd.R_far (p := ⟨am, 0, none⟩) (Kd.R_types ay.out ai.out (by decide)) (fun _ hk => hk.2) (.int .i64 ((rd_T69 ab ag).f0))) (fun _ hk => hk.2) (.int .i64 ((rd_T69 ab ag).f1))) (fun _ hk => hk.2) (.slice bJ ((rd_T69 ab ag).f2).length bK)) (fun _ hk => trivial)⟩, ⟨by (with_reducible repeat (first | refine zN ?_ _ | refine zD ?_ | refine zA ?_ _)); refine blk_far ?_ ar.out _; (with_reducible repeat (first | refine zN ?_ _ | refine zD ?_ | refine zA ?_ _)); refine blk_far ?_ ar.out _; (with_reducible repeat (first | refine zN ?_ _ | refine zD ?_ | refine zA ?_ _)); refine blk_far ?_ ar.out _; (with_reducible repeat (first | refine zN ?_ _ | refine zD ?_ | refine zA ?_ _)); exact aa.out⟩, ⟨by (with_reducible repeat (first | refine zN ?_ _ | refine zD ?_ | refine zA ?_ _)); refine blk_put (cs := #[.int .i64 ((rd_T69 ab ag).f0), .int .i64 ((rd_T69 ab ag).f1), .slice none 0 0]) ?_ 2 _ rfl; (with_reducible repeat (first | refine zN ?_ _ | refine zD ?_ | refine zA ?_ _)); refine blk_put (cs := #[.int .i64 ((rd_T69 ab ag).f0), .int .i64 0, .slice none 0 0]) ?_ 1 _ rfl; (with_reducible repeat (first | refine zN ?_ _ | refine zD ?_ | refine zA ?_ _)); refine blk_put (cs := #[.int .i64 0, .int .i64 0, .slice none 0 0]) ?_ 0 _ rfl; (with_reducible repeat (first | refine zN ?_ _ | refine zD ?_ | refine zA ?_ _)); exact ai.out⟩, ⟨zb HB⟩⟩
           case rest =>
            clear hR
            try clear c1
            try clear c2
            try clear p2
            try clear q2
            try clear hP
            try clear c3
            try clear c6
            try clear p6
            try clear c8
            try clear c9
            try clear cz
            try clear d1
            try clear fx
            try clear eW
            try clear cE
            try clear fB
            try clear dM
            try clear fC
            try clear dN
            try clear eT
            try clear cF
            try clear cG
            try clear fD
            try clear hQ
            try clear fy
            try clear dO
            try clear fM
            try clear d4
            try clear ij
            try clear fE
            try clear fF
            try clear fA
            try clear ik
            try clear fN
            try clear fO
            try clear il
            try clear im
            try clear io
            try clear aI
            try clear aJ
            try clear aK
            try clear aM
            try clear aV
            try clear aW
            try clear aX
            try clear aY
            try clear a3
            try clear a4
            try clear a5
            try clear a6
            try clear bP
            try clear bQ
            try clear bR
            try clear bS
            try clear bX
            try clear bY
            try clear bZ
            try clear b0
            try clear b6
            try clear b7
            try clear b8
            try clear b9
            try clear bB
            try clear bC
            try clear bD
            try clear ce
            try clear cf
            try clear cg
            try clear ck
            try clear cl
            try clear cm
            try clear cq
            try clear cr
            try clear ct
            try clear bp
            try clear bq
            try clear br
            try clear bs
            try clear aN
            try clear aQ
            try clear aT
            try clear aU
            try clear aZ
            try clear a0
            try clear a1
            try clear a2
            try clear a7
            try clear a8
            try clear a9
            try clear ba
            try clear bT
            try clear bU
            try clear bV
            try clear bW
            try clear b1
            try clear b2
            try clear b3
            try clear b4
            try clear ca
            try clear cb
            try clear cc
            try clear cd
            try clear bE
            try clear bF
            try clear bG
            try clear ch
            try clear ci
            try clear cj
            try clear cn
            try clear co
            try clear cp
            try clear cu
            try clear cv
            try clear cw
            try clear bu
            try clear bv
            try clear bw
            try clear bx
            try clear aE
            try clear bi
            try clear bk
            try clear bl
            try clear bm
            try clear p2
            try clear cA
            try clear d2
            try clear ec
            try clear p6
            try clear q2
            try clear cB
            try clear d3
            try clear ed
            obtain ⟨kq, el, rfl, HA, gT, ay, aa, ai, HB⟩ := hcut
            cases kq with
            | zero => exact absurd HA.out (by simp [spec_LoopOk.j3])
            | succ kj25 =>
             have H := HA.out; clear HA
             simp only [spec_LoopOk.j3] at H
             by_cases gN : el = true
             ·subst gN
              have H1 : (some false) = some r := by rw [if_pos rfl] at H; exact H
              clear H; have H := H1; clear H1; obtain rfl := Option.some.inj H
              go_wp2
              repeat (go_quiet (fail); try go_wp2)
              go_ret
              exact ⟨by first | rfl | (simp [errW_none, errW_some] <;> rfl) | (simp [*, errW_none, errW_some] <;> rfl), by repeat (first | (with_reducible first | exact HB.out | apply zB | apply zC | apply zE | refine zS ?_ ah.out | refine zS ?_ bz.out) | exact HB.out)⟩
             ·replace gN := Bool.eq_false_iff.mpr gN
              subst gN
              have H1 : (spec_LoopOk.l2 kj25 (ae.length : Int) ax ag 0 ae a0_1 ab ad ((rd_T69 ab ag).f0) ((rd_T69 ab ag).f1) ((rd_T69 ab ag).f2)) = some r := by rw [if_neg (show ¬ (false = true) by decide)] at H; exact H
              clear H; have H := H1; clear H1; have H' := zK H; clear H
              go_wp2
              repeat (go_quiet (fail); try go_wp2)
              go_loopg [8] kj25 (fun kq v8 w' => ∃ (bN : Int), v8 = .int .i64 bN ∧ Aside0 (spec_LoopOk.l2 kq (ae.length : Int) ax ag bN ae a0_1 ab ad ((rd_T69 ab ag).f0) ((rd_T69 ab ag).f1) ((rd_T69 ab ag).f2) = some r) ∧ Aside0 (kq ≤ kj25) ∧ Aside0 (Kd.R (Kd.int .i64) 3 w' w.heap.size (fun _ => True) u4 ax) ∧ Aside0 (w'.heap[ac]? = some (.cells #[(.slice aq ae.length an), .int .i64 a0_1, (.slice (some bj) ab.length ao), (.slice az ad.length ap)] 28 (0, 0))) ∧ Aside0 (w'.heap[am]? = some (.cells #[.int .i64 ((rd_T69 ab ag).f0), .int .i64 ((rd_T69 ab ag).f1), (.slice bJ ((rd_T69 ab ag).f2).length bK)] 69 (0, 0))) ∧ Aside0 (Below w.heap.size w w'))
              case atStart => exact ⟨(0), (by first | rfl | (simp; done) | (simp [*]; done)), H', ⟨Nat.le_refl _⟩, ⟨zR ay⟩, ⟨zk aa⟩, ⟨zk ai⟩, ⟨zb HB⟩⟩
              case round =>
               clear H'
               try clear c1
               try clear c2
               try clear p2
               try clear q2
               try clear hP
               try clear c3
               try clear c4
               try clear c6
               try clear p6
               try clear c8
               try clear c9
               try clear cz
               try clear d1
               try clear fx
               try clear eW
               try clear cE
               try clear fB
               try clear dM
               try clear fC
               try clear dN
               try clear eT
               try clear cF
               try clear cG
               try clear fD
               try clear hQ
               try clear fy
               try clear dO
               try clear fM
               try clear d4
               try clear ij
               try clear fE
               try clear fF
               try clear fA
               try clear ik
               try clear fN
               try clear fO
               try clear il
               try clear im
               try clear io
               try clear gN
               try clear aI
               try clear aJ
               try clear aK
               try clear aM
               try clear aV
               try clear aW
               try clear aX
               try clear aY
               try clear a3
               try clear a4
               try clear a5
               try clear a6
               try clear bP
               try clear bQ
               try clear bR
               try clear bS
               try clear bX
               try clear bY
               try clear bZ
               try clear b0
               try clear b6
               try clear b7
               try clear b8
               try clear b9
               try clear bB
               try clear bC
               try clear bD
               try clear ce
               try clear cf
               try clear cg
               try clear ck
               try clear cl
               try clear cm
               try clear cq
               try clear cr
               try clear ct
               try clear bp
               try clear bq
               try clear br
               try clear bs
               try clear aN
               try clear aQ
               try clear aT
               try clear aU
               try clear aZ
               try clear a0
               try clear a1
               try clear a2
               try clear a7
               try clear a8
               try clear a9
               try clear ba
               try clear bT
               try clear bU
               try clear bV
               try clear bW
               try clear b1
               try clear b2
               try clear b3
               try clear b4
               try clear ca
               try clear cb
               try clear cc
               try clear cd
               try clear bE
               try clear bF
               try clear bG
               try clear ch
               try clear ci
               try clear cj
               try clear cn
               try clear co
               try clear cp
               try clear cu
               try clear cv
               try clear cw
               try clear bu
               try clear bv
               try clear bw
               try clear bx
               try clear aE
               try clear bi
               try clear bk
               try clear bl
               try clear bm
               try clear p2
               try clear fE
               try clear cA
               try clear d2
               try clear ec
               try clear p6
               try clear q2
               try clear fF
               try clear cB
               try clear d3
               try clear ed
               obtain ⟨bN, rfl, HA, eZ, ay, aa, ai, HB⟩ := hrel
               cases gk with
               | zero => exact absurd HA.out (by simp [spec_LoopOk.l2])
               | succ k5 =>
                have H := HA.out; clear HA
                simp only [spec_LoopOk.l2] at H
                by_cases fP : bN < ag
                ·rw [if_pos fP] at H
                 have eh : decide (bN < ag) = true := decide_eq_true fP
                 clear fP
                 by_cases gU : 0 ≤ bN
                 ·rw [if_pos gU] at H
                  have eL : decide (0 ≤ bN) = true := decide_eq_true gU
                  clear gU
                  by_cases gV : bN < (ab.length : Int)
                  ·rw [if_pos gV] at H
                   have eM : decide (bN < (ab.length : Int)) = true := decide_eq_true gV
                   clear gV
                   by_cases fG : ((rd_T69 ab bN).f0) = ((rd_T69 ab ag).f0)
                   ·rw [if_pos fG] at H
                    have ei : (((rd_T69 ab bN).f0) == ((rd_T69 ab ag).f0)) = true := beq_iff_eq.mpr fG
                    have ej : (((rd_T69 ab bN).f0) != ((rd_T69 ab ag).f0)) = false := bne_eq_false_iff_eq.mpr fG
                    clear fG; obtain rfl := Option.some.inj H; have hnb46 := ar.out; have hnc46 := aD.out
                    have cH : wr.cell? ⟨ac, 0, none⟩ = some (.slice aq ae.length an) := (blk_cell aa.out 0).trans rfl
                    have cI : wr.cell? ⟨ac, 1, none⟩ = some (.int .i64 a0_1) := (blk_cell aa.out 1).trans rfl
                    have cJ : wr.cell? ⟨ac, 2, none⟩ = some (.slice (some bj) ab.length ao) := (blk_cell aa.out 2).trans rfl
                    have cK : wr.cell? ⟨ac, 3, none⟩ = some (.slice az ad.length ap) := (blk_cell aa.out 3).trans rfl
                    have cL := blk_frozen aa.out 0; have cM := blk_frozen aa.out 1; have cN := blk_frozen aa.out 2; have cO := blk_frozen aa.out 3
                    have dT : 0 ≤ (bN : Int) := zd
                    have dU : bN < (ab.length : Int) := zd
                    obtain ⟨fQ, hS, hT, hU, bb, bc, bd, cP, cQ⟩ := at_T69 fI.out bN dT dU
                    obtain rfl : bj = fQ := (by injection hU)
                    replace bb := (HB.out.cell (World.block_lt_of_cell? w _ bb)).trans bb
                    replace bc := (HB.out.cell (World.block_lt_of_cell? w _ bc)).trans bc
                    replace bd := (HB.out.cell (World.block_lt_of_cell? w _ bd)).trans bd
                    have gW := zK cQ; have gX := zK cP; clear cQ cP; replace dT := eq_true dT; replace dU := eq_true dU
                    have cR : wr.cell? ⟨am, 0, none⟩ = some (.int .i64 ((rd_T69 ab ag).f0)) := (blk_cell ai.out 0).trans rfl
                    have cS : wr.cell? ⟨am, 1, none⟩ = some (.int .i64 ((rd_T69 ab ag).f1)) := (blk_cell ai.out 1).trans rfl
                    have cT : wr.cell? ⟨am, 2, none⟩ = some (.slice bJ ((rd_T69 ab ag).f2).length bK) := (blk_cell ai.out 2).trans rfl
                    have cU := blk_frozen ai.out 0; have cV := blk_frozen ai.out 1; have cW := blk_frozen ai.out 2
                    go_wp2
                    repeat (go_quiet (fail); try go_wp2)
                    go_ret
                    exact ⟨by first | rfl | (simp [errW_none, errW_some] <;> rfl) | (simp [*, errW_none, errW_some] <;> rfl), by repeat (first | (with_reducible first | exact HB.out | apply zB | apply zC | apply zE | refine zS ?_ ah.out | refine zS ?_ bz.out) | exact HB.out)⟩
                   ·rw [if_neg fG] at H
                    have ei : (((rd_T69 ab bN).f0) == ((rd_T69 ab ag).f0)) = false := beq_eq_false_iff_ne.mpr fG
                    have ej : (((rd_T69 ab bN).f0) != ((rd_T69 ab ag).f0)) = true := bne_iff_ne.mpr fG
                    have H' := zK H; clear H; have hnb49 := ar.out; have hnc49 := aD.out
                    have cX : wr.cell? ⟨ac, 0, none⟩ = some (.slice aq ae.length an) := (blk_cell aa.out 0).trans rfl
                    have cY : wr.cell? ⟨ac, 1, none⟩ = some (.int .i64 a0_1) := (blk_cell aa.out 1).trans rfl
                    have cZ : wr.cell? ⟨ac, 2, none⟩ = some (.slice (some bj) ab.length ao) := (blk_cell aa.out 2).trans rfl
                    have c0 : wr.cell? ⟨ac, 3, none⟩ = some (.slice az ad.length ap) := (blk_cell aa.out 3).trans rfl
                    have da := blk_frozen aa.out 0; have db := blk_frozen aa.out 1; have dc := blk_frozen aa.out 2; have dd := blk_frozen aa.out 3
                    have dT : 0 ≤ (bN : Int) := zd
                    have dU : bN < (ab.length : Int) := zd
                    obtain ⟨fQ, hS, hT, hU, bb, bc, bd, cP, cQ⟩ := at_T69 fI.out bN dT dU
                    obtain rfl : bj = fQ := (by injection hU)
                    replace bb := (HB.out.cell (World.block_lt_of_cell? w _ bb)).trans bb
                    replace bc := (HB.out.cell (World.block_lt_of_cell? w _ bc)).trans bc
                    replace bd := (HB.out.cell (World.block_lt_of_cell? w _ bd)).trans bd
                    have gW := zK cQ; have gX := zK cP; clear cQ cP; replace dT := eq_true dT; replace dU := eq_true dU
                    have de : wr.cell? ⟨am, 0, none⟩ = some (.int .i64 ((rd_T69 ab ag).f0)) := (blk_cell ai.out 0).trans rfl
                    have df : wr.cell? ⟨am, 1, none⟩ = some (.int .i64 ((rd_T69 ab ag).f1)) := (blk_cell ai.out 1).trans rfl
                    have dg : wr.cell? ⟨am, 2, none⟩ = some (.slice bJ ((rd_T69 ab ag).f2).length bK) := (blk_cell ai.out 2).trans rfl
                    have dh := blk_frozen ai.out 0; have di := blk_frozen ai.out 1; have dj := blk_frozen ai.out 2
                    go_wp2
                    repeat (go_quiet (fail); try go_wp2)
                    go_roundg k5
                    case measure => have := d9.out; have := ea.out; have := eG.out; have := gT.out; have := eZ.out; omega
                    case rel => exact ⟨(wrap64 (bN + 1)), (by first | rfl | (simp; done) | (simp [*]; done)), H', ⟨by have := d9.out; have := ea.out; have := eG.out; have := gT.out; have := eZ.out; omega⟩, ⟨zR ay⟩, ⟨zk aa⟩, ⟨zk ai⟩, ⟨zb HB⟩⟩
                  ·rw [if_neg gV] at H
                   exact absurd H (by simp)
                 ·rw [if_neg gU] at H
                  exact absurd H (by simp)
                ·rw [if_neg fP] at H
                 have eh : decide (bN < ag) = false := decide_eq_false fP
                 clear fP
                 by_cases gY : ax.length + ((rd_T69 ab ag).f2).length < 17592186044416
                 ·rw [if_pos gY] at H
                  have fR := zK gY; clear gY
                  obtain ⟨iE, eN⟩ : ∃ y_ : List Int, y_ = (ax ++ ((rd_T69 ab ag).f2)) := ⟨_, rfl⟩
                  replace H : (spec_LoopOk.l1 k5 (ae.length : Int) iE (wrap64 (ag + 1)) ae a0_1 ab ad) = some r := by first | (rw [eN]; with_reducible exact H) | (have H2_ := (Option.bind_some _ _).symm.trans H; rw [eN]; with_reducible exact H2_) | (have H2_ := (Option.bind_some _ _).symm.trans H; with_reducible exact H2_) | with_reducible exact H | (rw [eN]; exact H) | exact H
                  have Ny271 := zK eN; clear eN; have H' := zK H; clear H; have hnb53 := aD.out; have hnc53 := ar.out
                  have dk : wr.cell? ⟨am, 0, none⟩ = some (.int .i64 ((rd_T69 ab ag).f0)) := (blk_cell ai.out 0).trans rfl
                  have dl : wr.cell? ⟨am, 1, none⟩ = some (.int .i64 ((rd_T69 ab ag).f1)) := (blk_cell ai.out 1).trans rfl
                  have dm : wr.cell? ⟨am, 2, none⟩ = some (.slice bJ ((rd_T69 ab ag).f2).length bK) := (blk_cell ai.out 2).trans rfl
                  have dn := blk_frozen ai.out 0; have dp := blk_frozen ai.out 1; have dq := blk_frozen ai.out 2
                  go_wp2_with (first | ((with_reducible refine gate_builtin (b := .append) (xs := #[.tmp 106, .tmp 108]) rfl ?_); (try (refine gate_guard (by rfl) ?_; dsimp only)); at_builtin; refine Kd.R_append_rows (Kd.int .i64) (w0 := w) w.heap.size rfl (.tmp 106) (.tmp 108) 24 3 (.int .i64 0) 8 rfl Try.underlying24 info3 rfl (by decide) (by omega) u4 ax ((rd_T69 ab ag).f2) _ _ _ (fun _ => True) (fun _ => False) rfl rfl ?aO ?aR (fun _ _ h => h) (fun _ h => h.elim) ?aF ?aB ?aS ?aL ?_; (case aR => repeat (first | exact (Kd.C_below ek.out HB.out) | (with_reducible refine Kd.C_alloc ?_ _) | (with_reducible refine Kd.C_drewN ?_ _) | (with_reducible refine Kd.C_drew ?_))); (case aB => exact (zb HB)); (case aF => exact (fun _ _ => trivial)); (case aO => exact (zR ay)); (case aS => exact (below_size (zb HB))); (case aL => have := fR.out; omega); intro iF w55 ho hb hg hat; rw [← Ny271.out] at ho; have bf := zK (blk_grown (g := ac) (o := .cells #[.slice aq ae.length an, .int .i64 a0_1, .slice (some bj) ab.length ao, .slice az ad.length ap] 28 (0, 0)) (zk aa) hg (Kd.R_ne ay.out aa.out (by decide))); have bg := zK (blk_grown (g := am) (o := .cells #[.int .i64 ((rd_T69 ab ag).f0), .int .i64 ((rd_T69 ab ag).f1), .slice bJ ((rd_T69 ab ag).f2).length bK] 69 (0, 0)) (zk ai) hg (Kd.R_ne ay.out ai.out (by decide))); have bh := zK (hb); have bO := zK (ho); clear aa; clear ai; clear HB; clear ay; have aa := bf; have ai := bg; have HB := bh; have fS := bO; clear bf bg bh bO; clear ho hb hg hat))
                  repeat (go_quiet (first | ((with_reducible refine gate_builtin (b := .append) (xs := #[.tmp 106, .tmp 108]) rfl ?_); (try (refine gate_guard (by rfl) ?_; dsimp only)); at_builtin; refine Kd.R_append_rows (Kd.int .i64) (w0 := w) w.heap.size rfl (.tmp 106) (.tmp 108) 24 3 (.int .i64 0) 8 rfl Try.underlying24 info3 rfl (by decide) (by omega) u4 ax ((rd_T69 ab ag).f2) _ _ _ (fun _ => True) (fun _ => False) rfl rfl ?aO ?aR (fun _ _ h => h) (fun _ h => h.elim) ?aF ?aB ?aS ?aL ?_; (case aR => repeat (first | exact (Kd.C_below ek.out HB.out) | (with_reducible refine Kd.C_alloc ?_ _) | (with_reducible refine Kd.C_drewN ?_ _) | (with_reducible refine Kd.C_drew ?_))); (case aB => exact (zb HB)); (case aF => exact (fun _ _ => trivial)); (case aO => exact (zR ay)); (case aS => exact (below_size (zb HB))); (case aL => have := fR.out; omega); intro iF w55 ho hb hg hat; rw [← Ny271.out] at ho; have bf := zK (blk_grown (g := ac) (o := .cells #[.slice aq ae.length an, .int .i64 a0_1, .slice (some bj) ab.length ao, .slice az ad.length ap] 28 (0, 0)) (zk aa) hg (Kd.R_ne ay.out aa.out (by decide))); have bg := zK (blk_grown (g := am) (o := .cells #[.int .i64 ((rd_T69 ab ag).f0), .int .i64 ((rd_T69 ab ag).f1), .slice bJ ((rd_T69 ab ag).f2).length bK] 69 (0, 0)) (zk ai) hg (Kd.R_ne ay.out ai.out (by decide))); have bh := zK (hb); have bO := zK (ho); clear aa; clear ai; clear HB; clear ay; have aa := bf; have ai := bg; have HB := bh; have fS := bO; clear bf bg bh bO; clear ho hb hg hat)); try go_wp2_with (first | ((with_reducible refine gate_builtin (b := .append) (xs := #[.tmp 106, .tmp 108]) rfl ?_); (try (refine gate_guard (by rfl) ?_; dsimp only)); at_builtin; refine Kd.R_append_rows (Kd.int .i64) (w0 := w) w.heap.size rfl (.tmp 106) (.tmp 108) 24 3 (.int .i64 0) 8 rfl Try.underlying24 info3 rfl (by decide) (by omega) u4 ax ((rd_T69 ab ag).f2) _ _ _ (fun _ => True) (fun _ => False) rfl rfl ?aO ?aR (fun _ _ h => h) (fun _ h => h.elim) ?aF ?aB ?aS ?aL ?_; (case aR => repeat (first | exact (Kd.C_below ek.out HB.out) | (with_reducible refine Kd.C_alloc ?_ _) | (with_reducible refine Kd.C_drewN ?_ _) | (with_reducible refine Kd.C_drew ?_))); (case aB => exact (zb HB)); (case aF => exact (fun _ _ => trivial)); (case aO => exact (zR ay)); (case aS => exact (below_size (zb HB))); (case aL => have := fR.out; omega); intro iF w55 ho hb hg hat; rw [← Ny271.out] at ho; have bf := zK (blk_grown (g := ac) (o := .cells #[.slice aq ae.length an, .int .i64 a0_1, .slice (some bj) ab.length ao, .slice az ad.length ap] 28 (0, 0)) (zk aa) hg (Kd.R_ne ay.out aa.out (by decide))); have bg := zK (blk_grown (g := am) (o := .cells #[.int .i64 ((rd_T69 ab ag).f0), .int .i64 ((rd_T69 ab ag).f1), .slice bJ ((rd_T69 ab ag).f2).length bK] 69 (0, 0)) (zk ai) hg (Kd.R_ne ay.out ai.out (by decide))); have bh := zK (hb); have bO := zK (ho); clear aa; clear ai; clear HB; clear ay; have aa := bf; have ai := bg; have HB := bh; have fS := bO; clear bf bg bh bO; clear ho hb hg hat)))
                  go_roundg k5
                  case measure => have := d9.out; have := ea.out; have := eG.out; have := gT.out; have := eZ.out; omega
                  case rel => exact ⟨(iE), (wrap64 (ag + 1)), (by first | rfl | (simp; done) | (simp [*]; done)), H', ⟨by have := d9.out; have := ea.out; have := eG.out; have := gT.out; have := eZ.out; omega⟩, ⟨zR fS⟩, ⟨zk aa⟩, ⟨zb HB⟩⟩
                 ·rw [if_neg gY] at H
                  exact absurd H (by simp)
          ·rw [if_neg fM] at H
           exact absurd H (by simp)
         ·rw [if_neg fy] at H
          have dO : decide (ag < (ab.length : Int)) = false := decide_eq_false fy
          clear fy; have H' := zK H; clear H
          have dr : wr.cell? ⟨ac, 0, none⟩ = some (.slice aq ae.length an) := (blk_cell aa.out 0).trans rfl
          have ds : wr.cell? ⟨ac, 1, none⟩ = some (.int .i64 a0_1) := (blk_cell aa.out 1).trans rfl
          have dt : wr.cell? ⟨ac, 2, none⟩ = some (.slice aw ab.length ao) := (blk_cell aa.out 2).trans rfl
          have du : wr.cell? ⟨ac, 3, none⟩ = some (.slice az ad.length ap) := (blk_cell aa.out 3).trans rfl
          have dv := blk_frozen aa.out 0; have dw := blk_frozen aa.out 1; have dx := blk_frozen aa.out 2; have dy := blk_frozen aa.out 3
          go_wp2
          repeat (go_quiet (fail); try go_wp2)
          go_loopg [9] k3 (fun kq v9 w' => ∃ (aA : Int), v9 = .int .i64 aA ∧ Aside0 (spec_LoopOk.l3 kq ax aA ae a0_1 ab ad = some r) ∧ Aside0 (kq ≤ k3) ∧ Aside0 (Kd.R (Kd.int .i64) 3 w' w.heap.size (fun _ => True) u4 ax) ∧ Aside0 (w'.heap[ac]? = some (.cells #[(.slice aq ae.length an), .int .i64 a0_1, (.slice aw ab.length ao), (.slice az ad.length ap)] 28 (0, 0))) ∧ Aside0 (Below w.heap.size w w'))
          case atStart => exact ⟨(0), (by first | rfl | (simp; done) | (simp [*]; done)), H', ⟨Nat.le_refl _⟩, ⟨zR ay⟩, ⟨zk aa⟩, ⟨zb HB⟩⟩
          case round =>
           clear H'
           try clear c1
           try clear c2
           try clear p2
           try clear q2
           try clear hP
           try clear c3
           try clear c4
           try clear c5
           try clear c6
           try clear p6
           try clear c8
           try clear c9
           try clear cz
           try clear d1
           try clear fx
           try clear eW
           try clear cE
           try clear fB
           try clear dM
           try clear fC
           try clear dN
           try clear eT
           try clear cF
           try clear cG
           try clear fD
           try clear hQ
           try clear fy
           try clear dO
           try clear fM
           try clear d4
           try clear ij
           try clear fE
           try clear fF
           try clear fA
           try clear c27
           try clear hx
           try clear hy
           try clear gZ
           try clear ik
           try clear fN
           try clear fO
           try clear il
           try clear im
           try clear io
           try clear gN
           try clear fP
           try clear eh
           try clear gU
           try clear eL
           try clear gV
           try clear eM
           try clear fG
           try clear ei
           try clear ej
           try clear c46
           try clear c49
           try clear gY
           try clear c53
           try clear aI
           try clear aJ
           try clear aK
           try clear aM
           try clear aV
           try clear aW
           try clear aX
           try clear aY
           try clear a3
           try clear a4
           try clear a5
           try clear a6
           try clear bP
           try clear bQ
           try clear bR
           try clear bS
           try clear bX
           try clear bY
           try clear bZ
           try clear b0
           try clear b6
           try clear b7
           try clear b8
           try clear b9
           try clear bB
           try clear bC
           try clear bD
           try clear ce
           try clear cf
           try clear cg
           try clear ck
           try clear cl
           try clear cm
           try clear cq
           try clear cr
           try clear ct
           try clear cH
           try clear cI
           try clear cJ
           try clear cK
           try clear cR
           try clear cS
           try clear cT
           try clear bp
           try clear bq
           try clear br
           try clear bs
           try clear cX
           try clear cY
           try clear cZ
           try clear c0
           try clear de
           try clear df
           try clear dg
           try clear dk
           try clear dl
           try clear dm
           try clear dr
           try clear ds
           try clear dt
           try clear du
           try clear aN
           try clear aQ
           try clear aT
           try clear aU
           try clear aZ
           try clear a0
           try clear a1
           try clear a2
           try clear a7
           try clear a8
           try clear a9
           try clear ba
           try clear bT
           try clear bU
           try clear bV
           try clear bW
           try clear b1
           try clear b2
           try clear b3
           try clear b4
           try clear ca
           try clear cb
           try clear cc
           try clear cd
           try clear bE
           try clear bF
           try clear bG
           try clear ch
           try clear ci
           try clear cj
           try clear cn
           try clear co
           try clear cp
           try clear cu
           try clear cv
           try clear cw
           try clear cL
           try clear cM
           try clear cN
           try clear cO
           try clear cU
           try clear cV
           try clear cW
           try clear bu
           try clear bv
           try clear bw
           try clear bx
           try clear da
           try clear db
           try clear dc
           try clear dd
           try clear dh
           try clear di
           try clear dj
           try clear dn
           try clear dp
           try clear dq
           try clear dv
           try clear dw
           try clear dx
           try clear dy
           try clear aE
           try clear bi
           try clear bk
           try clear bl
           try clear bm
           try clear bb
           try clear bc
           try clear bd
           try clear p2
           try clear fE
           try clear cA
           try clear d2
           try clear ec
           try clear dT
           try clear p6
           try clear q2
           try clear fF
           try clear cB
           try clear d3
           try clear ed
           try clear dU
           obtain ⟨aA, rfl, HA, fT, ay, aa, HB⟩ := hrel
           cases gk with
           | zero => exact absurd HA.out (by simp [spec_LoopOk.l3])
           | succ k4 =>
            have H := HA.out; clear HA
            simp only [spec_LoopOk.l3] at H
            by_cases gO : aA < (ax.length : Int)
            ·rw [if_pos gO] at H
             have eO : decide (aA < (ax.length : Int)) = true := decide_eq_true gO
             clear gO
             by_cases hz : 0 ≤ aA
             ·rw [if_pos hz] at H
              have e0 : decide (0 ≤ aA) = true := decide_eq_true hz
              clear hz
              by_cases gP : (rd ax aA) < 1
              ·rw [if_pos gP] at H
               have eP : decide ((rd ax aA) < 1) = true := decide_eq_true gP
               clear gP; obtain rfl := Option.some.inj H
               obtain ⟨Ao60, co60, eo60⟩ := Kd.R_slice ay.out
               subst eo60
               have cC : 0 ≤ (aA : Int) := zd
               have cD : aA < (ax.length : Int) := zd
               obtain ⟨dS, fU, cx⟩ := Kd.at_int (Kd.R_reads' ay.out).2.2 aA cC cD
               cases fU
               replace cC := eq_true cC; replace cD := eq_true cD
               go_wp2
               repeat (go_quiet (fail); try go_wp2)
               go_ret
               exact ⟨by first | rfl | (simp [errW_none, errW_some] <;> rfl) | (simp [*, errW_none, errW_some] <;> rfl), by repeat (first | (with_reducible first | exact HB.out | apply zB | apply zC | apply zE | refine zS ?_ ah.out) | exact HB.out)⟩
              ·rw [if_neg gP] at H
               have eP : decide ((rd ax aA) < 1) = false := decide_eq_false gP
               clear gP
               have e1 := eq_true (zd : 0 ≤ aA)
               by_cases g0 : aA ≤ (ax.length : Int)
               ·rw [if_pos g0] at H
                have e2 := eq_true g0
                have e3 : decide (aA ≤ (ax.length : Int)) = true := decide_eq_true g0
                clear g0
                obtain ⟨d5, eQ⟩ : ∃ y_ : List Int, y_ = (ax.take (aA : Int).toNat) := ⟨_, rfl⟩
                replace H : ((spec_l03Has.f k4 d5 (rd ax aA)).bind fun g1 => (if g1 = true then (some false) else (spec_LoopOk.l3 k4 ax (wrap64 (aA + 1)) ae a0_1 ab ad))) = some r := by first | (rw [eQ]; with_reducible exact H) | (have H2_ := (Option.bind_some _ _).symm.trans H; rw [eQ]; with_reducible exact H2_) | (have H2_ := (Option.bind_some _ _).symm.trans H; with_reducible exact H2_) | with_reducible exact H | (rw [eQ]; exact H) | exact H
                have Ny276 := zK eQ; clear eQ; replace H := Option.bind_eq_some_iff.mp H
                obtain ⟨g1, iG, H⟩ := H
                replace H : (if g1 = true then (some false) else (spec_LoopOk.l3 k4 ax (wrap64 (aA + 1)) ae a0_1 ab ad)) = some r := H
                have ip := zK iG; clear iG
                by_cases hA : g1 = true
                ·subst hA
                 have H1 : (some false) = some r := by rw [if_pos rfl] at H; exact H
                 clear H; have H := H1; clear H1; obtain rfl := Option.some.inj H
                 obtain ⟨Ao65, hV, eo65⟩ := Kd.R_slice ay.out
                 subst eo65
                 have cC : 0 ≤ (aA : Int) := zd
                 have cD : aA < (ax.length : Int) := zd
                 obtain ⟨dS, fU, cx⟩ := Kd.at_int (Kd.R_reads' ay.out).2.2 aA cC cD
                 cases fU
                 replace cC := eq_true cC; replace cD := eq_true cD
                 have fV : (aA : Int) ≤ ((ax.length : Int) : Int) := zd
                 obtain ⟨i066, hB, _, iH, _⟩ := info_parts info3
                 have e4 : ax.length ≤ hV := (Kd.R_reads' ay.out).2.1
                 have iI : Kd.C (Kd.int .i64) _ (some dS) ax.length ax := (Kd.R_reads' ay.out).2.2
                 have hW := cut_to (P := Try.prog) 24 3 .i64 Try.underlying24 hB (some dS) ax.length hV aA (zd) fV e4
                 have hX := Kd.C_take (m := (aA : Int).toNat) iI (by omega)
                 have hY : d5.length = (aA : Int).toNat := (by rw [Ny276.out, List.length_take]; omega)
                 rw [← Ny276.out] at hX
                 rw [← hY] at hW
                 have b5 := zK hX
                 have d6 := zK (show d5.length ≤ hV from by omega)
                 clear hX iI e4 hB iH; have KY66 := zK hY; clear hY
                 have KL66 := zK (show (aA : Int).toNat ≤ ax.length from by omega)
                 replace fV := eq_true fV
                 have d7 : 0 ≤ (aA : Int) := zd
                 have d8 : aA < (ax.length : Int) := zd
                 obtain ⟨fW, hZ, dz⟩ := Kd.at_int (Kd.R_reads' ay.out).2.2 aA d7 d8
                 obtain rfl : dS = fW := (by injection hZ)
                 replace d7 := eq_true d7; replace d8 := eq_true d8
                 go_wp2_with (first | (go_at_call 55; (with_reducible refine (spec_l03Has.calls k4 _ _ d5 (rd ax aA) true _ ?side1 ?side2 ip.out).mono ?_); (case side1 => repeat (first | exact (by repeat (first | (with_reducible exact b5.out) | (with_reducible refine Kd.C_alloc ?_ _) | (with_reducible refine Kd.C_drewN ?_ _) | (with_reducible refine Kd.C_drew ?_) | exact b5.out)) | (with_reducible refine Kd.C_alloc ?_ _) | (with_reducible refine Kd.C_drewN ?_ _) | (with_reducible refine Kd.C_drew ?_))); (case side2 => exact d6.out); rintro e w' ⟨rfl, ⟨nd, rfl⟩⟩; (try first | exact ⟨rfl, _, World.drewN_drewN _ _ _⟩ | exact ⟨rfl, _, Eq.trans (World.drewN_drewN _ _ _) (congrArg (World.drewN _) (Nat.add_assoc _ _ _))⟩)))
                 repeat (go_quiet (first | (go_at_call 55; (with_reducible refine (spec_l03Has.calls k4 _ _ d5 (rd ax aA) true _ ?side1 ?side2 ip.out).mono ?_); (case side1 => repeat (first | exact (by repeat (first | (with_reducible exact b5.out) | (with_reducible refine Kd.C_alloc ?_ _) | (with_reducible refine Kd.C_drewN ?_ _) | (with_reducible refine Kd.C_drew ?_) | exact b5.out)) | (with_reducible refine Kd.C_alloc ?_ _) | (with_reducible refine Kd.C_drewN ?_ _) | (with_reducible refine Kd.C_drew ?_))); (case side2 => exact d6.out); rintro e w' ⟨rfl, ⟨nd, rfl⟩⟩; (try first | exact ⟨rfl, _, World.drewN_drewN _ _ _⟩ | exact ⟨rfl, _, Eq.trans (World.drewN_drewN _ _ _) (congrArg (World.drewN _) (Nat.add_assoc _ _ _))⟩))); try go_wp2_with (first | (go_at_call 55; (with_reducible refine (spec_l03Has.calls k4 _ _ d5 (rd ax aA) true _ ?side1 ?side2 ip.out).mono ?_); (case side1 => repeat (first | exact (by repeat (first | (with_reducible exact b5.out) | (with_reducible refine Kd.C_alloc ?_ _) | (with_reducible refine Kd.C_drewN ?_ _) | (with_reducible refine Kd.C_drew ?_) | exact b5.out)) | (with_reducible refine Kd.C_alloc ?_ _) | (with_reducible refine Kd.C_drewN ?_ _) | (with_reducible refine Kd.C_drew ?_))); (case side2 => exact d6.out); rintro e w' ⟨rfl, ⟨nd, rfl⟩⟩; (try first | exact ⟨rfl, _, World.drewN_drewN _ _ _⟩ | exact ⟨rfl, _, Eq.trans (World.drewN_drewN _ _ _) (congrArg (World.drewN _) (Nat.add_assoc _ _ _))⟩))))
                 go_ret
                 exact ⟨by first | rfl | (simp [errW_none, errW_some] <;> rfl) | (simp [*, errW_none, errW_some] <;> rfl), by repeat (first | (with_reducible first | exact HB.out | apply zB | apply zC | apply zE | refine zS ?_ ah.out) | exact HB.out)⟩
                ·replace hA := Bool.eq_false_iff.mpr hA
                 subst hA
                 have H1 : (spec_LoopOk.l3 k4 ax (wrap64 (aA + 1)) ae a0_1 ab ad) = some r := by rw [if_neg (show ¬ (false = true) by decide)] at H; exact H
                 clear H; have H := H1; clear H1; have H' := zK H; clear H
                 obtain ⟨Ao67, h0, eo67⟩ := Kd.R_slice ay.out
                 subst eo67
                 have cC : 0 ≤ (aA : Int) := zd
                 have cD : aA < (ax.length : Int) := zd
                 obtain ⟨dS, fU, cx⟩ := Kd.at_int (Kd.R_reads' ay.out).2.2 aA cC cD
                 cases fU
                 replace cC := eq_true cC; replace cD := eq_true cD
                 have fX : (aA : Int) ≤ ((ax.length : Int) : Int) := zd
                 obtain ⟨i068, hC, _, iJ, _⟩ := info_parts info3
                 have e5 : ax.length ≤ h0 := (Kd.R_reads' ay.out).2.1
                 have iK : Kd.C (Kd.int .i64) _ (some dS) ax.length ax := (Kd.R_reads' ay.out).2.2
                 have h1 := cut_to (P := Try.prog) 24 3 .i64 Try.underlying24 hC (some dS) ax.length h0 aA (zd) fX e5
                 have h2 := Kd.C_take (m := (aA : Int).toNat) iK (by omega)
                 have h3 : d5.length = (aA : Int).toNat := (by rw [Ny276.out, List.length_take]; omega)
                 rw [← Ny276.out] at h2
                 rw [← h3] at h1
                 have b5 := zK h2
                 have d6 := zK (show d5.length ≤ h0 from by omega)
                 clear h2 iK e5 hC iJ; have KY68 := zK h3; clear h3
                 have KL68 := zK (show (aA : Int).toNat ≤ ax.length from by omega)
                 replace fX := eq_true fX
                 have d7 : 0 ≤ (aA : Int) := zd
                 have d8 : aA < (ax.length : Int) := zd
                 obtain ⟨fW, hZ, dz⟩ := Kd.at_int (Kd.R_reads' ay.out).2.2 aA d7 d8
                 obtain rfl : dS = fW := (by injection hZ)
                 replace d7 := eq_true d7; replace d8 := eq_true d8
                 go_wp2_with (first | (go_at_call 55; (with_reducible refine (spec_l03Has.calls k4 _ _ d5 (rd ax aA) false _ ?side1 ?side2 ip.out).mono ?_); (case side1 => repeat (first | exact (by repeat (first | (with_reducible exact b5.out) | (with_reducible refine Kd.C_alloc ?_ _) | (with_reducible refine Kd.C_drewN ?_ _) | (with_reducible refine Kd.C_drew ?_) | exact b5.out)) | (with_reducible refine Kd.C_alloc ?_ _) | (with_reducible refine Kd.C_drewN ?_ _) | (with_reducible refine Kd.C_drew ?_))); (case side2 => exact d6.out); rintro e w' ⟨rfl, ⟨nd, rfl⟩⟩; (try first | exact ⟨rfl, _, World.drewN_drewN _ _ _⟩ | exact ⟨rfl, _, Eq.trans (World.drewN_drewN _ _ _) (congrArg (World.drewN _) (Nat.add_assoc _ _ _))⟩)))
                 repeat (go_quiet (first | (go_at_call 55; (with_reducible refine (spec_l03Has.calls k4 _ _ d5 (rd ax aA) false _ ?side1 ?side2 ip.out).mono ?_); (case side1 => repeat (first | exact (by repeat (first | (with_reducible exact b5.out) | (with_reducible refine Kd.C_alloc ?_ _) | (with_reducible refine Kd.C_drewN ?_ _) | (with_reducible refine Kd.C_drew ?_) | exact b5.out)) | (with_reducible refine Kd.C_alloc ?_ _) | (with_reducible refine Kd.C_drewN ?_ _) | (with_reducible refine Kd.C_drew ?_))); (case side2 => exact d6.out); rintro e w' ⟨rfl, ⟨nd, rfl⟩⟩; (try first | exact ⟨rfl, _, World.drewN_drewN _ _ _⟩ | exact ⟨rfl, _, Eq.trans (World.drewN_drewN _ _ _) (congrArg (World.drewN _) (Nat.add_assoc _ _ _))⟩))); try go_wp2_with (first | (go_at_call 55; (with_reducible refine (spec_l03Has.calls k4 _ _ d5 (rd ax aA) false _ ?side1 ?side2 ip.out).mono ?_); (case side1 => repeat (first | exact (by repeat (first | (with_reducible exact b5.out) | (with_reducible refine Kd.C_alloc ?_ _) | (with_reducible refine Kd.C_drewN ?_ _) | (with_reducible refine Kd.C_drew ?_) | exact b5.out)) | (with_reducible refine Kd.C_alloc ?_ _) | (with_reducible refine Kd.C_drewN ?_ _) | (with_reducible refine Kd.C_drew ?_))); (case side2 => exact d6.out); rintro e w' ⟨rfl, ⟨nd, rfl⟩⟩; (try first | exact ⟨rfl, _, World.drewN_drewN _ _ _⟩ | exact ⟨rfl, _, Eq.trans (World.drewN_drewN _ _ _) (congrArg (World.drewN _) (Nat.add_assoc _ _ _))⟩))))
                 go_roundg k4
                 case measure => have := d9.out; have := ea.out; have := eG.out; have := fT.out; omega
                 case rel => exact ⟨(wrap64 (aA + 1)), (by first | rfl | (simp; done) | (simp [*]; done)), H', ⟨by have := d9.out; have := ea.out; have := eG.out; have := fT.out; omega⟩, ⟨zR ay⟩, ⟨zk aa⟩, ⟨zb HB⟩⟩
               ·rw [if_neg g0] at H
                exact absurd H (by simp)
             ·rw [if_neg hz] at H
              exact absurd H (by simp)
            ·rw [if_neg gO] at H
             have eO : decide (aA < (ax.length : Int)) = false := decide_eq_false gO
             clear gO; have H' := zK H; clear H
             obtain ⟨Ao69, co69, eo69⟩ := Kd.R_slice ay.out
             subst eo69
             go_wp2
             repeat (go_quiet (fail); try go_wp2)
             go_loopg [10] k4 (fun kq v10 w' => ∃ (af : Int), v10 = .int .i64 af ∧ Aside0 (spec_LoopOk.l4 kq af ae a0_1 ab ad = some r) ∧ Aside0 (kq ≤ k4) ∧ Aside0 (w'.heap[ac]? = some (.cells #[(.slice aq ae.length an), .int .i64 a0_1, (.slice aw ab.length ao), (.slice az ad.length ap)] 28 (0, 0))) ∧ Aside0 (Below w.heap.size w w'))
             case atStart => exact ⟨(0), (by first | rfl | (simp; done) | (simp [*]; done)), H', ⟨Nat.le_refl _⟩, ⟨zk aa⟩, ⟨zb HB⟩⟩
             case round =>
              clear H'
              try clear c1
              try clear c2
              try clear p2
              try clear q2
              try clear hP
              try clear c3
              try clear c4
              try clear c5
              try clear c6
              try clear p6
              try clear q6
              try clear c8
              try clear c9
              try clear cz
              try clear d1
              try clear fx
              try clear eW
              try clear cE
              try clear fB
              try clear dM
              try clear fC
              try clear dN
              try clear eT
              try clear cF
              try clear cG
              try clear fD
              try clear hQ
              try clear fy
              try clear dO
              try clear fM
              try clear d4
              try clear ij
              try clear fE
              try clear fF
              try clear fA
              try clear c27
              try clear hx
              try clear hy
              try clear gZ
              try clear iq
              try clear ir
              try clear h4
              try clear ik
              try clear fN
              try clear fO
              try clear il
              try clear im
              try clear io
              try clear gN
              try clear fP
              try clear eh
              try clear gU
              try clear eL
              try clear gV
              try clear eM
              try clear fG
              try clear ei
              try clear ej
              try clear c46
              try clear c49
              try clear gY
              try clear c53
              try clear gO
              try clear eO
              try clear hz
              try clear e0
              try clear gP
              try clear eP
              try clear c61
              try clear e1
              try clear g0
              try clear e2
              try clear e3
              try clear hA
              try clear it
              try clear fV
              try clear fX
              try clear aI
              try clear aJ
              try clear aK
              try clear aM
              try clear aV
              try clear aW
              try clear aX
              try clear aY
              try clear a3
              try clear a4
              try clear a5
              try clear a6
              try clear bP
              try clear bQ
              try clear bR
              try clear bS
              try clear bX
              try clear bY
              try clear bZ
              try clear b0
              try clear b6
              try clear b7
              try clear b8
              try clear b9
              try clear bB
              try clear bC
              try clear bD
              try clear ce
              try clear cf
              try clear cg
              try clear ck
              try clear cl
              try clear cm
              try clear cq
              try clear cr
              try clear ct
              try clear cH
              try clear cI
              try clear cJ
              try clear cK
              try clear cR
              try clear cS
              try clear cT
              try clear bp
              try clear bq
              try clear br
              try clear bs
              try clear cX
              try clear cY
              try clear cZ
              try clear c0
              try clear de
              try clear df
              try clear dg
              try clear dk
              try clear dl
              try clear dm
              try clear dr
              try clear ds
              try clear dt
              try clear du
              try clear aN
              try clear aQ
              try clear aT
              try clear aU
              try clear aZ
              try clear a0
              try clear a1
              try clear a2
              try clear a7
              try clear a8
              try clear a9
              try clear ba
              try clear bT
              try clear bU
              try clear bV
              try clear bW
              try clear b1
              try clear b2
              try clear b3
              try clear b4
              try clear ca
              try clear cb
              try clear cc
              try clear cd
              try clear bE
              try clear bF
              try clear bG
              try clear ch
              try clear ci
              try clear cj
              try clear cn
              try clear co
              try clear cp
              try clear cu
              try clear cv
              try clear cw
              try clear cL
              try clear cM
              try clear cN
              try clear cO
              try clear cU
              try clear cV
              try clear cW
              try clear bu
              try clear bv
              try clear bw
              try clear bx
              try clear da
              try clear db
              try clear dc
              try clear dd
              try clear dh
              try clear di
              try clear dj
              try clear dn
              try clear dp
              try clear dq
              try clear dv
              try clear dw
              try clear dx
              try clear dy
              try clear aE
              try clear bi
              try clear bk
              try clear bl
              try clear bm
              try clear bb
              try clear bc
              try clear bd
              try clear cx
              try clear dz
              try clear p2
              try clear fE
              try clear cA
              try clear d2
              try clear ec
              try clear hx
              try clear dT
              try clear cC
              try clear d7
              try clear p6
              try clear q2
              try clear fF
              try clear cB
              try clear d3
              try clear ed
              try clear hy
              try clear dU
              try clear cD
              try clear d8
              try clear fV
              try clear fX
              obtain ⟨af, rfl, HA, eZ, aa, HB⟩ := hrel
              cases gk with
              | zero => exact absurd HA.out (by simp [spec_LoopOk.l4])
              | succ k5 =>
               have H := HA.out; clear HA
               simp only [spec_LoopOk.l4] at H
               by_cases g2 : af < (ad.length : Int)
               ·rw [if_pos g2] at H
                have e6 : decide (af < (ad.length : Int)) = true := decide_eq_true g2
                clear g2
                by_cases h5 : 0 ≤ af
                ·rw [if_pos h5] at H
                 have fY : decide (0 ≤ af) = true := decide_eq_true h5
                 clear h5
                 by_cases g3 : ((rd_T74 ad af).f0) < 1
                 ·rw [if_pos g3] at H
                  have e7 : decide (((rd_T74 ad af).f0) < 1) = true := decide_eq_true g3
                  clear g3; obtain rfl := Option.some.inj H
                  have em : wr.cell? ⟨ac, 0, none⟩ = some (.slice aq ae.length an) := (blk_cell aa.out 0).trans rfl
                  have en : wr.cell? ⟨ac, 1, none⟩ = some (.int .i64 a0_1) := (blk_cell aa.out 1).trans rfl
                  have eo : wr.cell? ⟨ac, 2, none⟩ = some (.slice aw ab.length ao) := (blk_cell aa.out 2).trans rfl
                  have ep : wr.cell? ⟨ac, 3, none⟩ = some (.slice az ad.length ap) := (blk_cell aa.out 3).trans rfl
                  have er := blk_frozen aa.out 0; have es := blk_frozen aa.out 1; have et := blk_frozen aa.out 2; have eu := blk_frozen aa.out 3
                  have ee : 0 ≤ (af : Int) := zd
                  have ef : af < (ad.length : Int) := zd
                  obtain ⟨aC, bL, bM, h6, bn, bo, dA, dB⟩ := at_T74 eU.out af ee ef
                  cases h6
                  replace bn := (HB.out.cell (World.block_lt_of_cell? w _ bn)).trans bn
                  replace bo := (HB.out.cell (World.block_lt_of_cell? w _ bo)).trans bo
                  have cy := zK dB; have g4 := zK dA; clear dB dA; replace ee := eq_true ee; replace ef := eq_true ef
                  go_wp2_with (first | ((with_reducible refine gate_dst (N := 11) rfl ?_); (try (refine gate_guard (by rfl) ?_; dsimp only)); refine box_event ?hg (N := 11) ?hd (cs := #[.int .i64 0, .slice none 0 0]) (t := 74) ?hr ?_; (case hd => rfl); (case hg => rfl); (case hr => first | (go_simp; done) | (go_simp; rfl)); intro ak hg hD hbox hb; have bf := zK (blk_below (g := ac) (o := .cells #[.slice aq ae.length an, .int .i64 a0_1, .slice aw ab.length ao, .slice (some aC) ad.length ap] 28 (0, 0)) (zk aa) hb); have bg := zK (below_step (zb HB) hb); have bh := zK (hbox); have bO := zK ((by rw [hg]; exact (below_size (zb HB)) : w.heap.size ≤ ak)); have dP := zK ((by rw [hg]; exact (below_size (zb HB)) : w.heap.size ≤ ak)); have dQ := zK ((by rw [hg]; exact Nat.ne_of_lt (blk_lt (g := ac) (o := .cells #[.slice aq ae.length an, .int .i64 a0_1, .slice aw ab.length ao, .slice (some aC) ad.length ap] 28 (0, 0)) (zk aa)) : ac ≠ ak)); have dR := zK ((by rw [hg]; exact Nat.ne_of_gt (blk_lt (g := ac) (o := .cells #[.slice aq ae.length an, .int .i64 a0_1, .slice aw ab.length ao, .slice (some aC) ad.length ap] 28 (0, 0)) (zk aa)) : ak ≠ ac)); clear aa; clear HB; have aa := bf; have HB := bg; have aj := bh; have eR := bO; have bA := dP; have au := dQ; have av := dR; clear bf bg bh bO dP dQ dR; clear hb hbox hg; have hE := av.out; have hF := au.out; have dC : hD.cell? ⟨ak, 0, none⟩ = some (.int .i64 0) := (blk_cell aj.out 0).trans rfl; have dD : hD.cell? ⟨ak, 1, none⟩ = some (.slice none 0 0) := (blk_cell aj.out 1).trans rfl; have dE := blk_frozen aj.out 0; have dF := blk_frozen aj.out 1))
                  repeat (go_quiet (first | ((with_reducible refine gate_dst (N := 11) rfl ?_); (try (refine gate_guard (by rfl) ?_; dsimp only)); refine box_event ?hg (N := 11) ?hd (cs := #[.int .i64 0, .slice none 0 0]) (t := 74) ?hr ?_; (case hd => rfl); (case hg => rfl); (case hr => first | (go_simp; done) | (go_simp; rfl)); intro ak hg hD hbox hb; have bf := zK (blk_below (g := ac) (o := .cells #[.slice aq ae.length an, .int .i64 a0_1, .slice aw ab.length ao, .slice (some aC) ad.length ap] 28 (0, 0)) (zk aa) hb); have bg := zK (below_step (zb HB) hb); have bh := zK (hbox); have bO := zK ((by rw [hg]; exact (below_size (zb HB)) : w.heap.size ≤ ak)); have dP := zK ((by rw [hg]; exact (below_size (zb HB)) : w.heap.size ≤ ak)); have dQ := zK ((by rw [hg]; exact Nat.ne_of_lt (blk_lt (g := ac) (o := .cells #[.slice aq ae.length an, .int .i64 a0_1, .slice aw ab.length ao, .slice (some aC) ad.length ap] 28 (0, 0)) (zk aa)) : ac ≠ ak)); have dR := zK ((by rw [hg]; exact Nat.ne_of_gt (blk_lt (g := ac) (o := .cells #[.slice aq ae.length an, .int .i64 a0_1, .slice aw ab.length ao, .slice (some aC) ad.length ap] 28 (0, 0)) (zk aa)) : ak ≠ ac)); clear aa; clear HB; have aa := bf; have HB := bg; have aj := bh; have eR := bO; have bA := dP; have au := dQ; have av := dR; clear bf bg bh bO dP dQ dR; clear hb hbox hg; have hE := av.out; have hF := au.out; have dC : hD.cell? ⟨ak, 0, none⟩ = some (.int .i64 0) := (blk_cell aj.out 0).trans rfl; have dD : hD.cell? ⟨ak, 1, none⟩ = some (.slice none 0 0) := (blk_cell aj.out 1).trans rfl; have dE := blk_frozen aj.out 0; have dF := blk_frozen aj.out 1)); try go_wp2_with (first | ((with_reducible refine gate_dst (N := 11) rfl ?_); (try (refine gate_guard (by rfl) ?_; dsimp only)); refine box_event ?hg (N := 11) ?hd (cs := #[.int .i64 0, .slice none 0 0]) (t := 74) ?hr ?_; (case hd => rfl); (case hg => rfl); (case hr => first | (go_simp; done) | (go_simp; rfl)); intro ak hg hD hbox hb; have bf := zK (blk_below (g := ac) (o := .cells #[.slice aq ae.length an, .int .i64 a0_1, .slice aw ab.length ao, .slice (some aC) ad.length ap] 28 (0, 0)) (zk aa) hb); have bg := zK (below_step (zb HB) hb); have bh := zK (hbox); have bO := zK ((by rw [hg]; exact (below_size (zb HB)) : w.heap.size ≤ ak)); have dP := zK ((by rw [hg]; exact (below_size (zb HB)) : w.heap.size ≤ ak)); have dQ := zK ((by rw [hg]; exact Nat.ne_of_lt (blk_lt (g := ac) (o := .cells #[.slice aq ae.length an, .int .i64 a0_1, .slice aw ab.length ao, .slice (some aC) ad.length ap] 28 (0, 0)) (zk aa)) : ac ≠ ak)); have dR := zK ((by rw [hg]; exact Nat.ne_of_gt (blk_lt (g := ac) (o := .cells #[.slice aq ae.length an, .int .i64 a0_1, .slice aw ab.length ao, .slice (some aC) ad.length ap] 28 (0, 0)) (zk aa)) : ak ≠ ac)); clear aa; clear HB; have aa := bf; have HB := bg; have aj := bh; have eR := bO; have bA := dP; have au := dQ; have av := dR; clear bf bg bh bO dP dQ dR; clear hb hbox hg; have hE := av.out; have hF := au.out; have dC : hD.cell? ⟨ak, 0, none⟩ = some (.int .i64 0) := (blk_cell aj.out 0).trans rfl; have dD : hD.cell? ⟨ak, 1, none⟩ = some (.slice none 0 0) := (blk_cell aj.out 1).trans rfl; have dE := blk_frozen aj.out 0; have dF := blk_frozen aj.out 1)))
                  go_ret
                  exact ⟨by first | rfl | (simp [errW_none, errW_some] <;> rfl) | (simp [*, errW_none, errW_some] <;> rfl), by repeat (first | (with_reducible first | exact HB.out | apply zB | apply zC | apply zE | refine zS ?_ ah.out | refine zS ?_ bA.out) | exact HB.out)⟩
                 ·rw [if_neg g3] at H
                  have e7 : decide (((rd_T74 ad af).f0) < 1) = false := decide_eq_false g3
                  clear g3; have H' := zK H; clear H
                  have ew : wr.cell? ⟨ac, 0, none⟩ = some (.slice aq ae.length an) := (blk_cell aa.out 0).trans rfl
                  have ex : wr.cell? ⟨ac, 1, none⟩ = some (.int .i64 a0_1) := (blk_cell aa.out 1).trans rfl
                  have ey : wr.cell? ⟨ac, 2, none⟩ = some (.slice aw ab.length ao) := (blk_cell aa.out 2).trans rfl
                  have ez : wr.cell? ⟨ac, 3, none⟩ = some (.slice az ad.length ap) := (blk_cell aa.out 3).trans rfl
                  have eA := blk_frozen aa.out 0; have eB := blk_frozen aa.out 1; have eC := blk_frozen aa.out 2; have eD := blk_frozen aa.out 3
                  have ee : 0 ≤ (af : Int) := zd
                  have ef : af < (ad.length : Int) := zd
                  obtain ⟨aC, bL, bM, h6, bn, bo, dA, dB⟩ := at_T74 eU.out af ee ef
                  cases h6
                  replace bn := (HB.out.cell (World.block_lt_of_cell? w _ bn)).trans bn
                  replace bo := (HB.out.cell (World.block_lt_of_cell? w _ bo)).trans bo
                  have cy := zK dB; have g4 := zK dA; clear dB dA; replace ee := eq_true ee; replace ef := eq_true ef
                  go_wp2_with (first | ((with_reducible refine gate_dst (N := 11) rfl ?_); (try (refine gate_guard (by rfl) ?_; dsimp only)); refine box_event ?hg (N := 11) ?hd (cs := #[.int .i64 0, .slice none 0 0]) (t := 74) ?hr ?_; (case hd => rfl); (case hg => rfl); (case hr => first | (go_simp; done) | (go_simp; rfl)); intro ak hg hG hbox hb; have bf := zK (blk_below (g := ac) (o := .cells #[.slice aq ae.length an, .int .i64 a0_1, .slice aw ab.length ao, .slice (some aC) ad.length ap] 28 (0, 0)) (zk aa) hb); have bg := zK (below_step (zb HB) hb); have bh := zK (hbox); have bO := zK ((by rw [hg]; exact (below_size (zb HB)) : w.heap.size ≤ ak)); have dP := zK ((by rw [hg]; exact (below_size (zb HB)) : w.heap.size ≤ ak)); have dQ := zK ((by rw [hg]; exact Nat.ne_of_lt (blk_lt (g := ac) (o := .cells #[.slice aq ae.length an, .int .i64 a0_1, .slice aw ab.length ao, .slice (some aC) ad.length ap] 28 (0, 0)) (zk aa)) : ac ≠ ak)); have dR := zK ((by rw [hg]; exact Nat.ne_of_gt (blk_lt (g := ac) (o := .cells #[.slice aq ae.length an, .int .i64 a0_1, .slice aw ab.length ao, .slice (some aC) ad.length ap] 28 (0, 0)) (zk aa)) : ak ≠ ac)); clear aa; clear HB; have aa := bf; have HB := bg; have aj := bh; have eR := bO; have bA := dP; have au := dQ; have av := dR; clear bf bg bh bO dP dQ dR; clear hb hbox hg; have hH := av.out; have hI := au.out; have dG : hG.cell? ⟨ak, 0, none⟩ = some (.int .i64 0) := (blk_cell aj.out 0).trans rfl; have dH : hG.cell? ⟨ak, 1, none⟩ = some (.slice none 0 0) := (blk_cell aj.out 1).trans rfl; have dI := blk_frozen aj.out 0; have dJ := blk_frozen aj.out 1))
                  repeat (go_quiet (first | ((with_reducible refine gate_dst (N := 11) rfl ?_); (try (refine gate_guard (by rfl) ?_; dsimp only)); refine box_event ?hg (N := 11) ?hd (cs := #[.int .i64 0, .slice none 0 0]) (t := 74) ?hr ?_; (case hd => rfl); (case hg => rfl); (case hr => first | (go_simp; done) | (go_simp; rfl)); intro ak hg hG hbox hb; have bf := zK (blk_below (g := ac) (o := .cells #[.slice aq ae.length an, .int .i64 a0_1, .slice aw ab.length ao, .slice (some aC) ad.length ap] 28 (0, 0)) (zk aa) hb); have bg := zK (below_step (zb HB) hb); have bh := zK (hbox); have bO := zK ((by rw [hg]; exact (below_size (zb HB)) : w.heap.size ≤ ak)); have dP := zK ((by rw [hg]; exact (below_size (zb HB)) : w.heap.size ≤ ak)); have dQ := zK ((by rw [hg]; exact Nat.ne_of_lt (blk_lt (g := ac) (o := .cells #[.slice aq ae.length an, .int .i64 a0_1, .slice aw ab.length ao, .slice (some aC) ad.length ap] 28 (0, 0)) (zk aa)) : ac ≠ ak)); have dR := zK ((by rw [hg]; exact Nat.ne_of_gt (blk_lt (g := ac) (o := .cells #[.slice aq ae.length an, .int .i64 a0_1, .slice aw ab.length ao, .slice (some aC) ad.length ap] 28 (0, 0)) (zk aa)) : ak ≠ ac)); clear aa; clear HB; have aa := bf; have HB := bg; have aj := bh; have eR := bO; have bA := dP; have au := dQ; have av := dR; clear bf bg bh bO dP dQ dR; clear hb hbox hg; have hH := av.out; have hI := au.out; have dG : hG.cell? ⟨ak, 0, none⟩ = some (.int .i64 0) := (blk_cell aj.out 0).trans rfl; have dH : hG.cell? ⟨ak, 1, none⟩ = some (.slice none 0 0) := (blk_cell aj.out 1).trans rfl; have dI := blk_frozen aj.out 0; have dJ := blk_frozen aj.out 1)); try go_wp2_with (first | ((with_reducible refine gate_dst (N := 11) rfl ?_); (try (refine gate_guard (by rfl) ?_; dsimp only)); refine box_event ?hg (N := 11) ?hd (cs := #[.int .i64 0, .slice none 0 0]) (t := 74) ?hr ?_; (case hd => rfl); (case hg => rfl); (case hr => first | (go_simp; done) | (go_simp; rfl)); intro ak hg hG hbox hb; have bf := zK (blk_below (g := ac) (o := .cells #[.slice aq ae.length an, .int .i64 a0_1, .slice aw ab.length ao, .slice (some aC) ad.length ap] 28 (0, 0)) (zk aa) hb); have bg := zK (below_step (zb HB) hb); have bh := zK (hbox); have bO := zK ((by rw [hg]; exact (below_size (zb HB)) : w.heap.size ≤ ak)); have dP := zK ((by rw [hg]; exact (below_size (zb HB)) : w.heap.size ≤ ak)); have dQ := zK ((by rw [hg]; exact Nat.ne_of_lt (blk_lt (g := ac) (o := .cells #[.slice aq ae.length an, .int .i64 a0_1, .slice aw ab.length ao, .slice (some aC) ad.length ap] 28 (0, 0)) (zk aa)) : ac ≠ ak)); have dR := zK ((by rw [hg]; exact Nat.ne_of_gt (blk_lt (g := ac) (o := .cells #[.slice aq ae.length an, .int .i64 a0_1, .slice aw ab.length ao, .slice (some aC) ad.length ap] 28 (0, 0)) (zk aa)) : ak ≠ ac)); clear aa; clear HB; have aa := bf; have HB := bg; have aj := bh; have eR := bO; have bA := dP; have au := dQ; have av := dR; clear bf bg bh bO dP dQ dR; clear hb hbox hg; have hH := av.out; have hI := au.out; have dG : hG.cell? ⟨ak, 0, none⟩ = some (.int .i64 0) := (blk_cell aj.out 0).trans rfl; have dH : hG.cell? ⟨ak, 1, none⟩ = some (.slice none 0 0) := (blk_cell aj.out 1).trans rfl; have dI := blk_frozen aj.out 0; have dJ := blk_frozen aj.out 1)))
                  go_loopg [12] k5 (fun kq v12 w' => ∃ (aH : Int), v12 = .int .i64 aH ∧ Aside0 (spec_LoopOk.l5 kq af aH ae a0_1 ab ad ((rd_T74 ad af).f0) ((rd_T74 ad af).f1) = some r) ∧ Aside0 (kq ≤ k5) ∧ Aside0 (w'.heap[ac]? = some (.cells #[(.slice aq ae.length an), .int .i64 a0_1, (.slice aw ab.length ao), (.slice (some aC) ad.length ap)] 28 (0, 0))) ∧ Aside0 (w'.heap[ak]? = some (.cells #[.int .i64 ((rd_T74 ad af).f0), (.slice bL ((rd_T74 ad af).f1).length bM)] 74 (0, 0))) ∧ Aside0 (Below w.heap.size w w'))
                  case atStart => exact ⟨(0), (by first | rfl | (simp; done) | (simp [*]; done)), H', ⟨Nat.le_refl _⟩, ⟨by (with_reducible repeat (first | refine zN ?_ _ | refine zD ?_ | refine zA ?_ _)); refine blk_far ?_ au.out _; (with_reducible repeat (first | refine zN ?_ _ | refine zD ?_ | refine zA ?_ _)); refine blk_far ?_ au.out _; (with_reducible repeat (first | refine zN ?_ _ | refine zD ?_ | refine zA ?_ _)); exact aa.out⟩, ⟨by (with_reducible repeat (first | refine zN ?_ _ | refine zD ?_ | refine zA ?_ _)); refine blk_put (cs := #[.int .i64 ((rd_T74 ad af).f0), .slice none 0 0]) ?_ 1 _ rfl; (with_reducible repeat (first | refine zN ?_ _ | refine zD ?_ | refine zA ?_ _)); refine blk_put (cs := #[.int .i64 0, .slice none 0 0]) ?_ 0 _ rfl; (with_reducible repeat (first | refine zN ?_ _ | refine zD ?_ | refine zA ?_ _)); exact aj.out⟩, ⟨zb HB⟩⟩
                  case round =>
                   clear H'
                   try clear c1
                   try clear c2
                   try clear p2
                   try clear q2
                   try clear hP
                   try clear c3
                   try clear c4
                   try clear c5
                   try clear c6
                   try clear p6
                   try clear q6
                   try clear c7
                   try clear c8
                   try clear c9
                   try clear cz
                   try clear d1
                   try clear fx
                   try clear eW
                   try clear cE
                   try clear fB
                   try clear dM
                   try clear fC
                   try clear dN
                   try clear eT
                   try clear cF
                   try clear cG
                   try clear fD
                   try clear hQ
                   try clear fy
                   try clear dO
                   try clear fM
                   try clear d4
                   try clear ij
                   try clear fE
                   try clear fF
                   try clear fA
                   try clear c27
                   try clear hx
                   try clear hy
                   try clear gZ
                   try clear c28
                   try clear iq
                   try clear ir
                   try clear h4
                   try clear ik
                   try clear fN
                   try clear fO
                   try clear il
                   try clear im
                   try clear io
                   try clear gN
                   try clear fP
                   try clear eh
                   try clear gU
                   try clear eL
                   try clear gV
                   try clear eM
                   try clear fG
                   try clear ei
                   try clear ej
                   try clear c46
                   try clear c49
                   try clear gY
                   try clear c53
                   try clear gO
                   try clear eO
                   try clear hz
                   try clear e0
                   try clear gP
                   try clear eP
                   try clear c61
                   try clear e1
                   try clear g0
                   try clear e2
                   try clear e3
                   try clear hA
                   try clear it
                   try clear fV
                   try clear fX
                   try clear g2
                   try clear e6
                   try clear h5
                   try clear fY
                   try clear g3
                   try clear e7
                   try clear c75
                   try clear c79
                   try clear aI
                   try clear aJ
                   try clear aK
                   try clear aM
                   try clear aV
                   try clear aW
                   try clear aX
                   try clear aY
                   try clear a3
                   try clear a4
                   try clear a5
                   try clear a6
                   try clear bP
                   try clear bQ
                   try clear bR
                   try clear bS
                   try clear bX
                   try clear bY
                   try clear bZ
                   try clear b0
                   try clear b6
                   try clear b7
                   try clear b8
                   try clear b9
                   try clear bB
                   try clear bC
                   try clear bD
                   try clear ce
                   try clear cf
                   try clear cg
                   try clear ck
                   try clear cl
                   try clear cm
                   try clear cq
                   try clear cr
                   try clear ct
                   try clear cH
                   try clear cI
                   try clear cJ
                   try clear cK
                   try clear cR
                   try clear cS
                   try clear cT
                   try clear bp
                   try clear bq
                   try clear br
                   try clear bs
                   try clear cX
                   try clear cY
                   try clear cZ
                   try clear c0
                   try clear de
                   try clear df
                   try clear dg
                   try clear dk
                   try clear dl
                   try clear dm
                   try clear dr
                   try clear ds
                   try clear dt
                   try clear du
                   try clear em
                   try clear en
                   try clear eo
                   try clear ep
                   try clear dC
                   try clear dD
                   try clear ew
                   try clear ex
                   try clear ey
                   try clear ez
                   try clear dG
                   try clear dH
                   try clear aN
                   try clear aQ
                   try clear aT
                   try clear aU
                   try clear aZ
                   try clear a0
                   try clear a1
                   try clear a2
                   try clear a7
                   try clear a8
                   try clear a9
                   try clear ba
                   try clear bT
                   try clear bU
                   try clear bV
                   try clear bW
                   try clear b1
                   try clear b2
                   try clear b3
                   try clear b4
                   try clear ca
                   try clear cb
                   try clear cc
                   try clear cd
                   try clear bE
                   try clear bF
                   try clear bG
                   try clear ch
                   try clear ci
                   try clear cj
                   try clear cn
                   try clear co
                   try clear cp
                   try clear cu
                   try clear cv
                   try clear cw
                   try clear cL
                   try clear cM
                   try clear cN
                   try clear cO
                   try clear cU
                   try clear cV
                   try clear cW
                   try clear bu
                   try clear bv
                   try clear bw
                   try clear bx
                   try clear da
                   try clear db
                   try clear dc
                   try clear dd
                   try clear dh
                   try clear di
                   try clear dj
                   try clear dn
                   try clear dp
                   try clear dq
                   try clear dv
                   try clear dw
                   try clear dx
                   try clear dy
                   try clear er
                   try clear es
                   try clear et
                   try clear eu
                   try clear dE
                   try clear dF
                   try clear eA
                   try clear eB
                   try clear eC
                   try clear eD
                   try clear dI
                   try clear dJ
                   try clear aE
                   try clear bi
                   try clear bk
                   try clear bl
                   try clear bm
                   try clear bb
                   try clear bc
                   try clear bd
                   try clear cx
                   try clear dz
                   try clear bn
                   try clear bo
                   try clear p2
                   try clear fE
                   try clear cA
                   try clear d2
                   try clear ec
                   try clear hx
                   try clear dT
                   try clear cC
                   try clear iq
                   try clear d7
                   try clear ee
                   try clear p6
                   try clear it
                   try clear q2
                   try clear fF
                   try clear cB
                   try clear d3
                   try clear ed
                   try clear hy
                   try clear dU
                   try clear cD
                   try clear ir
                   try clear d8
                   try clear ef
                   try clear q6
                   try clear fV
                   try clear fX
                   obtain ⟨aH, rfl, HA, g5, aa, aj, HB⟩ := hrel
                   cases gk with
                   | zero => exact absurd HA.out (by simp [spec_LoopOk.l5])
                   | succ k6 =>
                    have H := HA.out; clear HA
                    simp only [spec_LoopOk.l5] at H
                    by_cases hJ : aH < af
                    ·rw [if_pos hJ] at H
                     have fZ : decide (aH < af) = true := decide_eq_true hJ
                     clear hJ
                     by_cases iu : 0 ≤ aH
                     ·rw [if_pos iu] at H
                      have hK : decide (0 ≤ aH) = true := decide_eq_true iu
                      clear iu
                      by_cases iv : aH < (ad.length : Int)
                      ·rw [if_pos iv] at H
                       have hL : decide (aH < (ad.length : Int)) = true := decide_eq_true iv
                       clear iv
                       by_cases g6 : ((rd_T74 ad aH).f0) = ((rd_T74 ad af).f0)
                       ·rw [if_pos g6] at H
                        have f3 : (((rd_T74 ad aH).f0) == ((rd_T74 ad af).f0)) = true := beq_iff_eq.mpr g6
                        have f4 : (((rd_T74 ad aH).f0) != ((rd_T74 ad af).f0)) = false := bne_eq_false_iff_eq.mpr g6
                        clear g6; obtain rfl := Option.some.inj H; have hnb85 := au.out; have hnc85 := av.out
                        have e8 : wr.cell? ⟨ac, 0, none⟩ = some (.slice aq ae.length an) := (blk_cell aa.out 0).trans rfl
                        have e9 : wr.cell? ⟨ac, 1, none⟩ = some (.int .i64 a0_1) := (blk_cell aa.out 1).trans rfl
                        have fa : wr.cell? ⟨ac, 2, none⟩ = some (.slice aw ab.length ao) := (blk_cell aa.out 2).trans rfl
                        have fb : wr.cell? ⟨ac, 3, none⟩ = some (.slice (some aC) ad.length ap) := (blk_cell aa.out 3).trans rfl
                        have fc := blk_frozen aa.out 0; have fd := blk_frozen aa.out 1; have fe := blk_frozen aa.out 2; have ff := blk_frozen aa.out 3
                        have eE : 0 ≤ (aH : Int) := zd
                        have eF : aH < (ad.length : Int) := zd
                        obtain ⟨f5, h7, h8, h9, bH, bI, dK, dL⟩ := at_T74 eU.out aH eE eF
                        obtain rfl : aC = f5 := (by injection h9)
                        replace bH := (HB.out.cell (World.block_lt_of_cell? w _ bH)).trans bH
                        replace bI := (HB.out.cell (World.block_lt_of_cell? w _ bI)).trans bI
                        have g7 := zK dL; have g8 := zK dK; clear dL dK; replace eE := eq_true eE; replace eF := eq_true eF
                        have fg : wr.cell? ⟨ak, 0, none⟩ = some (.int .i64 ((rd_T74 ad af).f0)) := (blk_cell aj.out 0).trans rfl
                        have fh : wr.cell? ⟨ak, 1, none⟩ = some (.slice bL ((rd_T74 ad af).f1).length bM) := (blk_cell aj.out 1).trans rfl
                        have fi := blk_frozen aj.out 0; have fj := blk_frozen aj.out 1
                        go_wp2
                        repeat (go_quiet (fail); try go_wp2)
                        go_ret
                        exact ⟨by first | rfl | (simp [errW_none, errW_some] <;> rfl) | (simp [*, errW_none, errW_some] <;> rfl), by repeat (first | (with_reducible first | exact HB.out | apply zB | apply zC | apply zE | refine zS ?_ ah.out | refine zS ?_ bA.out) | exact HB.out)⟩
                       ·rw [if_neg g6] at H
                        have f3 : (((rd_T74 ad aH).f0) == ((rd_T74 ad af).f0)) = false := beq_eq_false_iff_ne.mpr g6
                        have f4 : (((rd_T74 ad aH).f0) != ((rd_T74 ad af).f0)) = true := bne_iff_ne.mpr g6
                        have H' := zK H; clear H; have hnb88 := au.out; have hnc88 := av.out
                        have fk : wr.cell? ⟨ac, 0, none⟩ = some (.slice aq ae.length an) := (blk_cell aa.out 0).trans rfl
                        have fl : wr.cell? ⟨ac, 1, none⟩ = some (.int .i64 a0_1) := (blk_cell aa.out 1).trans rfl
                        have fm : wr.cell? ⟨ac, 2, none⟩ = some (.slice aw ab.length ao) := (blk_cell aa.out 2).trans rfl
                        have fn : wr.cell? ⟨ac, 3, none⟩ = some (.slice (some aC) ad.length ap) := (blk_cell aa.out 3).trans rfl
                        have fo := blk_frozen aa.out 0; have fp := blk_frozen aa.out 1; have fq := blk_frozen aa.out 2; have fr := blk_frozen aa.out 3
                        have eE : 0 ≤ (aH : Int) := zd
                        have eF : aH < (ad.length : Int) := zd
                        obtain ⟨f5, h7, h8, h9, bH, bI, dK, dL⟩ := at_T74 eU.out aH eE eF
                        obtain rfl : aC = f5 := (by injection h9)
                        replace bH := (HB.out.cell (World.block_lt_of_cell? w _ bH)).trans bH
                        replace bI := (HB.out.cell (World.block_lt_of_cell? w _ bI)).trans bI
                        have g7 := zK dL; have g8 := zK dK; clear dL dK; replace eE := eq_true eE; replace eF := eq_true eF
                        have fs : wr.cell? ⟨ak, 0, none⟩ = some (.int .i64 ((rd_T74 ad af).f0)) := (blk_cell aj.out 0).trans rfl
                        have ft : wr.cell? ⟨ak, 1, none⟩ = some (.slice bL ((rd_T74 ad af).f1).length bM) := (blk_cell aj.out 1).trans rfl
                        have fu := blk_frozen aj.out 0; have fv := blk_frozen aj.out 1
                        go_wp2
                        repeat (go_quiet (fail); try go_wp2)
                        go_roundg k6
                        case measure => have := d9.out; have := ea.out; have := eG.out; have := fT.out; have := eZ.out; have := g5.out; omega
                        case rel => exact ⟨(wrap64 (aH + 1)), (by first | rfl | (simp; done) | (simp [*]; done)), H', ⟨by have := d9.out; have := ea.out; have := eG.out; have := fT.out; have := eZ.out; have := g5.out; omega⟩, ⟨zk aa⟩, ⟨zk aj⟩, ⟨zb HB⟩⟩
                      ·rw [if_neg iv] at H
                       exact absurd H (by simp)
                     ·rw [if_neg iu] at H
                      exact absurd H (by simp)
                    ·rw [if_neg hJ] at H
                     have fZ : decide (aH < af) = false := decide_eq_false hJ
                     clear hJ; have H' := zK H; clear H
                     go_wp2
                     repeat (go_quiet (fail); try go_wp2)
                     go_loopg [13] k6 (fun kq v13 w' => ∃ (al : Int), v13 = .int .i64 al ∧ Aside0 (spec_LoopOk.l6 kq af al ae a0_1 ab ad ((rd_T74 ad af).f0) ((rd_T74 ad af).f1) = some r) ∧ Aside0 (kq ≤ k6) ∧ Aside0 (w'.heap[ac]? = some (.cells #[(.slice aq ae.length an), .int .i64 a0_1, (.slice aw ab.length ao), (.slice (some aC) ad.length ap)] 28 (0, 0))) ∧ Aside0 (w'.heap[ak]? = some (.cells #[.int .i64 ((rd_T74 ad af).f0), (.slice bL ((rd_T74 ad af).f1).length bM)] 74 (0, 0))) ∧ Aside0 (Below w.heap.size w w'))
                     case atStart => exact ⟨(0), (by first | rfl | (simp; done) | (simp [*]; done)), H', ⟨Nat.le_refl _⟩, ⟨zk aa⟩, ⟨zk aj⟩, ⟨zb HB⟩⟩
                     case round =>
                      clear H'
                      try clear c1
                      try clear c2
                      try clear p2
                      try clear q2
                      try clear hP
                      try clear c3
                      try clear c4
                      try clear c5
                      try clear c6
                      try clear p6
                      try clear q6
                      try clear c7
                      try clear c8
                      try clear c9
                      try clear cz
                      try clear d1
                      try clear fx
                      try clear eW
                      try clear cE
                      try clear fB
                      try clear dM
                      try clear fC
                      try clear dN
                      try clear eT
                      try clear cF
                      try clear cG
                      try clear fD
                      try clear hQ
                      try clear fy
                      try clear dO
                      try clear fM
                      try clear d4
                      try clear ij
                      try clear fE
                      try clear fF
                      try clear fA
                      try clear c27
                      try clear hx
                      try clear hy
                      try clear gZ
                      try clear c28
                      try clear iq
                      try clear ir
                      try clear h4
                      try clear ik
                      try clear fN
                      try clear fO
                      try clear il
                      try clear im
                      try clear io
                      try clear gN
                      try clear fP
                      try clear eh
                      try clear gU
                      try clear eL
                      try clear gV
                      try clear eM
                      try clear fG
                      try clear ei
                      try clear ej
                      try clear c46
                      try clear c49
                      try clear gY
                      try clear c53
                      try clear gO
                      try clear eO
                      try clear hz
                      try clear e0
                      try clear gP
                      try clear eP
                      try clear c61
                      try clear e1
                      try clear g0
                      try clear e2
                      try clear e3
                      try clear hA
                      try clear it
                      try clear fV
                      try clear fX
                      try clear g2
                      try clear e6
                      try clear h5
                      try clear fY
                      try clear g3
                      try clear e7
                      try clear c75
                      try clear c79
                      try clear hJ
                      try clear fZ
                      try clear iu
                      try clear hK
                      try clear iv
                      try clear hL
                      try clear g6
                      try clear f3
                      try clear f4
                      try clear c85
                      try clear c88
                      try clear aI
                      try clear aJ
                      try clear aK
                      try clear aM
                      try clear aV
                      try clear aW
                      try clear aX
                      try clear aY
                      try clear a3
                      try clear a4
                      try clear a5
                      try clear a6
                      try clear bP
                      try clear bQ
                      try clear bR
                      try clear bS
                      try clear bX
                      try clear bY
                      try clear bZ
                      try clear b0
                      try clear b6
                      try clear b7
                      try clear b8
                      try clear b9
                      try clear bB
                      try clear bC
                      try clear bD
                      try clear ce
                      try clear cf
                      try clear cg
                      try clear ck
                      try clear cl
                      try clear cm
                      try clear cq
                      try clear cr
                      try clear ct
                      try clear cH
                      try clear cI
                      try clear cJ
                      try clear cK
                      try clear cR
                      try clear cS
                      try clear cT
                      try clear bp
                      try clear bq
                      try clear br
                      try clear bs
                      try clear cX
                      try clear cY
                      try clear cZ
                      try clear c0
                      try clear de
                      try clear df
                      try clear dg
                      try clear dk
                      try clear dl
                      try clear dm
                      try clear dr
                      try clear ds
                      try clear dt
                      try clear du
                      try clear em
                      try clear en
                      try clear eo
                      try clear ep
                      try clear dC
                      try clear dD
                      try clear ew
                      try clear ex
                      try clear ey
                      try clear ez
                      try clear dG
                      try clear dH
                      try clear e8
                      try clear e9
                      try clear fa
                      try clear fb
                      try clear fg
                      try clear fh
                      try clear fk
                      try clear fl
                      try clear fm
                      try clear fn
                      try clear fs
                      try clear ft
                      try clear aN
                      try clear aQ
                      try clear aT
                      try clear aU
                      try clear aZ
                      try clear a0
                      try clear a1
                      try clear a2
                      try clear a7
                      try clear a8
                      try clear a9
                      try clear ba
                      try clear bT
                      try clear bU
                      try clear bV
                      try clear bW
                      try clear b1
                      try clear b2
                      try clear b3
                      try clear b4
                      try clear ca
                      try clear cb
                      try clear cc
                      try clear cd
                      try clear bE
                      try clear bF
                      try clear bG
                      try clear ch
                      try clear ci
                      try clear cj
                      try clear cn
                      try clear co
                      try clear cp
                      try clear cu
                      try clear cv
                      try clear cw
                      try clear cL
                      try clear cM
                      try clear cN
                      try clear cO
                      try clear cU
                      try clear cV
                      try clear cW
                      try clear bu
                      try clear bv
                      try clear bw
                      try clear bx
                      try clear da
                      try clear db
                      try clear dc
                      try clear dd
                      try clear dh
                      try clear di
                      try clear dj
                      try clear dn
                      try clear dp
                      try clear dq
                      try clear dv
                      try clear dw
                      try clear dx
                      try clear dy
                      try clear er
                      try clear es
                      try clear et
                      try clear eu
                      try clear dE
                      try clear dF
                      try clear eA
                      try clear eB
                      try clear eC
                      try clear eD
                      try clear dI
                      try clear dJ
                      try clear fc
                      try clear fd
                      try clear fe
                      try clear ff
                      try clear fi
                      try clear fj
                      try clear fo
                      try clear fp
                      try clear fq
                      try clear fr
                      try clear fu
                      try clear fv
                      try clear aE
                      try clear bi
                      try clear bk
                      try clear bl
                      try clear bm
                      try clear bb
                      try clear bc
                      try clear bd
                      try clear cx
                      try clear dz
                      try clear bn
                      try clear bo
                      try clear bH
                      try clear bI
                      try clear p2
                      try clear fE
                      try clear cA
                      try clear d2
                      try clear ec
                      try clear hx
                      try clear dT
                      try clear cC
                      try clear iq
                      try clear d7
                      try clear ee
                      try clear eE
                      try clear p6
                      try clear it
                      try clear q2
                      try clear fF
                      try clear cB
                      try clear d3
                      try clear ed
                      try clear hy
                      try clear dU
                      try clear cD
                      try clear ir
                      try clear d8
                      try clear ef
                      try clear eF
                      try clear q6
                      try clear fV
                      try clear fX
                      obtain ⟨al, rfl, HA, ia, aa, aj, HB⟩ := hrel
                      cases gk with
                      | zero => exact absurd HA.out (by simp [spec_LoopOk.l6])
                      | succ k7 =>
                       have H := HA.out; clear HA
                       simp only [spec_LoopOk.l6] at H
                       by_cases ib : al < (((rd_T74 ad af).f1).length : Int)
                       ·rw [if_pos ib] at H
                        have hM : decide (al < (((rd_T74 ad af).f1).length : Int)) = true := decide_eq_true ib
                        clear ib; have ic := zK H; clear H; have hnb93 := av.out; have hnc93 := au.out
                        have g9 : wr.cell? ⟨ak, 0, none⟩ = some (.int .i64 ((rd_T74 ad af).f0)) := (blk_cell aj.out 0).trans rfl
                        have ha : wr.cell? ⟨ak, 1, none⟩ = some (.slice bL ((rd_T74 ad af).f1).length bM) := (blk_cell aj.out 1).trans rfl
                        have hc := blk_frozen aj.out 0; have he := blk_frozen aj.out 1
                        go_upto_region 41 with (fail)
                        repeat (go_quiet (fail); go_upto_region 41 with (fail))
                        go_cut [195] (fun v195 wc => ∃ (kq : Nat) (dY : Bool), v195 = .bool dY ∧ Aside0 (spec_LoopOk.j9 kq af al dY ae a0_1 ab ad ((rd_T74 ad af).f0) ((rd_T74 ad af).f1) = some r) ∧ Aside0 (kq ≤ k7) ∧ Aside0 (wc.heap[ac]? = some (.cells #[(.slice aq ae.length an), .int .i64 a0_1, (.slice aw ab.length ao), (.slice (some aC) ad.length ap)] 28 (0, 0))) ∧ Aside0 (wc.heap[ak]? = some (.cells #[.int .i64 ((rd_T74 ad af).f0), (.slice bL ((rd_T74 ad af).f1).length bM)] 74 (0, 0))) ∧ Aside0 (Below w.heap.size w wc))
                        case first =>
                         have H := ic.out; clear ic
                         by_cases iL : 0 ≤ al
                         ·rw [if_pos iL] at H
                          have f6 : decide (0 ≤ al) = true := decide_eq_true iL
                          clear iL
                          (first | rw [f6] | (simp only [i64_w, i32_w]; rw [f6]) | skip)
                          replace H := Option.bind_eq_some_iff.mp H
                          obtain ⟨iM, iN, H⟩ := H
                          replace H : (if iM = true then (if al > 0 then (if 0 ≤ (wrap64 (al - 1)) then (if (wrap64 (al - 1)) < (((rd_T74 ad af).f1).length : Int) then (spec_LoopOk.j9 k7 af al (decide ((rd ((rd_T74 ad af).f1) al) ≤ (rd ((rd_T74 ad af).f1) (wrap64 (al - 1))))) ae a0_1 ab ad ((rd_T74 ad af).f0) ((rd_T74 ad af).f1)) else (none)) else (none)) else (spec_LoopOk.j9 k7 af al false ae a0_1 ab ad ((rd_T74 ad af).f0) ((rd_T74 ad af).f1))) else (spec_LoopOk.j9 k7 af al true ae a0_1 ab ad ((rd_T74 ad af).f0) ((rd_T74 ad af).f1))) = some r := H
                          have gQ := zK iN; clear iN
                          by_cases iO : iM = true
                          ·subst iO
                           have H1 : (if al > 0 then (if 0 ≤ (wrap64 (al - 1)) then (if (wrap64 (al - 1)) < (((rd_T74 ad af).f1).length : Int) then (spec_LoopOk.j9 k7 af al (decide ((rd ((rd_T74 ad af).f1) al) ≤ (rd ((rd_T74 ad af).f1) (wrap64 (al - 1))))) ae a0_1 ab ad ((rd_T74 ad af).f0) ((rd_T74 ad af).f1)) else (none)) else (none)) else (spec_LoopOk.j9 k7 af al false ae a0_1 ab ad ((rd_T74 ad af).f0) ((rd_T74 ad af).f1))) = some r := by rw [if_pos rfl] at H; exact H
                           clear H; have H := H1; clear H1
                           by_cases ie : al > 0
                           ·rw [if_pos ie] at H
                            have hN : decide (0 < al) = true := decide_eq_true ie
                            clear ie
                            obtain ⟨dV, eS⟩ : ∃ j_ : Int, (wrap64 (al - 1)) = j_ := ⟨_, rfl⟩
                            replace H : (if 0 ≤ (dV) then (if (dV) < (((rd_T74 ad af).f1).length : Int) then (spec_LoopOk.j9 k7 af al (decide ((rd ((rd_T74 ad af).f1) al) ≤ (rd ((rd_T74 ad af).f1) (dV)))) ae a0_1 ab ad ((rd_T74 ad af).f0) ((rd_T74 ad af).f1)) else (none)) else (none)) = some r := by first | (rw [eS] at H; exact H) | (simp only [eS] at H ⊢; exact H)
                            (try rw [eS] at gQ)
                            have hji99w : (IntKind.i64.wrap (al - 1)) = dV := (i64_w _).trans eS
                            by_cases f7 : 0 ≤ (dV)
                            ·rw [if_pos f7] at H
                             have ig : decide (0 ≤ (dV)) = true := decide_eq_true f7
                             clear f7
                             by_cases f8 : (dV) < (((rd_T74 ad af).f1).length : Int)
                             ·rw [if_pos f8] at H
                              have ih : decide ((dV) < (((rd_T74 ad af).f1).length : Int)) = true := decide_eq_true f8
                              clear f8; have H' := zK H; clear H; have hnb102 := av.out; have hnc102 := au.out
                              have f9 : wr.cell? ⟨ak, 0, none⟩ = some (.int .i64 ((rd_T74 ad af).f0)) := (blk_cell aj.out 0).trans rfl
                              have ga : wr.cell? ⟨ak, 1, none⟩ = some (.slice bL ((rd_T74 ad af).f1).length bM) := (blk_cell aj.out 1).trans rfl
                              have gb := blk_frozen aj.out 0; have gc := blk_frozen aj.out 1
                              have dW : 0 ≤ (al : Int) := zd
                              have dX : al < (((rd_T74 ad af).f1).length : Int) := zd
                              obtain ⟨fw, ge, be⟩ := Kd.at_int cy.out al dW dX
                              cases ge
                              replace be := (HB.out.cell (World.block_lt_of_cell? w _ be)).trans be
                              replace dW := eq_true dW; replace dX := eq_true dX
                              have gf : wr.cell? ⟨ac, 0, none⟩ = some (.slice aq ae.length an) := (blk_cell aa.out 0).trans rfl
                              have gg : wr.cell? ⟨ac, 1, none⟩ = some (.int .i64 a0_1) := (blk_cell aa.out 1).trans rfl
                              have gh : wr.cell? ⟨ac, 2, none⟩ = some (.slice aw ab.length ao) := (blk_cell aa.out 2).trans rfl
                              have gi : wr.cell? ⟨ac, 3, none⟩ = some (.slice (some aC) ad.length ap) := (blk_cell aa.out 3).trans rfl
                              have gj := blk_frozen aa.out 0; have gl := blk_frozen aa.out 1; have gm := blk_frozen aa.out 2; have gn := blk_frozen aa.out 3
                              have hf : 0 ≤ (al : Int) := zd; have hh : al < (((rd_T74 ad af).f1).length : Int) := zd; obtain ⟨iP, e287, dZ⟩ := Kd.at_int cy.out al hf hh; obtain rfl : fw = iP := (by injection e287); replace dZ := (HB.out.cell (World.block_lt_of_cell? w _ dZ)).trans dZ; replace hf := eq_true hf; replace hh := eq_true hh; have hi : 0 ≤ ((dV) : Int) := zd; have hj : (dV) < (((rd_T74 ad af).f1).length : Int) := zd; obtain ⟨iQ, e288, d0⟩ := Kd.at_int cy.out (dV) hi hj; obtain rfl : fw = iQ := (by injection e288); replace d0 := (HB.out.cell (World.block_lt_of_cell? w _ d0)).trans d0; replace hi := eq_true hi; replace hj := eq_true hj
                              go_wp2_with (first | (go_at_call 62; (with_reducible refine (spec_l01In.calls (rd ((rd_T74 ad af).f1) al) 0 (wrap64 ((ab.length : Int) - 1)) true _ gQ.out).mono ?_); rintro e w' ⟨rfl, ⟨nd, rfl⟩⟩; (try first | exact ⟨rfl, _, World.drewN_drewN _ _ _⟩ | exact ⟨rfl, _, Eq.trans (World.drewN_drewN _ _ _) (congrArg (World.drewN _) (Nat.add_assoc _ _ _))⟩)))
                              repeat (go_quiet (first | (go_at_call 62; (with_reducible refine (spec_l01In.calls (rd ((rd_T74 ad af).f1) al) 0 (wrap64 ((ab.length : Int) - 1)) true _ gQ.out).mono ?_); rintro e w' ⟨rfl, ⟨nd, rfl⟩⟩; (try first | exact ⟨rfl, _, World.drewN_drewN _ _ _⟩ | exact ⟨rfl, _, Eq.trans (World.drewN_drewN _ _ _) (congrArg (World.drewN _) (Nat.add_assoc _ _ _))⟩))); try go_wp2_with (first | (go_at_call 62; (with_reducible refine (spec_l01In.calls (rd ((rd_T74 ad af).f1) al) 0 (wrap64 ((ab.length : Int) - 1)) true _ gQ.out).mono ?_); rintro e w' ⟨rfl, ⟨nd, rfl⟩⟩; (try first | exact ⟨rfl, _, World.drewN_drewN _ _ _⟩ | exact ⟨rfl, _, Eq.trans (World.drewN_drewN _ _ _) (congrArg (World.drewN _) (Nat.add_assoc _ _ _))⟩))))
                              go_meet
                              case rel => exact ⟨_, (decide ((rd ((rd_T74 ad af).f1) al) ≤ (rd ((rd_T74 ad af).f1) (dV)))), (by first | rfl | (simp; done) | (simp only [← eS] <;> (first | rfl | simp)) | (simp [*]; done)), H', ⟨by have := d9.out; have := ea.out; have := eG.out; have := fT.out; have := eZ.out; have := g5.out; have := ia.out; first | omega | exact Nat.le_refl _⟩, ⟨zk aa⟩, ⟨zk aj⟩, ⟨zb HB⟩⟩
                             ·rw [if_neg f8] at H
                              exact absurd H (by simp)
                            ·rw [if_neg f7] at H
                             exact absurd H (by simp)
                           ·rw [if_neg ie] at H
                            have hN : decide (0 < al) = false := decide_eq_false ie
                            clear ie; have H' := zK H; clear H; have hnb105 := av.out; have hnc105 := au.out
                            have gp : wr.cell? ⟨ak, 0, none⟩ = some (.int .i64 ((rd_T74 ad af).f0)) := (blk_cell aj.out 0).trans rfl
                            have gq : wr.cell? ⟨ak, 1, none⟩ = some (.slice bL ((rd_T74 ad af).f1).length bM) := (blk_cell aj.out 1).trans rfl
                            have gr := blk_frozen aj.out 0; have gs := blk_frozen aj.out 1
                            have dW : 0 ≤ (al : Int) := zd
                            have dX : al < (((rd_T74 ad af).f1).length : Int) := zd
                            obtain ⟨fw, ge, be⟩ := Kd.at_int cy.out al dW dX
                            cases ge
                            replace be := (HB.out.cell (World.block_lt_of_cell? w _ be)).trans be
                            replace dW := eq_true dW; replace dX := eq_true dX
                            have gt : wr.cell? ⟨ac, 0, none⟩ = some (.slice aq ae.length an) := (blk_cell aa.out 0).trans rfl
                            have gu : wr.cell? ⟨ac, 1, none⟩ = some (.int .i64 a0_1) := (blk_cell aa.out 1).trans rfl
                            have gv : wr.cell? ⟨ac, 2, none⟩ = some (.slice aw ab.length ao) := (blk_cell aa.out 2).trans rfl
                            have gw : wr.cell? ⟨ac, 3, none⟩ = some (.slice (some aC) ad.length ap) := (blk_cell aa.out 3).trans rfl
                            have gx := blk_frozen aa.out 0; have gy := blk_frozen aa.out 1; have gz := blk_frozen aa.out 2; have gA := blk_frozen aa.out 3
                            go_wp2_with (first | (go_at_call 62; (with_reducible refine (spec_l01In.calls (rd ((rd_T74 ad af).f1) al) 0 (wrap64 ((ab.length : Int) - 1)) true _ gQ.out).mono ?_); rintro e w' ⟨rfl, ⟨nd, rfl⟩⟩; (try first | exact ⟨rfl, _, World.drewN_drewN _ _ _⟩ | exact ⟨rfl, _, Eq.trans (World.drewN_drewN _ _ _) (congrArg (World.drewN _) (Nat.add_assoc _ _ _))⟩)))
                            repeat (go_quiet (first | (go_at_call 62; (with_reducible refine (spec_l01In.calls (rd ((rd_T74 ad af).f1) al) 0 (wrap64 ((ab.length : Int) - 1)) true _ gQ.out).mono ?_); rintro e w' ⟨rfl, ⟨nd, rfl⟩⟩; (try first | exact ⟨rfl, _, World.drewN_drewN _ _ _⟩ | exact ⟨rfl, _, Eq.trans (World.drewN_drewN _ _ _) (congrArg (World.drewN _) (Nat.add_assoc _ _ _))⟩))); try go_wp2_with (first | (go_at_call 62; (with_reducible refine (spec_l01In.calls (rd ((rd_T74 ad af).f1) al) 0 (wrap64 ((ab.length : Int) - 1)) true _ gQ.out).mono ?_); rintro e w' ⟨rfl, ⟨nd, rfl⟩⟩; (try first | exact ⟨rfl, _, World.drewN_drewN _ _ _⟩ | exact ⟨rfl, _, Eq.trans (World.drewN_drewN _ _ _) (congrArg (World.drewN _) (Nat.add_assoc _ _ _))⟩))))
                            go_meet
                            case rel => exact ⟨_, (false), (by first | rfl | (simp; done) | (simp [*]; done)), H', ⟨by have := d9.out; have := ea.out; have := eG.out; have := fT.out; have := eZ.out; have := g5.out; have := ia.out; first | omega | exact Nat.le_refl _⟩, ⟨zk aa⟩, ⟨zk aj⟩, ⟨zb HB⟩⟩
                          ·replace iO := Bool.eq_false_iff.mpr iO
                           subst iO
                           have H1 : (spec_LoopOk.j9 k7 af al true ae a0_1 ab ad ((rd_T74 ad af).f0) ((rd_T74 ad af).f1)) = some r := by rw [if_neg (show ¬ (false = true) by decide)] at H; exact H
                           clear H; have H := H1; clear H1; have H' := zK H; clear H; have hnb108 := av.out; have hnc108 := au.out
                           have gB : wr.cell? ⟨ak, 0, none⟩ = some (.int .i64 ((rd_T74 ad af).f0)) := (blk_cell aj.out 0).trans rfl
                           have gC : wr.cell? ⟨ak, 1, none⟩ = some (.slice bL ((rd_T74 ad af).f1).length bM) := (blk_cell aj.out 1).trans rfl
                           have gD := blk_frozen aj.out 0; have gE := blk_frozen aj.out 1
                           have dW : 0 ≤ (al : Int) := zd
                           have dX : al < (((rd_T74 ad af).f1).length : Int) := zd
                           obtain ⟨fw, ge, be⟩ := Kd.at_int cy.out al dW dX
                           cases ge
                           replace be := (HB.out.cell (World.block_lt_of_cell? w _ be)).trans be
                           replace dW := eq_true dW; replace dX := eq_true dX
                           have gF : wr.cell? ⟨ac, 0, none⟩ = some (.slice aq ae.length an) := (blk_cell aa.out 0).trans rfl
                           have gG : wr.cell? ⟨ac, 1, none⟩ = some (.int .i64 a0_1) := (blk_cell aa.out 1).trans rfl
                           have gH : wr.cell? ⟨ac, 2, none⟩ = some (.slice aw ab.length ao) := (blk_cell aa.out 2).trans rfl
                           have gI : wr.cell? ⟨ac, 3, none⟩ = some (.slice (some aC) ad.length ap) := (blk_cell aa.out 3).trans rfl
                           have gJ := blk_frozen aa.out 0; have gK := blk_frozen aa.out 1; have gL := blk_frozen aa.out 2; have gM := blk_frozen aa.out 3
                           go_wp2_with (first | (go_at_call 62; (with_reducible refine (spec_l01In.calls (rd ((rd_T74 ad af).f1) al) 0 (wrap64 ((ab.length : Int) - 1)) false _ gQ.out).mono ?_); rintro e w' ⟨rfl, ⟨nd, rfl⟩⟩; (try first | exact ⟨rfl, _, World.drewN_drewN _ _ _⟩ | exact ⟨rfl, _, Eq.trans (World.drewN_drewN _ _ _) (congrArg (World.drewN _) (Nat.add_assoc _ _ _))⟩)))
                           repeat (go_quiet (first | (go_at_call 62; (with_reducible refine (spec_l01In.calls (rd ((rd_T74 ad af).f1) al) 0 (wrap64 ((ab.length : Int) - 1)) false _ gQ.out).mono ?_); rintro e w' ⟨rfl, ⟨nd, rfl⟩⟩; (try first | exact ⟨rfl, _, World.drewN_drewN _ _ _⟩ | exact ⟨rfl, _, Eq.trans (World.drewN_drewN _ _ _) (congrArg (World.drewN _) (Nat.add_assoc _ _ _))⟩))); try go_wp2_with (first | (go_at_call 62; (with_reducible refine (spec_l01In.calls (rd ((rd_T74 ad af).f1) al) 0 (wrap64 ((ab.length : Int) - 1)) false _ gQ.out).mono ?_); rintro e w' ⟨rfl, ⟨nd, rfl⟩⟩; (try first | exact ⟨rfl, _, World.drewN_drewN _ _ _⟩ | exact ⟨rfl, _, Eq.trans (World.drewN_drewN _ _ _) (congrArg (World.drewN _) (Nat.add_assoc _ _ _))⟩))))
                           go_meet
                           case rel => exact ⟨_, (true), (by first | rfl | (simp; done) | (simp [*]; done)), H', ⟨by have := d9.out; have := ea.out; have := eG.out; have := fT.out; have := eZ.out; have := g5.out; have := ia.out; first | omega | exact Nat.le_refl _⟩, ⟨zk aa⟩, ⟨zk aj⟩, ⟨zb HB⟩⟩
                         ·rw [if_neg iL] at H
                          exact absurd H (by simp)
                        case rest =>
                         clear ic
                         try clear c1
                         try clear c2
                         try clear p2
                         try clear q2
                         try clear hP
                         try clear c3
                         try clear c4
                         try clear c5
                         try clear c6
                         try clear p6
                         try clear q6
                         try clear c7
                         try clear c8
                         try clear c9
                         try clear cz
                         try clear d1
                         try clear c10
                         try clear fx
                         try clear eW
                         try clear cE
                         try clear fB
                         try clear dM
                         try clear fC
                         try clear dN
                         try clear eT
                         try clear cF
                         try clear cG
                         try clear fD
                         try clear hQ
                         try clear fy
                         try clear dO
                         try clear fM
                         try clear d4
                         try clear ij
                         try clear fE
                         try clear fF
                         try clear fA
                         try clear c27
                         try clear hx
                         try clear hy
                         try clear gZ
                         try clear c28
                         try clear iq
                         try clear ir
                         try clear h4
                         try clear ik
                         try clear fN
                         try clear fO
                         try clear il
                         try clear im
                         try clear io
                         try clear gN
                         try clear fP
                         try clear eh
                         try clear gU
                         try clear eL
                         try clear gV
                         try clear eM
                         try clear fG
                         try clear ei
                         try clear ej
                         try clear c46
                         try clear c49
                         try clear gY
                         try clear c53
                         try clear gO
                         try clear eO
                         try clear hz
                         try clear e0
                         try clear gP
                         try clear eP
                         try clear c61
                         try clear e1
                         try clear g0
                         try clear e2
                         try clear e3
                         try clear hA
                         try clear it
                         try clear fV
                         try clear fX
                         try clear g2
                         try clear e6
                         try clear h5
                         try clear fY
                         try clear g3
                         try clear e7
                         try clear c75
                         try clear c79
                         try clear hJ
                         try clear fZ
                         try clear iu
                         try clear hK
                         try clear iv
                         try clear hL
                         try clear g6
                         try clear f3
                         try clear f4
                         try clear c85
                         try clear c88
                         try clear ib
                         try clear hM
                         try clear c93
                         try clear iL
                         try clear f6
                         try clear iO
                         try clear ie
                         try clear hN
                         try clear f7
                         try clear ig
                         try clear f8
                         try clear ih
                         try clear c102
                         try clear c105
                         try clear c108
                         try clear f9
                         try clear ga
                         try clear gf
                         try clear gg
                         try clear gh
                         try clear gi
                         try clear gp
                         try clear gq
                         try clear gt
                         try clear gu
                         try clear gv
                         try clear gw
                         try clear gB
                         try clear gC
                         try clear aI
                         try clear aJ
                         try clear aK
                         try clear aM
                         try clear gF
                         try clear gG
                         try clear gH
                         try clear gI
                         try clear aV
                         try clear aW
                         try clear aX
                         try clear aY
                         try clear a3
                         try clear a4
                         try clear a5
                         try clear a6
                         try clear bP
                         try clear bQ
                         try clear bR
                         try clear bS
                         try clear bX
                         try clear bY
                         try clear bZ
                         try clear b0
                         try clear b6
                         try clear b7
                         try clear b8
                         try clear b9
                         try clear bB
                         try clear bC
                         try clear bD
                         try clear ce
                         try clear cf
                         try clear cg
                         try clear ck
                         try clear cl
                         try clear cm
                         try clear cq
                         try clear cr
                         try clear ct
                         try clear cH
                         try clear cI
                         try clear cJ
                         try clear cK
                         try clear cR
                         try clear cS
                         try clear cT
                         try clear bp
                         try clear bq
                         try clear br
                         try clear bs
                         try clear cX
                         try clear cY
                         try clear cZ
                         try clear c0
                         try clear de
                         try clear df
                         try clear dg
                         try clear dk
                         try clear dl
                         try clear dm
                         try clear dr
                         try clear ds
                         try clear dt
                         try clear du
                         try clear em
                         try clear en
                         try clear eo
                         try clear ep
                         try clear dC
                         try clear dD
                         try clear ew
                         try clear ex
                         try clear ey
                         try clear ez
                         try clear dG
                         try clear dH
                         try clear e8
                         try clear e9
                         try clear fa
                         try clear fb
                         try clear fg
                         try clear fh
                         try clear fk
                         try clear fl
                         try clear fm
                         try clear fn
                         try clear fs
                         try clear ft
                         try clear g9
                         try clear ha
                         try clear gb
                         try clear gc
                         try clear gj
                         try clear gl
                         try clear gm
                         try clear gn
                         try clear gr
                         try clear gs
                         try clear gx
                         try clear gy
                         try clear gz
                         try clear gA
                         try clear gD
                         try clear gE
                         try clear aN
                         try clear aQ
                         try clear aT
                         try clear aU
                         try clear gJ
                         try clear gK
                         try clear gL
                         try clear gM
                         try clear aZ
                         try clear a0
                         try clear a1
                         try clear a2
                         try clear a7
                         try clear a8
                         try clear a9
                         try clear ba
                         try clear bT
                         try clear bU
                         try clear bV
                         try clear bW
                         try clear b1
                         try clear b2
                         try clear b3
                         try clear b4
                         try clear ca
                         try clear cb
                         try clear cc
                         try clear cd
                         try clear bE
                         try clear bF
                         try clear bG
                         try clear ch
                         try clear ci
                         try clear cj
                         try clear cn
                         try clear co
                         try clear cp
                         try clear cu
                         try clear cv
                         try clear cw
                         try clear cL
                         try clear cM
                         try clear cN
                         try clear cO
                         try clear cU
                         try clear cV
                         try clear cW
                         try clear bu
                         try clear bv
                         try clear bw
                         try clear bx
                         try clear da
                         try clear db
                         try clear dc
                         try clear dd
                         try clear dh
                         try clear di
                         try clear dj
                         try clear dn
                         try clear dp
                         try clear dq
                         try clear dv
                         try clear dw
                         try clear dx
                         try clear dy
                         try clear er
                         try clear es
                         try clear et
                         try clear eu
                         try clear dE
                         try clear dF
                         try clear eA
                         try clear eB
                         try clear eC
                         try clear eD
                         try clear dI
                         try clear dJ
                         try clear fc
                         try clear fd
                         try clear fe
                         try clear ff
                         try clear fi
                         try clear fj
                         try clear fo
                         try clear fp
                         try clear fq
                         try clear fr
                         try clear fu
                         try clear fv
                         try clear hc
                         try clear he
                         try clear aE
                         try clear bi
                         try clear bk
                         try clear bl
                         try clear bm
                         try clear bb
                         try clear bc
                         try clear bd
                         try clear cx
                         try clear dz
                         try clear bn
                         try clear bo
                         try clear bH
                         try clear bI
                         try clear be
                         try clear dZ
                         try clear d0
                         try clear p2
                         try clear fE
                         try clear cA
                         try clear d2
                         try clear ec
                         try clear hx
                         try clear dT
                         try clear cC
                         try clear iq
                         try clear d7
                         try clear ee
                         try clear eE
                         try clear dW
                         try clear hf
                         try clear hi
                         try clear p6
                         try clear it
                         try clear q2
                         try clear fF
                         try clear cB
                         try clear d3
                         try clear ed
                         try clear hy
                         try clear dU
                         try clear cD
                         try clear ir
                         try clear d8
                         try clear ef
                         try clear eF
                         try clear dX
                         try clear hh
                         try clear hj
                         try clear q6
                         try clear fV
                         try clear fX
                         obtain ⟨kq, dY, rfl, HA, iR, aa, aj, HB⟩ := hcut
                         cases kq with
                         | zero => exact absurd HA.out (by simp [spec_LoopOk.j9])
                         | succ kj91 =>
                          have H := HA.out; clear HA
                          simp only [spec_LoopOk.j9] at H
                          by_cases hl : dY = true
                          ·subst hl
                           have H1 : (some false) = some r := by rw [if_pos rfl] at H; exact H
                           clear H; have H := H1; clear H1; obtain rfl := Option.some.inj H
                           go_wp2
                           repeat (go_quiet (fail); try go_wp2)
                           go_ret
                           exact ⟨by first | rfl | (simp [errW_none, errW_some] <;> rfl) | (simp [*, errW_none, errW_some] <;> rfl), by repeat (first | (with_reducible first | exact HB.out | apply zB | apply zC | apply zE | refine zS ?_ ah.out | refine zS ?_ bA.out) | exact HB.out)⟩
                          ·replace hl := Bool.eq_false_iff.mpr hl
                           subst hl
                           have H1 : (spec_LoopOk.l6 kj91 af (wrap64 (al + 1)) ae a0_1 ab ad ((rd_T74 ad af).f0) ((rd_T74 ad af).f1)) = some r := by rw [if_neg (show ¬ (false = true) by decide)] at H; exact H
                           clear H; have H := H1; clear H1; have H' := zK H; clear H
                           go_wp2
                           repeat (go_quiet (fail); try go_wp2)
                           go_roundg kj91
                           case measure => have := d9.out; have := ea.out; have := eG.out; have := fT.out; have := eZ.out; have := g5.out; have := ia.out; have := iR.out; omega
                           case rel => exact ⟨(wrap64 (al + 1)), (by first | rfl | (simp; done) | (simp [*]; done)), H', ⟨by have := d9.out; have := ea.out; have := eG.out; have := fT.out; have := eZ.out; have := g5.out; have := ia.out; have := iR.out; omega⟩, ⟨zk aa⟩, ⟨zk aj⟩, ⟨zb HB⟩⟩
                       ·rw [if_neg ib] at H
                        have hM : decide (al < (((rd_T74 ad af).f1).length : Int)) = false := decide_eq_false ib
                        clear ib; have H' := zK H; clear H; have hnb112 := av.out; have hnc112 := au.out
                        have iS : wr.cell? ⟨ak, 0, none⟩ = some (.int .i64 ((rd_T74 ad af).f0)) := (blk_cell aj.out 0).trans rfl
                        have iT : wr.cell? ⟨ak, 1, none⟩ = some (.slice bL ((rd_T74 ad af).f1).length bM) := (blk_cell aj.out 1).trans rfl
                        have iU := blk_frozen aj.out 0; have iV := blk_frozen aj.out 1
                        go_wp2
                        repeat (go_quiet (fail); try go_wp2)
                        go_roundg k7
                        case measure => have := d9.out; have := ea.out; have := eG.out; have := fT.out; have := eZ.out; have := g5.out; have := ia.out; omega
                        case rel => exact ⟨(wrap64 (af + 1)), (by first | rfl | (simp; done) | (simp [*]; done)), H', ⟨by have := d9.out; have := ea.out; have := eG.out; have := fT.out; have := eZ.out; have := g5.out; have := ia.out; omega⟩, ⟨zk aa⟩, ⟨zb HB⟩⟩
                ·rw [if_neg h5] at H
                 exact absurd H (by simp)
               ·rw [if_neg g2] at H
                have e6 : decide (af < (ad.length : Int)) = false := decide_eq_false g2
                clear g2; obtain rfl := Option.some.inj H
                have iW : wr.cell? ⟨ac, 0, none⟩ = some (.slice aq ae.length an) := (blk_cell aa.out 0).trans rfl
                have iX : wr.cell? ⟨ac, 1, none⟩ = some (.int .i64 a0_1) := (blk_cell aa.out 1).trans rfl
                have iY : wr.cell? ⟨ac, 2, none⟩ = some (.slice aw ab.length ao) := (blk_cell aa.out 2).trans rfl
                have iZ : wr.cell? ⟨ac, 3, none⟩ = some (.slice az ad.length ap) := (blk_cell aa.out 3).trans rfl
                have i0 := blk_frozen aa.out 0; have i1 := blk_frozen aa.out 1; have i2 := blk_frozen aa.out 2; have i3 := blk_frozen aa.out 3
                go_wp2
                repeat (go_quiet (fail); try go_wp2)
                go_ret
                exact ⟨by first | rfl | (simp [errW_none, errW_some] <;> rfl) | (simp [*, errW_none, errW_some] <;> rfl), by repeat (first | (with_reducible first | exact HB.out | apply zB | apply zC | apply zE | refine zS ?_ ah.out) | exact HB.out)⟩
end Go.Proofs.Ytmjhbdmicejppaa.Px
