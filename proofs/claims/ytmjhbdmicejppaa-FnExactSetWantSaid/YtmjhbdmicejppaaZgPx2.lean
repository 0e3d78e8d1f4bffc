import Derived.Test.YtmjhbdmicejppaaZgPx0
import Derived.Test.YtmjhbdmicejppaaZgPx1
namespace Go.Proofs.Ytmjhbdmicejppaa.Px
open Go.RowKit Go.Proofs.YtmjhbdmicejppaaW.PrintWords Go.Proofs.YtmjhbdmicejppaaW.PrintLast Go.Proofs.YtmjhbdmicejppaaW.PrintMore
attribute [local go_sem] max2_int min2_int max_two min_two max_three min_three max_four min_four   
set_option linter.unusedVariables false
set_option linter.unusedSimpArgs false
mutual
def spec_LoopOk.j0 : Nat → Int → Bool → List Int → Int → List (S69) → List (S74) → Option (Bool)
 | 0, _, _, _, _, _, _ => none
 | k + 1, x3, x39, x257000, x257001, x257002, x257003 => if x39 = true then (some false) else (spec_LoopOk.l0 k x3 (([] : List Int)) 0 x257000 x257001 x257002 x257003)
def spec_LoopOk.l0 : Nat → Int → List Int → Int → List Int → Int → List (S69) → List (S74) → Option (Bool)
 | 0, _, _, _, _, _, _, _ => none
 | k + 1, x3, x4, x5, x257000, x257001, x257002, x257003 => if x5 < x3 then (if 0 ≤ x5 then (if x5 < (x257000.length : Int) then (if (rd x257000 x5) = 0 then (spec_LoopOk.l0 k x3 x4 (wrap64 (x5 + 1)) x257000 x257001 x257002 x257003) else (if x4.length < 17592186044416 then (spec_LoopOk.l0 k x3 (x4 ++ [rd x257000 x5]) (wrap64 (x5 + 1)) x257000 x257001 x257002 x257003) else (none))) else (none)) else (none)) else (spec_LoopOk.l1 k x3 x4 0 x257000 x257001 x257002 x257003)
def spec_LoopOk.l1 : Nat → Int → List Int → Int → List Int → Int → List (S69) → List (S74) → Option (Bool)
 | 0, _, _, _, _, _, _, _ => none
 | k + 1, x3, x4, x6, x257000, x257001, x257002, x257003 => if x6 < (x257002.length : Int) then (if 0 ≤ x6 then ((spec_l01In.f ((rd_T69 x257002 x6).f0) 0 (wrap64 (x3 - 1))).bind fun t269 => (if t269 = true then ((spec_l01In.f ((rd_T69 x257002 x6).f1) 0 40).bind fun t270 => (if t270 = true then (spec_LoopOk.j3 k x3 x4 x6 (decide ((((rd_T69 x257002 x6).f2).length : Int) > ((rd_T69 x257002 x6).f1))) x257000 x257001 x257002 x257003 ((rd_T69 x257002 x6).f0) ((rd_T69 x257002 x6).f1) ((rd_T69 x257002 x6).f2)) else (spec_LoopOk.j3 k x3 x4 x6 true x257000 x257001 x257002 x257003 ((rd_T69 x257002 x6).f0) ((rd_T69 x257002 x6).f1) ((rd_T69 x257002 x6).f2)))) else (spec_LoopOk.j3 k x3 x4 x6 true x257000 x257001 x257002 x257003 ((rd_T69 x257002 x6).f0) ((rd_T69 x257002 x6).f1) ((rd_T69 x257002 x6).f2)))) else (none)) else (spec_LoopOk.l3 k x4 0 x257000 x257001 x257002 x257003)
def spec_LoopOk.j3 : Nat → Int → List Int → Int → Bool → List Int → Int → List (S69) → List (S74) → Int → Int → List Int → Option (Bool)
 | 0, _, _, _, _, _, _, _, _, _, _, _ => none
 | k + 1, x3, x4, x6, x91, x257000, x257001, x257002, x257003, x269000, x269001, x269002 => if x91 = true then (some false) else (spec_LoopOk.l2 k x3 x4 x6 0 x257000 x257001 x257002 x257003 x269000 x269001 x269002)
def spec_LoopOk.l2 : Nat → Int → List Int → Int → Int → List Int → Int → List (S69) → List (S74) → Int → Int → List Int → Option (Bool)
 | 0, _, _, _, _, _, _, _, _, _, _, _ => none
 | k + 1, x3, x4, x6, x8, x257000, x257001, x257002, x257003, x269000, x269001, x269002 => if x8 < x6 then (if 0 ≤ x8 then (if x8 < (x257002.length : Int) then (if ((rd_T69 x257002 x8).f0) = x269000 then (some false) else (spec_LoopOk.l2 k x3 x4 x6 (wrap64 (x8 + 1)) x257000 x257001 x257002 x257003 x269000 x269001 x269002)) else (none)) else (none)) else (if x4.length + x269002.length < 17592186044416 then (spec_LoopOk.l1 k x3 (x4 ++ x269002) (wrap64 (x6 + 1)) x257000 x257001 x257002 x257003) else (none))
def spec_LoopOk.l3 : Nat → List Int → Int → List Int → Int → List (S69) → List (S74) → Option (Bool)
 | 0, _, _, _, _, _, _ => none
 | k + 1, x4, x9, x257000, x257001, x257002, x257003 => if x9 < (x4.length : Int) then (if 0 ≤ x9 then (if (rd x4 x9) < 1 then (some false) else (if x9 ≤ (x4.length : Int) then ((spec_l03Has.f k (x4.take (x9 : Int).toNat) (rd x4 x9)).bind fun t281 => (if t281 = true then (some false) else (spec_LoopOk.l3 k x4 (wrap64 (x9 + 1)) x257000 x257001 x257002 x257003))) else (none))) else (none)) else (spec_LoopOk.l4 k 0 x257000 x257001 x257002 x257003)
def spec_LoopOk.l4 : Nat → Int → List Int → Int → List (S69) → List (S74) → Option (Bool)
 | 0, _, _, _, _, _ => none
 | k + 1, x10, x257000, x257001, x257002, x257003 => if x10 < (x257003.length : Int) then (if 0 ≤ x10 then (if ((rd_T74 x257003 x10).f0) < 1 then (some false) else (spec_LoopOk.l5 k x10 0 x257000 x257001 x257002 x257003 ((rd_T74 x257003 x10).f0) ((rd_T74 x257003 x10).f1))) else (none)) else (some true)
def spec_LoopOk.l5 : Nat → Int → Int → List Int → Int → List (S69) → List (S74) → Int → List Int → Option (Bool)
 | 0, _, _, _, _, _, _, _, _ => none
 | k + 1, x10, x12, x257000, x257001, x257002, x257003, x284000, x284001 => if x12 < x10 then (if 0 ≤ x12 then (if x12 < (x257003.length : Int) then (if ((rd_T74 x257003 x12).f0) = x284000 then (some false) else (spec_LoopOk.l5 k x10 (wrap64 (x12 + 1)) x257000 x257001 x257002 x257003 x284000 x284001)) else (none)) else (none)) else (spec_LoopOk.l6 k x10 0 x257000 x257001 x257002 x257003 x284000 x284001)
def spec_LoopOk.l6 : Nat → Int → Int → List Int → Int → List (S69) → List (S74) → Int → List Int → Option (Bool)
 | 0, _, _, _, _, _, _, _, _ => none
 | k + 1, x10, x13, x257000, x257001, x257002, x257003, x284000, x284001 => if x13 < (x284001.length : Int) then (if 0 ≤ x13 then ((spec_l01In.f (rd x284001 x13) 0 (wrap64 ((x257002.length : Int) - 1))).bind fun t286 => (if t286 = true then (if x13 > 0 then (if 0 ≤ (wrap64 (x13 - 1)) then (if (wrap64 (x13 - 1)) < (x284001.length : Int) then (spec_LoopOk.j9 k x10 x13 (decide ((rd x284001 x13) ≤ (rd x284001 (wrap64 (x13 - 1))))) x257000 x257001 x257002 x257003 x284000 x284001) else (none)) else (none)) else (spec_LoopOk.j9 k x10 x13 false x257000 x257001 x257002 x257003 x284000 x284001)) else (spec_LoopOk.j9 k x10 x13 true x257000 x257001 x257002 x257003 x284000 x284001))) else (none)) else (spec_LoopOk.l4 k (wrap64 (x10 + 1)) x257000 x257001 x257002 x257003)
def spec_LoopOk.j9 : Nat → Int → Int → Bool → List Int → Int → List (S69) → List (S74) → Int → List Int → Option (Bool)
 | 0, _, _, _, _, _, _, _, _, _ => none
 | k + 1, x10, x13, x195, x257000, x257001, x257002, x257003, x284000, x284001 => if x195 = true then (some false) else (spec_LoopOk.l6 k x10 (wrap64 (x13 + 1)) x257000 x257001 x257002 x257003 x284000 x284001)
end
def spec_LoopOk.f (k : Nat) (l0_0 : List Int) (a0_1 : Int) (l0_2 : List (S69)) (l0_3 : List (S74)) : Option (Bool) := (spec_l01In.f (l0_0.length : Int) 2 60).bind fun t257 => (if t257 = true then ((spec_l01In.f a0_1 0 (wrap64 ((l0_0.length : Int) - 1))).bind fun t258 => (if t258 = true then (if (l0_2.length : Int) > 8 then (spec_LoopOk.j0 k (l0_0.length : Int) true l0_0 a0_1 l0_2 l0_3) else (spec_LoopOk.j0 k (l0_0.length : Int) (decide ((l0_3.length : Int) > 60)) l0_0 a0_1 l0_2 l0_3)) else (spec_LoopOk.j0 k (l0_0.length : Int) true l0_0 a0_1 l0_2 l0_3))) else (spec_LoopOk.j0 k (l0_0.length : Int) true l0_0 a0_1 l0_2 l0_3))
set_option maxHeartbeats 8000000 in
set_option maxRecDepth 100000 in
theorem spec_LoopOk.calls (k : Nat) (aq : Option Addr) (an : Nat) (ae : List Int) (a0_1 : Int) (aw : Option Addr) (ao : Nat) (ab : List (S69)) (az : Option Addr) (ap : Nat) (ad : List (S74)) (r : Bool) (w : World) (d0 : Kd.C (Kd.int .i64) w aq ae.length ae) (hc0_0 : ae.length ≤ an) (d1 : Kd.C k69 w aw ab.length ab) (hc0_2 : ab.length ≤ ao) (d2 : Kd.C k74 w az ad.length ad) (hc0_3 : ad.length ≤ ap) (h : spec_LoopOk.f k ae a0_1 ab ad = some r) :
  Calls Try.prog 23 #[.agg #[.slice aq ae.length an, .int .i64 a0_1, .slice aw ab.length ao, .slice az ad.length ap]] w fun e w' => e = .returned (.bool r) ∧ Below w.heap.size w w' := by
 have hu28 := Try.underlying28; have hu69 := Try.underlying69; have hu74 := Try.underlying74; have cT := zK d0; have HC0_0 := zK hc0_0; clear d0 hc0_0; have cU := zK d1; have HC0_2 := zK hc0_2; clear d1 hc0_2; have cg := zK d2; have HC0_3 := zK hc0_3; clear d2 hc0_3
 have HB := zK (Below.refl w.heap.size w)
 have H : ((spec_l01In.f (ae.length : Int) 2 60).bind fun dh => (if dh = true then ((spec_l01In.f a0_1 0 (wrap64 ((ae.length : Int) - 1))).bind fun bQ => (if bQ = true then (if (ab.length : Int) > 8 then (spec_LoopOk.j0 k (ae.length : Int) true ae a0_1 ab ad) else (spec_LoopOk.j0 k (ae.length : Int) (decide ((ad.length : Int) > 60)) ae a0_1 ab ad)) else (spec_LoopOk.j0 k (ae.length : Int) true ae a0_1 ab ad))) else (spec_LoopOk.j0 k (ae.length : Int) true ae a0_1 ab ad))) = some r := h
 clear h; have HC2 := zK H; clear H
 go_enter Try.func23, Try.ntmps23
 go_upto_region 2 with (first | ((with_reducible refine gate_dst (N := 1) rfl ?_); (try (refine gate_guard (by rfl) ?_; dsimp only)); refine zX 1 #[.slice aq ae.length an, .int .i64 a0_1, .slice aw ab.length ao, .slice az ad.length ap] 28 ?_; intro ac hg w3 hbox hb; have aH := zK (below_step (zb HB) hb); have aI := zK (hbox); have aJ := zK ((by rw [hg]; exact (below_size (zb HB)) : w.heap.size ≤ ac)); have aY := zK ((by rw [hg]; exact (below_size (zb HB)) : w.heap.size ≤ ac)); clear HB; have HB := aH; have aa := aI; have d3 := aJ; have ah := aY; clear aH aI aJ aY; clear hb hbox hg; have b0 : w3.cell? ⟨ac, 0, none⟩ = some (.slice aq ae.length an) := (blk_cell aa.out 0).trans rfl; have b1 : w3.cell? ⟨ac, 1, none⟩ = some (.int .i64 a0_1) := (blk_cell aa.out 1).trans rfl; have b2 : w3.cell? ⟨ac, 2, none⟩ = some (.slice aw ab.length ao) := (blk_cell aa.out 2).trans rfl; have b3 : w3.cell? ⟨ac, 3, none⟩ = some (.slice az ad.length ap) := (blk_cell aa.out 3).trans rfl; have b4 := blk_frozen aa.out 0; have b5 := blk_frozen aa.out 1; have b6 := blk_frozen aa.out 2; have b7 := blk_frozen aa.out 3))
 repeat (go_quiet (first | ((with_reducible refine gate_dst (N := 1) rfl ?_); (try (refine gate_guard (by rfl) ?_; dsimp only)); refine zX 1 #[.slice aq ae.length an, .int .i64 a0_1, .slice aw ab.length ao, .slice az ad.length ap] 28 ?_; intro ac hg w3 hbox hb; have aH := zK (below_step (zb HB) hb); have aI := zK (hbox); have aJ := zK ((by rw [hg]; exact (below_size (zb HB)) : w.heap.size ≤ ac)); have aY := zK ((by rw [hg]; exact (below_size (zb HB)) : w.heap.size ≤ ac)); clear HB; have HB := aH; have aa := aI; have d3 := aJ; have ah := aY; clear aH aI aJ aY; clear hb hbox hg; have b0 : w3.cell? ⟨ac, 0, none⟩ = some (.slice aq ae.length an) := (blk_cell aa.out 0).trans rfl; have b1 : w3.cell? ⟨ac, 1, none⟩ = some (.int .i64 a0_1) := (blk_cell aa.out 1).trans rfl; have b2 : w3.cell? ⟨ac, 2, none⟩ = some (.slice aw ab.length ao) := (blk_cell aa.out 2).trans rfl; have b3 : w3.cell? ⟨ac, 3, none⟩ = some (.slice az ad.length ap) := (blk_cell aa.out 3).trans rfl; have b4 := blk_frozen aa.out 0; have b5 := blk_frozen aa.out 1; have b6 := blk_frozen aa.out 2; have b7 := blk_frozen aa.out 3)); go_upto_region 2 with (first | ((with_reducible refine gate_dst (N := 1) rfl ?_); (try (refine gate_guard (by rfl) ?_; dsimp only)); refine zX 1 #[.slice aq ae.length an, .int .i64 a0_1, .slice aw ab.length ao, .slice az ad.length ap] 28 ?_; intro ac hg w3 hbox hb; have aH := zK (below_step (zb HB) hb); have aI := zK (hbox); have aJ := zK ((by rw [hg]; exact (below_size (zb HB)) : w.heap.size ≤ ac)); have aY := zK ((by rw [hg]; exact (below_size (zb HB)) : w.heap.size ≤ ac)); clear HB; have HB := aH; have aa := aI; have d3 := aJ; have ah := aY; clear aH aI aJ aY; clear hb hbox hg; have b0 : w3.cell? ⟨ac, 0, none⟩ = some (.slice aq ae.length an) := (blk_cell aa.out 0).trans rfl; have b1 : w3.cell? ⟨ac, 1, none⟩ = some (.int .i64 a0_1) := (blk_cell aa.out 1).trans rfl; have b2 : w3.cell? ⟨ac, 2, none⟩ = some (.slice aw ab.length ao) := (blk_cell aa.out 2).trans rfl; have b3 : w3.cell? ⟨ac, 3, none⟩ = some (.slice az ad.length ap) := (blk_cell aa.out 3).trans rfl; have b4 := blk_frozen aa.out 0; have b5 := blk_frozen aa.out 1; have b6 := blk_frozen aa.out 2; have b7 := blk_frozen aa.out 3)))
 (try simp only [Act.put, zp, zq, zr])
 go_cut [39] (fun v39 wc => ∃ (kq : Nat) (ch : Bool), v39 = .bool ch ∧ Aside0 (spec_LoopOk.j0 kq (ae.length : Int) ch ae a0_1 ab ad = some r) ∧ Aside0 (kq ≤ k) ∧ Aside0 (wc.heap[ac]? = some (.cells #[(.slice aq ae.length an), .int .i64 a0_1, (.slice aw ab.length ao), (.slice az ad.length ap)] 28 (0, 0))) ∧ Aside0 (Below w.heap.size w wc))
 case first =>
  have H := HC2.out; clear HC2; replace H := Option.bind_eq_some_iff.mp H
  obtain ⟨dh, A50, H⟩ := H
  replace H : (if dh = true then ((spec_l01In.f a0_1 0 (wrap64 ((ae.length : Int) - 1))).bind fun bQ => (if bQ = true then (if (ab.length : Int) > 8 then (spec_LoopOk.j0 k (ae.length : Int) true ae a0_1 ab ad) else (spec_LoopOk.j0 k (ae.length : Int) (decide ((ad.length : Int) > 60)) ae a0_1 ab ad)) else (spec_LoopOk.j0 k (ae.length : Int) true ae a0_1 ab ad))) else (spec_LoopOk.j0 k (ae.length : Int) true ae a0_1 ab ad)) = some r := H
  have A5 := zK A50; clear A50
  by_cases c6 : dh = true
  ·subst c6
   have H1 : ((spec_l01In.f a0_1 0 (wrap64 ((ae.length : Int) - 1))).bind fun bQ => (if bQ = true then (if (ab.length : Int) > 8 then (spec_LoopOk.j0 k (ae.length : Int) true ae a0_1 ab ad) else (spec_LoopOk.j0 k (ae.length : Int) (decide ((ad.length : Int) > 60)) ae a0_1 ab ad)) else (spec_LoopOk.j0 k (ae.length : Int) true ae a0_1 ab ad))) = some r := by rw [if_pos rfl] at H; exact H
   clear H; have H := H1; clear H1; replace H := Option.bind_eq_some_iff.mp H
   obtain ⟨bQ, A70, H⟩ := H
   replace H : (if bQ = true then (if (ab.length : Int) > 8 then (spec_LoopOk.j0 k (ae.length : Int) true ae a0_1 ab ad) else (spec_LoopOk.j0 k (ae.length : Int) (decide ((ad.length : Int) > 60)) ae a0_1 ab ad)) else (spec_LoopOk.j0 k (ae.length : Int) true ae a0_1 ab ad)) = some r := H
   have A7 := zK A70; clear A70
   by_cases c8 : bQ = true
   ·subst c8
    have H1 : (if (ab.length : Int) > 8 then (spec_LoopOk.j0 k (ae.length : Int) true ae a0_1 ab ad) else (spec_LoopOk.j0 k (ae.length : Int) (decide ((ad.length : Int) > 60)) ae a0_1 ab ad)) = some r := by rw [if_pos rfl] at H; exact H
    clear H; have H := H1; clear H1
    by_cases c9 : (ab.length : Int) > 8
    ·rw [if_pos c9] at H
     have cV : decide (8 < (ab.length : Int)) = true := decide_eq_true c9
     have c9b1 : decide (8 < ab.length) = true := decide_eq_true (by omega)
     clear c9
     (first | rw [cV] | (simp only [i64_w, i32_w]; rw [cV]) | skip)
     have H' := zK H; clear H
     go_wp2_with (first | (go_at_call 62; (with_reducible refine (spec_l01In.calls (ae.length : Int) 2 60 true _ A5.out).mono ?_); rintro e w' ⟨rfl, ⟨nd, rfl⟩⟩; (try first | exact ⟨rfl, _, World.drewN_drewN _ _ _⟩ | exact ⟨rfl, _, Eq.trans (World.drewN_drewN _ _ _) (congrArg (World.drewN _) (Nat.add_assoc _ _ _))⟩); have ci : w3.cell? ⟨ac, 0, none⟩ = some (.slice aq ae.length an) := (blk_cell aa.out 0).trans rfl; have cj : w3.cell? ⟨ac, 1, none⟩ = some (.int .i64 a0_1) := (blk_cell aa.out 1).trans rfl; have ck : w3.cell? ⟨ac, 2, none⟩ = some (.slice aw ab.length ao) := (blk_cell aa.out 2).trans rfl; have cl : w3.cell? ⟨ac, 3, none⟩ = some (.slice az ad.length ap) := (blk_cell aa.out 3).trans rfl; have cm := blk_frozen aa.out 0; have cn := blk_frozen aa.out 1; have co := blk_frozen aa.out 2; have cp := blk_frozen aa.out 3) | (go_at_call 62; (with_reducible refine (spec_l01In.calls a0_1 0 (wrap64 ((ae.length : Int) - 1)) true _ A7.out).mono ?_); rintro e w' ⟨rfl, ⟨nd, rfl⟩⟩; (try first | exact ⟨rfl, _, World.drewN_drewN _ _ _⟩ | exact ⟨rfl, _, Eq.trans (World.drewN_drewN _ _ _) (congrArg (World.drewN _) (Nat.add_assoc _ _ _))⟩)))
     repeat (go_quiet (first | (go_at_call 62; (with_reducible refine (spec_l01In.calls (ae.length : Int) 2 60 true _ A5.out).mono ?_); rintro e w' ⟨rfl, ⟨nd, rfl⟩⟩; (try first | exact ⟨rfl, _, World.drewN_drewN _ _ _⟩ | exact ⟨rfl, _, Eq.trans (World.drewN_drewN _ _ _) (congrArg (World.drewN _) (Nat.add_assoc _ _ _))⟩); have ci : w3.cell? ⟨ac, 0, none⟩ = some (.slice aq ae.length an) := (blk_cell aa.out 0).trans rfl; have cj : w3.cell? ⟨ac, 1, none⟩ = some (.int .i64 a0_1) := (blk_cell aa.out 1).trans rfl; have ck : w3.cell? ⟨ac, 2, none⟩ = some (.slice aw ab.length ao) := (blk_cell aa.out 2).trans rfl; have cl : w3.cell? ⟨ac, 3, none⟩ = some (.slice az ad.length ap) := (blk_cell aa.out 3).trans rfl; have cm := blk_frozen aa.out 0; have cn := blk_frozen aa.out 1; have co := blk_frozen aa.out 2; have cp := blk_frozen aa.out 3) | (go_at_call 62; (with_reducible refine (spec_l01In.calls a0_1 0 (wrap64 ((ae.length : Int) - 1)) true _ A7.out).mono ?_); rintro e w' ⟨rfl, ⟨nd, rfl⟩⟩; (try first | exact ⟨rfl, _, World.drewN_drewN _ _ _⟩ | exact ⟨rfl, _, Eq.trans (World.drewN_drewN _ _ _) (congrArg (World.drewN _) (Nat.add_assoc _ _ _))⟩))); try go_wp2_with (first | (go_at_call 62; (with_reducible refine (spec_l01In.calls (ae.length : Int) 2 60 true _ A5.out).mono ?_); rintro e w' ⟨rfl, ⟨nd, rfl⟩⟩; (try first | exact ⟨rfl, _, World.drewN_drewN _ _ _⟩ | exact ⟨rfl, _, Eq.trans (World.drewN_drewN _ _ _) (congrArg (World.drewN _) (Nat.add_assoc _ _ _))⟩); have ci : w3.cell? ⟨ac, 0, none⟩ = some (.slice aq ae.length an) := (blk_cell aa.out 0).trans rfl; have cj : w3.cell? ⟨ac, 1, none⟩ = some (.int .i64 a0_1) := (blk_cell aa.out 1).trans rfl; have ck : w3.cell? ⟨ac, 2, none⟩ = some (.slice aw ab.length ao) := (blk_cell aa.out 2).trans rfl; have cl : w3.cell? ⟨ac, 3, none⟩ = some (.slice az ad.length ap) := (blk_cell aa.out 3).trans rfl; have cm := blk_frozen aa.out 0; have cn := blk_frozen aa.out 1; have co := blk_frozen aa.out 2; have cp := blk_frozen aa.out 3) | (go_at_call 62; (with_reducible refine (spec_l01In.calls a0_1 0 (wrap64 ((ae.length : Int) - 1)) true _ A7.out).mono ?_); rintro e w' ⟨rfl, ⟨nd, rfl⟩⟩; (try first | exact ⟨rfl, _, World.drewN_drewN _ _ _⟩ | exact ⟨rfl, _, Eq.trans (World.drewN_drewN _ _ _) (congrArg (World.drewN _) (Nat.add_assoc _ _ _))⟩))))
     go_meet
     case rel => exact ⟨_, (true), zf, H', ⟨by first | omega | exact Nat.le_refl _⟩, ⟨zk aa⟩, ⟨zb HB⟩⟩
    ·rw [if_neg c9] at H
     have cV : decide (8 < (ab.length : Int)) = false := decide_eq_false c9
     have c9b1 : decide (8 < ab.length) = false := decide_eq_false (by omega)
     clear c9
     (first | rw [cV] | (simp only [i64_w, i32_w]; rw [cV]) | skip)
     have H' := zK H; clear H
     go_wp2_with (first | (go_at_call 62; (with_reducible refine (spec_l01In.calls (ae.length : Int) 2 60 true _ A5.out).mono ?_); rintro e w' ⟨rfl, ⟨nd, rfl⟩⟩; (try first | exact ⟨rfl, _, World.drewN_drewN _ _ _⟩ | exact ⟨rfl, _, Eq.trans (World.drewN_drewN _ _ _) (congrArg (World.drewN _) (Nat.add_assoc _ _ _))⟩); have cq : w3.cell? ⟨ac, 0, none⟩ = some (.slice aq ae.length an) := (blk_cell aa.out 0).trans rfl; have cr : w3.cell? ⟨ac, 1, none⟩ = some (.int .i64 a0_1) := (blk_cell aa.out 1).trans rfl; have ct : w3.cell? ⟨ac, 2, none⟩ = some (.slice aw ab.length ao) := (blk_cell aa.out 2).trans rfl; have cu : w3.cell? ⟨ac, 3, none⟩ = some (.slice az ad.length ap) := (blk_cell aa.out 3).trans rfl; have cv := blk_frozen aa.out 0; have cw := blk_frozen aa.out 1; have cx := blk_frozen aa.out 2; have cy := blk_frozen aa.out 3) | (go_at_call 62; (with_reducible refine (spec_l01In.calls a0_1 0 (wrap64 ((ae.length : Int) - 1)) true _ A7.out).mono ?_); rintro e w' ⟨rfl, ⟨nd, rfl⟩⟩; (try first | exact ⟨rfl, _, World.drewN_drewN _ _ _⟩ | exact ⟨rfl, _, Eq.trans (World.drewN_drewN _ _ _) (congrArg (World.drewN _) (Nat.add_assoc _ _ _))⟩)))
     repeat (go_quiet (first | (go_at_call 62; (with_reducible refine (spec_l01In.calls (ae.length : Int) 2 60 true _ A5.out).mono ?_); rintro e w' ⟨rfl, ⟨nd, rfl⟩⟩; (try first | exact ⟨rfl, _, World.drewN_drewN _ _ _⟩ | exact ⟨rfl, _, Eq.trans (World.drewN_drewN _ _ _) (congrArg (World.drewN _) (Nat.add_assoc _ _ _))⟩); have cq : w3.cell? ⟨ac, 0, none⟩ = some (.slice aq ae.length an) := (blk_cell aa.out 0).trans rfl; have cr : w3.cell? ⟨ac, 1, none⟩ = some (.int .i64 a0_1) := (blk_cell aa.out 1).trans rfl; have ct : w3.cell? ⟨ac, 2, none⟩ = some (.slice aw ab.length ao) := (blk_cell aa.out 2).trans rfl; have cu : w3.cell? ⟨ac, 3, none⟩ = some (.slice az ad.length ap) := (blk_cell aa.out 3).trans rfl; have cv := blk_frozen aa.out 0; have cw := blk_frozen aa.out 1; have cx := blk_frozen aa.out 2; have cy := blk_frozen aa.out 3) | (go_at_call 62; (with_reducible refine (spec_l01In.calls a0_1 0 (wrap64 ((ae.length : Int) - 1)) true _ A7.out).mono ?_); rintro e w' ⟨rfl, ⟨nd, rfl⟩⟩; (try first | exact ⟨rfl, _, World.drewN_drewN _ _ _⟩ | exact ⟨rfl, _, Eq.trans (World.drewN_drewN _ _ _) (congrArg (World.drewN _) (Nat.add_assoc _ _ _))⟩))); try go_wp2_with (first | (go_at_call 62; (with_reducible refine (spec_l01In.calls (ae.length : Int) 2 60 true _ A5.out).mono ?_); rintro e w' ⟨rfl, ⟨nd, rfl⟩⟩; (try first | exact ⟨rfl, _, World.drewN_drewN _ _ _⟩ | exact ⟨rfl, _, Eq.trans (World.drewN_drewN _ _ _) (congrArg (World.drewN _) (Nat.add_assoc _ _ _))⟩); have cq : w3.cell? ⟨ac, 0, none⟩ = some (.slice aq ae.length an) := (blk_cell aa.out 0).trans rfl; have cr : w3.cell? ⟨ac, 1, none⟩ = some (.int .i64 a0_1) := (blk_cell aa.out 1).trans rfl; have ct : w3.cell? ⟨ac, 2, none⟩ = some (.slice aw ab.length ao) := (blk_cell aa.out 2).trans rfl; have cu : w3.cell? ⟨ac, 3, none⟩ = some (.slice az ad.length ap) := (blk_cell aa.out 3).trans rfl; have cv := blk_frozen aa.out 0; have cw := blk_frozen aa.out 1; have cx := blk_frozen aa.out 2; have cy := blk_frozen aa.out 3) | (go_at_call 62; (with_reducible refine (spec_l01In.calls a0_1 0 (wrap64 ((ae.length : Int) - 1)) true _ A7.out).mono ?_); rintro e w' ⟨rfl, ⟨nd, rfl⟩⟩; (try first | exact ⟨rfl, _, World.drewN_drewN _ _ _⟩ | exact ⟨rfl, _, Eq.trans (World.drewN_drewN _ _ _) (congrArg (World.drewN _) (Nat.add_assoc _ _ _))⟩))))
     go_meet
     case rel => exact ⟨_, (decide ((ad.length : Int) > 60)), zf, H', ⟨by first | omega | exact Nat.le_refl _⟩, ⟨zk aa⟩, ⟨zb HB⟩⟩
   ·replace c8 := Bool.eq_false_iff.mpr c8
    subst c8
    have H1 : (spec_LoopOk.j0 k (ae.length : Int) true ae a0_1 ab ad) = some r := by rw [if_neg (show ¬ (false = true) by decide)] at H; exact H
    clear H; have H := H1; clear H1; have H' := zK H; clear H
    go_wp2_with (first | (go_at_call 62; (with_reducible refine (spec_l01In.calls (ae.length : Int) 2 60 true _ A5.out).mono ?_); rintro e w' ⟨rfl, ⟨nd, rfl⟩⟩; (try first | exact ⟨rfl, _, World.drewN_drewN _ _ _⟩ | exact ⟨rfl, _, Eq.trans (World.drewN_drewN _ _ _) (congrArg (World.drewN _) (Nat.add_assoc _ _ _))⟩); have cz : w3.cell? ⟨ac, 0, none⟩ = some (.slice aq ae.length an) := (blk_cell aa.out 0).trans rfl; have cA : w3.cell? ⟨ac, 1, none⟩ = some (.int .i64 a0_1) := (blk_cell aa.out 1).trans rfl; have cB : w3.cell? ⟨ac, 2, none⟩ = some (.slice aw ab.length ao) := (blk_cell aa.out 2).trans rfl; have cC : w3.cell? ⟨ac, 3, none⟩ = some (.slice az ad.length ap) := (blk_cell aa.out 3).trans rfl; have cD := blk_frozen aa.out 0; have cE := blk_frozen aa.out 1; have cF := blk_frozen aa.out 2; have cG := blk_frozen aa.out 3) | (go_at_call 62; (with_reducible refine (spec_l01In.calls a0_1 0 (wrap64 ((ae.length : Int) - 1)) false _ A7.out).mono ?_); rintro e w' ⟨rfl, ⟨nd, rfl⟩⟩; (try first | exact ⟨rfl, _, World.drewN_drewN _ _ _⟩ | exact ⟨rfl, _, Eq.trans (World.drewN_drewN _ _ _) (congrArg (World.drewN _) (Nat.add_assoc _ _ _))⟩)))
    repeat (go_quiet (first | (go_at_call 62; (with_reducible refine (spec_l01In.calls (ae.length : Int) 2 60 true _ A5.out).mono ?_); rintro e w' ⟨rfl, ⟨nd, rfl⟩⟩; (try first | exact ⟨rfl, _, World.drewN_drewN _ _ _⟩ | exact ⟨rfl, _, Eq.trans (World.drewN_drewN _ _ _) (congrArg (World.drewN _) (Nat.add_assoc _ _ _))⟩); have cz : w3.cell? ⟨ac, 0, none⟩ = some (.slice aq ae.length an) := (blk_cell aa.out 0).trans rfl; have cA : w3.cell? ⟨ac, 1, none⟩ = some (.int .i64 a0_1) := (blk_cell aa.out 1).trans rfl; have cB : w3.cell? ⟨ac, 2, none⟩ = some (.slice aw ab.length ao) := (blk_cell aa.out 2).trans rfl; have cC : w3.cell? ⟨ac, 3, none⟩ = some (.slice az ad.length ap) := (blk_cell aa.out 3).trans rfl; have cD := blk_frozen aa.out 0; have cE := blk_frozen aa.out 1; have cF := blk_frozen aa.out 2; have cG := blk_frozen aa.out 3) | (go_at_call 62; (with_reducible refine (spec_l01In.calls a0_1 0 (wrap64 ((ae.length : Int) - 1)) false _ A7.out).mono ?_); rintro e w' ⟨rfl, ⟨nd, rfl⟩⟩; (try first | exact ⟨rfl, _, World.drewN_drewN _ _ _⟩ | exact ⟨rfl, _, Eq.trans (World.drewN_drewN _ _ _) (congrArg (World.drewN _) (Nat.add_assoc _ _ _))⟩))); try go_wp2_with (first | (go_at_call 62; (with_reducible refine (spec_l01In.calls (ae.length : Int) 2 60 true _ A5.out).mono ?_); rintro e w' ⟨rfl, ⟨nd, rfl⟩⟩; (try first | exact ⟨rfl, _, World.drewN_drewN _ _ _⟩ | exact ⟨rfl, _, Eq.trans (World.drewN_drewN _ _ _) (congrArg (World.drewN _) (Nat.add_assoc _ _ _))⟩); have cz : w3.cell? ⟨ac, 0, none⟩ = some (.slice aq ae.length an) := (blk_cell aa.out 0).trans rfl; have cA : w3.cell? ⟨ac, 1, none⟩ = some (.int .i64 a0_1) := (blk_cell aa.out 1).trans rfl; have cB : w3.cell? ⟨ac, 2, none⟩ = some (.slice aw ab.length ao) := (blk_cell aa.out 2).trans rfl; have cC : w3.cell? ⟨ac, 3, none⟩ = some (.slice az ad.length ap) := (blk_cell aa.out 3).trans rfl; have cD := blk_frozen aa.out 0; have cE := blk_frozen aa.out 1; have cF := blk_frozen aa.out 2; have cG := blk_frozen aa.out 3) | (go_at_call 62; (with_reducible refine (spec_l01In.calls a0_1 0 (wrap64 ((ae.length : Int) - 1)) false _ A7.out).mono ?_); rintro e w' ⟨rfl, ⟨nd, rfl⟩⟩; (try first | exact ⟨rfl, _, World.drewN_drewN _ _ _⟩ | exact ⟨rfl, _, Eq.trans (World.drewN_drewN _ _ _) (congrArg (World.drewN _) (Nat.add_assoc _ _ _))⟩))))
    go_meet
    case rel => exact ⟨_, (true), zf, H', ⟨by first | omega | exact Nat.le_refl _⟩, ⟨zk aa⟩, ⟨zb HB⟩⟩
  ·replace c6 := Bool.eq_false_iff.mpr c6
   subst c6
   have H1 : (spec_LoopOk.j0 k (ae.length : Int) true ae a0_1 ab ad) = some r := by rw [if_neg (show ¬ (false = true) by decide)] at H; exact H
   clear H; have H := H1; clear H1; have H' := zK H; clear H
   go_wp2_with (first | (go_at_call 62; (with_reducible refine (spec_l01In.calls (ae.length : Int) 2 60 false _ A5.out).mono ?_); rintro e w' ⟨rfl, ⟨nd, rfl⟩⟩; (try first | exact ⟨rfl, _, World.drewN_drewN _ _ _⟩ | exact ⟨rfl, _, Eq.trans (World.drewN_drewN _ _ _) (congrArg (World.drewN _) (Nat.add_assoc _ _ _))⟩)))
   repeat (go_quiet (first | (go_at_call 62; (with_reducible refine (spec_l01In.calls (ae.length : Int) 2 60 false _ A5.out).mono ?_); rintro e w' ⟨rfl, ⟨nd, rfl⟩⟩; (try first | exact ⟨rfl, _, World.drewN_drewN _ _ _⟩ | exact ⟨rfl, _, Eq.trans (World.drewN_drewN _ _ _) (congrArg (World.drewN _) (Nat.add_assoc _ _ _))⟩))); try go_wp2_with (first | (go_at_call 62; (with_reducible refine (spec_l01In.calls (ae.length : Int) 2 60 false _ A5.out).mono ?_); rintro e w' ⟨rfl, ⟨nd, rfl⟩⟩; (try first | exact ⟨rfl, _, World.drewN_drewN _ _ _⟩ | exact ⟨rfl, _, Eq.trans (World.drewN_drewN _ _ _) (congrArg (World.drewN _) (Nat.add_assoc _ _ _))⟩))))
   go_meet
   case rel => exact ⟨_, (true), zf, H', ⟨by first | omega | exact Nat.le_refl _⟩, ⟨zk aa⟩, ⟨zb HB⟩⟩
 case rest =>
  clear HC2 b0 b1 b2 b3 b4 b5 b6 b7
  obtain ⟨kq, ch, rfl, HA, bv, aa, HB⟩ := hcut
  cases kq with
  | zero => exact absurd HA.out (by simp [spec_LoopOk.j0])
  | succ kj1 =>
   have H := HA.out; clear HA
   simp only [spec_LoopOk.j0] at H
   by_cases c13 : ch = true
   ·subst c13
    have H1 : (some false) = some r := by rw [if_pos rfl] at H; exact H
    clear H; have H := H1; clear H1; obtain rfl := Option.some.inj H
    go_wp2
    repeat (go_quiet (fail); try go_wp2)
    go_ret
    exact ⟨ze, zb HB⟩
   ·replace c13 := Bool.eq_false_iff.mpr c13
    subst c13
    have H1 : (spec_LoopOk.l0 kj1 (ae.length : Int) (([] : List Int)) 0 ae a0_1 ab ad) = some r := by rw [if_neg (show ¬ (false = true) by decide)] at H; exact H
    clear H; have H := H1; clear H1
    obtain ⟨e4, bR⟩ : ∃ y_ : List Int, y_ = (([] : List Int)) := ⟨_, rfl⟩
    replace H : (spec_LoopOk.l0 kj1 (ae.length : Int) e4 0 ae a0_1 ab ad) = some r := by first | (rw [bR]; with_reducible exact H) | (have H2_ := (Option.bind_some _ _).symm.trans H; rw [bR]; with_reducible exact H2_) | (have H2_ := (Option.bind_some _ _).symm.trans H; with_reducible exact H2_) | with_reducible exact H | (rw [bR]; exact H) | exact H
    have Ny259 := zK bR; clear bR; have H' := zK H; clear H
    go_wp2_with (first | ((with_reducible refine gate_dst (N := 40) rfl ?_); (try (refine gate_guard (by rfl) ?_; dsimp only)); refine Kd.R_lit (Kd.int .i64) _ 3 ?hg (N := 40) ?hd (xs := ([] : List Int)) (inner := []) (ok := fun _ => True) (okp := fun _ => True) ?hr ?hp (fun _ hk => hk) trivial (Below.refl _ _) (Nat.le_refl _) (by simp) ?_; (case hd => rfl); (case hg => rfl); (case hr => first | (go_simp; done) | (go_simp; rfl)); (case hp => exact (Reps.none _ _)); intro e5 w14 ho15 hb hg_ hnew_; clear hg_ hnew_; (first | rw [← Ny259.out] at ho15 | (simp only [Int.reduceToNat] at ho15; rw [← Ny259.out] at ho15)); have aH := zK (Kd.R_lower ho15 (below_size (zb HB))); have aI := zK (blk_below (g := ac) (o := .cells #[.slice aq ae.length an, .int .i64 a0_1, .slice aw ab.length ao, .slice az ad.length ap] 28 (0, 0)) (zk aa) hb); have aJ := zK (below_step (zb HB) hb); clear aa; clear HB; have cW := aH; have aa := aI; have HB := aJ; clear aH aI aJ; clear hb ho15))
    repeat (go_quiet (first | ((with_reducible refine gate_dst (N := 40) rfl ?_); (try (refine gate_guard (by rfl) ?_; dsimp only)); refine Kd.R_lit (Kd.int .i64) _ 3 ?hg (N := 40) ?hd (xs := ([] : List Int)) (inner := []) (ok := fun _ => True) (okp := fun _ => True) ?hr ?hp (fun _ hk => hk) trivial (Below.refl _ _) (Nat.le_refl _) (by simp) ?_; (case hd => rfl); (case hg => rfl); (case hr => first | (go_simp; done) | (go_simp; rfl)); (case hp => exact (Reps.none _ _)); intro e5 w14 ho15 hb hg_ hnew_; clear hg_ hnew_; (first | rw [← Ny259.out] at ho15 | (simp only [Int.reduceToNat] at ho15; rw [← Ny259.out] at ho15)); have aH := zK (Kd.R_lower ho15 (below_size (zb HB))); have aI := zK (blk_below (g := ac) (o := .cells #[.slice aq ae.length an, .int .i64 a0_1, .slice aw ab.length ao, .slice az ad.length ap] 28 (0, 0)) (zk aa) hb); have aJ := zK (below_step (zb HB) hb); clear aa; clear HB; have cW := aH; have aa := aI; have HB := aJ; clear aH aI aJ; clear hb ho15)); try go_wp2_with (first | ((with_reducible refine gate_dst (N := 40) rfl ?_); (try (refine gate_guard (by rfl) ?_; dsimp only)); refine Kd.R_lit (Kd.int .i64) _ 3 ?hg (N := 40) ?hd (xs := ([] : List Int)) (inner := []) (ok := fun _ => True) (okp := fun _ => True) ?hr ?hp (fun _ hk => hk) trivial (Below.refl _ _) (Nat.le_refl _) (by simp) ?_; (case hd => rfl); (case hg => rfl); (case hr => first | (go_simp; done) | (go_simp; rfl)); (case hp => exact (Reps.none _ _)); intro e5 w14 ho15 hb hg_ hnew_; clear hg_ hnew_; (first | rw [← Ny259.out] at ho15 | (simp only [Int.reduceToNat] at ho15; rw [← Ny259.out] at ho15)); have aH := zK (Kd.R_lower ho15 (below_size (zb HB))); have aI := zK (blk_below (g := ac) (o := .cells #[.slice aq ae.length an, .int .i64 a0_1, .slice aw ab.length ao, .slice az ad.length ap] 28 (0, 0)) (zk aa) hb); have aJ := zK (below_step (zb HB) hb); clear aa; clear HB; have cW := aH; have aa := aI; have HB := aJ; clear aH aI aJ; clear hb ho15)))
    go_loopg [4, 5] kj1 (fun kq v4 v5 w' => ∃ (bx : List Int) (aE : Int), v5 = .int .i64 aE ∧ Aside0 (spec_LoopOk.l0 kq (ae.length : Int) bx aE ae a0_1 ab ad = some r) ∧ Aside0 (kq ≤ kj1) ∧ Aside0 (Kd.R (Kd.int .i64) 3 w' w.heap.size (fun _ => True) v4 bx) ∧ Aside0 (w'.heap[ac]? = some (.cells #[(.slice aq ae.length an), .int .i64 a0_1, (.slice aw ab.length ao), (.slice az ad.length ap)] 28 (0, 0))) ∧ Aside0 (Below w.heap.size w w'))
    case atStart => exact ⟨(e4), (0), zf, H', ⟨Nat.le_refl _⟩, ⟨zR cW⟩, ⟨zk aa⟩, ⟨zb HB⟩⟩
    case round =>
     clear H'
     obtain ⟨bx, aE, rfl, HA, bw, ay, aa, HB⟩ := hrel
     cases gk with
     | zero => exact absurd HA.out (by simp [spec_LoopOk.l0])
     | succ k2 =>
      have H := HA.out; clear HA
      simp only [spec_LoopOk.l0] at H
      by_cases eS : aE < (ae.length : Int)
      ·rw [if_pos eS] at H
       have d4 : decide (aE < (ae.length : Int)) = true := decide_eq_true eS
       clear eS
       by_cases c17 : 0 ≤ aE
       ·rw [if_pos c17] at H
        have c17b0 : decide (0 ≤ aE) = true := decide_eq_true c17
        clear c17
        by_cases c18 : aE < (ae.length : Int)
        ·rw [if_pos c18] at H
         have c18b0 : decide (aE < (ae.length : Int)) = true := decide_eq_true c18
         clear c18
         by_cases en : (rd ae aE) = 0
         ·rw [if_pos en] at H
          have e6 : ((rd ae aE) == 0) = true := beq_iff_eq.mpr en
          have e7 : ((rd ae aE) != 0) = false := bne_eq_false_iff_eq.mpr en
          clear en; have H' := zK H; clear H
          have hcz20_0 : wr.cell? ⟨ac, 0, none⟩ = some (.slice aq ae.length an) := (blk_cell aa.out 0).trans rfl
          have hcz20_1 : wr.cell? ⟨ac, 1, none⟩ = some (.int .i64 a0_1) := (blk_cell aa.out 1).trans rfl
          have hcz20_2 : wr.cell? ⟨ac, 2, none⟩ = some (.slice aw ab.length ao) := (blk_cell aa.out 2).trans rfl
          have hcz20_3 : wr.cell? ⟨ac, 3, none⟩ = some (.slice az ad.length ap) := (blk_cell aa.out 3).trans rfl
          have hfz20_0 := blk_frozen aa.out 0; have hfz20_1 := blk_frozen aa.out 1; have hfz20_2 := blk_frozen aa.out 2; have hfz20_3 := blk_frozen aa.out 3
          have b8 : 0 ≤ (aE : Int) := zd
          have b9 : aE < (ae.length : Int) := zd
          obtain ⟨bS, eo, a2⟩ := Kd.at_int cT.out aE b8 b9
          cases eo
          replace a2 := (HB.out.cell (World.block_lt_of_cell? w _ a2)).trans a2
          replace b8 := eq_true b8; replace b9 := eq_true b9
          go_wp2
          repeat (go_quiet (fail); try go_wp2)
          go_roundg k2
          case measure => have := bv.out; have := bw.out; omega
          case rel => exact ⟨(bx), (wrap64 (aE + 1)), zf, H', ⟨by have := bv.out; have := bw.out; omega⟩, ⟨zR ay⟩, ⟨zk aa⟩, ⟨zb HB⟩⟩
         ·rw [if_neg en] at H
          have e6 : ((rd ae aE) == 0) = false := beq_eq_false_iff_ne.mpr en
          have e7 : ((rd ae aE) != 0) = true := bne_iff_ne.mpr en
          by_cases c21 : bx.length < 17592186044416
          ·rw [if_pos c21] at H
           have cX := zK c21; clear c21
           obtain ⟨e8, bT⟩ : ∃ y_ : List Int, y_ = (bx ++ [rd ae aE]) := ⟨_, rfl⟩
           replace H : (spec_LoopOk.l0 k2 (ae.length : Int) e8 (wrap64 (aE + 1)) ae a0_1 ab ad) = some r := by first | (rw [bT]; with_reducible exact H) | (have H2_ := (Option.bind_some _ _).symm.trans H; rw [bT]; with_reducible exact H2_) | (have H2_ := (Option.bind_some _ _).symm.trans H; with_reducible exact H2_) | with_reducible exact H | (rw [bT]; exact H) | exact H
           have Ny264 := zK bT; clear bT; have H' := zK H; clear H
           have hcz22_0 : wr.cell? ⟨ac, 0, none⟩ = some (.slice aq ae.length an) := (blk_cell aa.out 0).trans rfl
           have hcz22_1 : wr.cell? ⟨ac, 1, none⟩ = some (.int .i64 a0_1) := (blk_cell aa.out 1).trans rfl
           have hcz22_2 : wr.cell? ⟨ac, 2, none⟩ = some (.slice aw ab.length ao) := (blk_cell aa.out 2).trans rfl
           have hcz22_3 : wr.cell? ⟨ac, 3, none⟩ = some (.slice az ad.length ap) := (blk_cell aa.out 3).trans rfl
           have hfz22_0 := blk_frozen aa.out 0; have hfz22_1 := blk_frozen aa.out 1; have hfz22_2 := blk_frozen aa.out 2; have hfz22_3 := blk_frozen aa.out 3
           have b8 : 0 ≤ (aE : Int) := zd
           have b9 : aE < (ae.length : Int) := zd
           obtain ⟨bS, eo, a2⟩ := Kd.at_int cT.out aE b8 b9
           cases eo
           replace a2 := (HB.out.cell (World.block_lt_of_cell? w _ a2)).trans a2
           replace b8 := eq_true b8; replace b9 := eq_true b9
           have ep : 0 ≤ (aE : Int) := zd
           have er : aE < (ae.length : Int) := zd
           obtain ⟨e9, e263, bA⟩ := Kd.at_int cT.out aE ep er
           obtain rfl : bS = e9 := (by injection e263)
           replace bA := (HB.out.cell (World.block_lt_of_cell? w _ bA)).trans bA
           replace ep := eq_true ep; replace er := eq_true er
           go_wp2_with (first | ((with_reducible refine gate_builtin (b := .append) (xs := #[.tmp 52, .tmp 58]) rfl ?_); (try (refine gate_guard (by rfl) ?_; dsimp only)); at_builtin; refine Kd.R_append (Kd.int .i64) (w0 := w) w.heap.size rfl (.tmp 52) (.tmp 58) 24 3 (.int .i64 0) 8 rfl Try.underlying24 info3 rfl (by decide) (by omega) u4 bx (rd ae aE) [.int .i64 (rd ae aE)] (fun _ => True) (fun _ => False) rfl rfl ?aP (fun _ hk => hk.elim) ?aF ?aO ?aB ?aS ?aL ?_; (case aP => exact rfl); (case aB => exact (zb HB)); (case aF => exact (fun _ _ => trivial)); (case aO => exact (zR ay)); (case aS => exact (below_size (zb HB))); (case aL => have := cX.out; omega); intro fa w23 ho hb hg hat; rw [← Ny264.out] at ho; have aH := zK (blk_grown (g := ac) (o := .cells #[.slice (some bS) ae.length an, .int .i64 a0_1, .slice aw ab.length ao, .slice az ad.length ap] 28 (0, 0)) (zk aa) hg (Kd.R_ne ay.out aa.out (by decide))); have aI := zK (hb); have aJ := zK (ho); clear aa; clear HB; clear ay; have aa := aH; have HB := aI; have cY := aJ; clear aH aI aJ; clear ho hb hg hat))
           repeat (go_quiet (first | ((with_reducible refine gate_builtin (b := .append) (xs := #[.tmp 52, .tmp 58]) rfl ?_); (try (refine gate_guard (by rfl) ?_; dsimp only)); at_builtin; refine Kd.R_append (Kd.int .i64) (w0 := w) w.heap.size rfl (.tmp 52) (.tmp 58) 24 3 (.int .i64 0) 8 rfl Try.underlying24 info3 rfl (by decide) (by omega) u4 bx (rd ae aE) [.int .i64 (rd ae aE)] (fun _ => True) (fun _ => False) rfl rfl ?aP (fun _ hk => hk.elim) ?aF ?aO ?aB ?aS ?aL ?_; (case aP => exact rfl); (case aB => exact (zb HB)); (case aF => exact (fun _ _ => trivial)); (case aO => exact (zR ay)); (case aS => exact (below_size (zb HB))); (case aL => have := cX.out; omega); intro fa w23 ho hb hg hat; rw [← Ny264.out] at ho; have aH := zK (blk_grown (g := ac) (o := .cells #[.slice (some bS) ae.length an, .int .i64 a0_1, .slice aw ab.length ao, .slice az ad.length ap] 28 (0, 0)) (zk aa) hg (Kd.R_ne ay.out aa.out (by decide))); have aI := zK (hb); have aJ := zK (ho); clear aa; clear HB; clear ay; have aa := aH; have HB := aI; have cY := aJ; clear aH aI aJ; clear ho hb hg hat)); try go_wp2_with (first | ((with_reducible refine gate_builtin (b := .append) (xs := #[.tmp 52, .tmp 58]) rfl ?_); (try (refine gate_guard (by rfl) ?_; dsimp only)); at_builtin; refine Kd.R_append (Kd.int .i64) (w0 := w) w.heap.size rfl (.tmp 52) (.tmp 58) 24 3 (.int .i64 0) 8 rfl Try.underlying24 info3 rfl (by decide) (by omega) u4 bx (rd ae aE) [.int .i64 (rd ae aE)] (fun _ => True) (fun _ => False) rfl rfl ?aP (fun _ hk => hk.elim) ?aF ?aO ?aB ?aS ?aL ?_; (case aP => exact rfl); (case aB => exact (zb HB)); (case aF => exact (fun _ _ => trivial)); (case aO => exact (zR ay)); (case aS => exact (below_size (zb HB))); (case aL => have := cX.out; omega); intro fa w23 ho hb hg hat; rw [← Ny264.out] at ho; have aH := zK (blk_grown (g := ac) (o := .cells #[.slice (some bS) ae.length an, .int .i64 a0_1, .slice aw ab.length ao, .slice az ad.length ap] 28 (0, 0)) (zk aa) hg (Kd.R_ne ay.out aa.out (by decide))); have aI := zK (hb); have aJ := zK (ho); clear aa; clear HB; clear ay; have aa := aH; have HB := aI; have cY := aJ; clear aH aI aJ; clear ho hb hg hat)))
           go_roundg k2
           case measure => have := bv.out; have := bw.out; omega
           case rel => exact ⟨(e8), (wrap64 (aE + 1)), zf, H', ⟨by have := bv.out; have := bw.out; omega⟩, ⟨zR cY⟩, ⟨zk aa⟩, ⟨zb HB⟩⟩
          ·rw [if_neg c21] at H
           exact absurd H (by simp)
        ·rw [if_neg c18] at H
         exact absurd H (by simp)
       ·rw [if_neg c17] at H
        exact absurd H (by simp)
      ·rw [if_neg eS] at H
       have d4 : decide (aE < (ae.length : Int)) = false := decide_eq_false eS
       clear eS; have H' := zK H; clear H
       go_wp2
       repeat (go_quiet (fail); try go_wp2)
       go_loopg [4, 6] k2 (fun kq v4 v6 w' => ∃ (ax : List Int) (ag : Int), v6 = .int .i64 ag ∧ Aside0 (spec_LoopOk.l1 kq (ae.length : Int) ax ag ae a0_1 ab ad = some r) ∧ Aside0 (kq ≤ k2) ∧ Aside0 (Kd.R (Kd.int .i64) 3 w' w.heap.size (fun _ => True) v4 ax) ∧ Aside0 (w'.heap[ac]? = some (.cells #[(.slice aq ae.length an), .int .i64 a0_1, (.slice aw ab.length ao), (.slice az ad.length ap)] 28 (0, 0))) ∧ Aside0 (Below w.heap.size w w'))
       case atStart => exact ⟨(bx), (0), zf, H', ⟨Nat.le_refl _⟩, ⟨zR ay⟩, ⟨zk aa⟩, ⟨zb HB⟩⟩
       case round =>
        clear H' d4
        obtain ⟨ax, ag, rfl, HA, bP, ay, aa, HB⟩ := hrel
        cases gk with
        | zero => exact absurd HA.out (by simp [spec_LoopOk.l1])
        | succ k3 =>
         have H := HA.out; clear HA
         simp only [spec_LoopOk.l1] at H
         by_cases eT : ag < (ab.length : Int)
         ·rw [if_pos eT] at H
          have cZ : decide (ag < (ab.length : Int)) = true := decide_eq_true eT
          clear eT
          by_cases c25 : 0 ≤ ag
          ·rw [if_pos c25] at H
           have fb : decide (0 ≤ ag) = true := decide_eq_true c25
           clear c25; have es := zK H; clear H
           have di : wr.cell? ⟨ac, 0, none⟩ = some (.slice aq ae.length an) := (blk_cell aa.out 0).trans rfl
           have dj : wr.cell? ⟨ac, 1, none⟩ = some (.int .i64 a0_1) := (blk_cell aa.out 1).trans rfl
           have dk : wr.cell? ⟨ac, 2, none⟩ = some (.slice aw ab.length ao) := (blk_cell aa.out 2).trans rfl
           have dl : wr.cell? ⟨ac, 3, none⟩ = some (.slice az ad.length ap) := (blk_cell aa.out 3).trans rfl
           have dm := blk_frozen aa.out 0; have dn := blk_frozen aa.out 1; have dp := blk_frozen aa.out 2; have dq := blk_frozen aa.out 3
           have dr : 0 ≤ (ag : Int) := zd
           have ds : ag < (ab.length : Int) := zd
           obtain ⟨aM, aT, aU, e267, bk, bl, bm, cH, cI⟩ := at_T69 cU.out ag dr ds
           cases e267
           replace bk := (HB.out.cell (World.block_lt_of_cell? w _ bk)).trans bk
           replace bl := (HB.out.cell (World.block_lt_of_cell? w _ bl)).trans bl
           replace bm := (HB.out.cell (World.block_lt_of_cell? w _ bm)).trans bm
           have bB := zK cI; have HC267_2 := zK cH; clear cI cH; replace dr := eq_true dr; replace ds := eq_true ds
           go_upto_region 14 with (first | ((with_reducible refine gate_dst (N := 7) rfl ?_); (try (refine gate_guard (by rfl) ?_; dsimp only)); refine zX 7 #[.int .i64 0, .int .i64 0, .slice none 0 0] 69 ?_; intro am hg bz hbox hb; have aH := zK (Kd.R_below (zR ay) hb); have aI := zK (blk_below (g := ac) (o := .cells #[.slice aq ae.length an, .int .i64 a0_1, .slice (some aM) ab.length ao, .slice az ad.length ap] 28 (0, 0)) (zk aa) hb); have aJ := zK (below_step (zb HB) hb); have aY := zK (hbox); have bf := zK ((by rw [hg]; exact (below_size (zb HB)) : w.heap.size ≤ am)); have bg := zK ((by rw [hg]; exact (below_size (zb HB)) : w.heap.size ≤ am)); have bh := zK ((by rw [hg]; exact Nat.ne_of_lt (blk_lt (g := ac) (o := .cells #[.slice aq ae.length an, .int .i64 a0_1, .slice (some aM) ab.length ao, .slice az ad.length ap] 28 (0, 0)) (zk aa)) : ac ≠ am)); have d5 := zK ((by rw [hg]; exact Nat.ne_of_gt (blk_lt (g := ac) (o := .cells #[.slice aq ae.length an, .int .i64 a0_1, .slice (some aM) ab.length ao, .slice az ad.length ap] 28 (0, 0)) (zk aa)) : am ≠ ac)); clear ay; clear aa; clear HB; have ay := aH; have aa := aI; have HB := aJ; have ai := aY; have d6 := bf; have aN := bg; have ar := bh; have aD := d5; clear aH aI aJ aY bf bg bh d5; clear hb hbox hg; have d7 := aD.out; have d8 := ar.out; have bC : bz.cell? ⟨am, 0, none⟩ = some (.int .i64 0) := (blk_cell ai.out 0).trans rfl; have bD : bz.cell? ⟨am, 1, none⟩ = some (.int .i64 0) := (blk_cell ai.out 1).trans rfl; have bE : bz.cell? ⟨am, 2, none⟩ = some (.slice none 0 0) := (blk_cell ai.out 2).trans rfl; have bF := blk_frozen ai.out 0; have bG := blk_frozen ai.out 1; have bH := blk_frozen ai.out 2))
           repeat (go_quiet (first | ((with_reducible refine gate_dst (N := 7) rfl ?_); (try (refine gate_guard (by rfl) ?_; dsimp only)); refine zX 7 #[.int .i64 0, .int .i64 0, .slice none 0 0] 69 ?_; intro am hg bz hbox hb; have aH := zK (Kd.R_below (zR ay) hb); have aI := zK (blk_below (g := ac) (o := .cells #[.slice aq ae.length an, .int .i64 a0_1, .slice (some aM) ab.length ao, .slice az ad.length ap] 28 (0, 0)) (zk aa) hb); have aJ := zK (below_step (zb HB) hb); have aY := zK (hbox); have bf := zK ((by rw [hg]; exact (below_size (zb HB)) : w.heap.size ≤ am)); have bg := zK ((by rw [hg]; exact (below_size (zb HB)) : w.heap.size ≤ am)); have bh := zK ((by rw [hg]; exact Nat.ne_of_lt (blk_lt (g := ac) (o := .cells #[.slice aq ae.length an, .int .i64 a0_1, .slice (some aM) ab.length ao, .slice az ad.length ap] 28 (0, 0)) (zk aa)) : ac ≠ am)); have d5 := zK ((by rw [hg]; exact Nat.ne_of_gt (blk_lt (g := ac) (o := .cells #[.slice aq ae.length an, .int .i64 a0_1, .slice (some aM) ab.length ao, .slice az ad.length ap] 28 (0, 0)) (zk aa)) : am ≠ ac)); clear ay; clear aa; clear HB; have ay := aH; have aa := aI; have HB := aJ; have ai := aY; have d6 := bf; have aN := bg; have ar := bh; have aD := d5; clear aH aI aJ aY bf bg bh d5; clear hb hbox hg; have d7 := aD.out; have d8 := ar.out; have bC : bz.cell? ⟨am, 0, none⟩ = some (.int .i64 0) := (blk_cell ai.out 0).trans rfl; have bD : bz.cell? ⟨am, 1, none⟩ = some (.int .i64 0) := (blk_cell ai.out 1).trans rfl; have bE : bz.cell? ⟨am, 2, none⟩ = some (.slice none 0 0) := (blk_cell ai.out 2).trans rfl; have bF := blk_frozen ai.out 0; have bG := blk_frozen ai.out 1; have bH := blk_frozen ai.out 2)); go_upto_region 14 with (first | ((with_reducible refine gate_dst (N := 7) rfl ?_); (try (refine gate_guard (by rfl) ?_; dsimp only)); refine zX 7 #[.int .i64 0, .int .i64 0, .slice none 0 0] 69 ?_; intro am hg bz hbox hb; have aH := zK (Kd.R_below (zR ay) hb); have aI := zK (blk_below (g := ac) (o := .cells #[.slice aq ae.length an, .int .i64 a0_1, .slice (some aM) ab.length ao, .slice az ad.length ap] 28 (0, 0)) (zk aa) hb); have aJ := zK (below_step (zb HB) hb); have aY := zK (hbox); have bf := zK ((by rw [hg]; exact (below_size (zb HB)) : w.heap.size ≤ am)); have bg := zK ((by rw [hg]; exact (below_size (zb HB)) : w.heap.size ≤ am)); have bh := zK ((by rw [hg]; exact Nat.ne_of_lt (blk_lt (g := ac) (o := .cells #[.slice aq ae.length an, .int .i64 a0_1, .slice (some aM) ab.length ao, .slice az ad.length ap] 28 (0, 0)) (zk aa)) : ac ≠ am)); have d5 := zK ((by rw [hg]; exact Nat.ne_of_gt (blk_lt (g := ac) (o := .cells #[.slice aq ae.length an, .int .i64 a0_1, .slice (some aM) ab.length ao, .slice az ad.length ap] 28 (0, 0)) (zk aa)) : am ≠ ac)); clear ay; clear aa; clear HB; have ay := aH; have aa := aI; have HB := aJ; have ai := aY; have d6 := bf; have aN := bg; have ar := bh; have aD := d5; clear aH aI aJ aY bf bg bh d5; clear hb hbox hg; have d7 := aD.out; have d8 := ar.out; have bC : bz.cell? ⟨am, 0, none⟩ = some (.int .i64 0) := (blk_cell ai.out 0).trans rfl; have bD : bz.cell? ⟨am, 1, none⟩ = some (.int .i64 0) := (blk_cell ai.out 1).trans rfl; have bE : bz.cell? ⟨am, 2, none⟩ = some (.slice none 0 0) := (blk_cell ai.out 2).trans rfl; have bF := blk_frozen ai.out 0; have bG := blk_frozen ai.out 1; have bH := blk_frozen ai.out 2)))
           (try simp only [Act.put, zp, zq, zr])
           go_cut [91] (fun v91 wc => ∃ (kq : Nat) (bI : Bool), v91 = .bool bI ∧ Aside0 (spec_LoopOk.j3 kq (ae.length : Int) ax ag bI ae a0_1 ab ad ((rd_T69 ab ag).f0) ((rd_T69 ab ag).f1) ((rd_T69 ab ag).f2) = some r) ∧ Aside0 (kq ≤ k3) ∧ Aside0 (Kd.R (Kd.int .i64) 3 wc w.heap.size (fun _ => True) u4 ax) ∧ Aside0 (wc.heap[ac]? = some (.cells #[(.slice aq ae.length an), .int .i64 a0_1, (.slice (some aM) ab.length ao), (.slice az ad.length ap)] 28 (0, 0))) ∧ Aside0 (wc.heap[am]? = some (.cells #[.int .i64 ((rd_T69 ab ag).f0), .int .i64 ((rd_T69 ab ag).f1), (.slice aT ((rd_T69 ab ag).f2).length aU)] 69 (0, 0))) ∧ Aside0 (Below w.heap.size w wc))
           case first =>
            have H := es.out; clear es; replace H := Option.bind_eq_some_iff.mp H
            obtain ⟨fc, fd, H⟩ := H
            replace H : (if fc = true then ((spec_l01In.f ((rd_T69 ab ag).f1) 0 40).bind fun cS => (if cS = true then (spec_LoopOk.j3 k3 (ae.length : Int) ax ag (decide ((((rd_T69 ab ag).f2).length : Int) > ((rd_T69 ab ag).f1))) ae a0_1 ab ad ((rd_T69 ab ag).f0) ((rd_T69 ab ag).f1) ((rd_T69 ab ag).f2)) else (spec_LoopOk.j3 k3 (ae.length : Int) ax ag true ae a0_1 ab ad ((rd_T69 ab ag).f0) ((rd_T69 ab ag).f1) ((rd_T69 ab ag).f2)))) else (spec_LoopOk.j3 k3 (ae.length : Int) ax ag true ae a0_1 ab ad ((rd_T69 ab ag).f0) ((rd_T69 ab ag).f1) ((rd_T69 ab ag).f2))) = some r := H
            have dt := zK fd; clear fd
            by_cases c32 : fc = true
            ·subst c32
             have H1 : ((spec_l01In.f ((rd_T69 ab ag).f1) 0 40).bind fun cS => (if cS = true then (spec_LoopOk.j3 k3 (ae.length : Int) ax ag (decide ((((rd_T69 ab ag).f2).length : Int) > ((rd_T69 ab ag).f1))) ae a0_1 ab ad ((rd_T69 ab ag).f0) ((rd_T69 ab ag).f1) ((rd_T69 ab ag).f2)) else (spec_LoopOk.j3 k3 (ae.length : Int) ax ag true ae a0_1 ab ad ((rd_T69 ab ag).f0) ((rd_T69 ab ag).f1) ((rd_T69 ab ag).f2)))) = some r := by rw [if_pos rfl] at H; exact H
             clear H; have H := H1; clear H1; replace H := Option.bind_eq_some_iff.mp H
             obtain ⟨cS, fe, H⟩ := H
             replace H : (if cS = true then (spec_LoopOk.j3 k3 (ae.length : Int) ax ag (decide ((((rd_T69 ab ag).f2).length : Int) > ((rd_T69 ab ag).f1))) ae a0_1 ab ad ((rd_T69 ab ag).f0) ((rd_T69 ab ag).f1) ((rd_T69 ab ag).f2)) else (spec_LoopOk.j3 k3 (ae.length : Int) ax ag true ae a0_1 ab ad ((rd_T69 ab ag).f0) ((rd_T69 ab ag).f1) ((rd_T69 ab ag).f2))) = some r := H
             have eU := zK fe; clear fe
             by_cases c34 : cS = true
             ·subst c34
              have H1 : (spec_LoopOk.j3 k3 (ae.length : Int) ax ag (decide ((((rd_T69 ab ag).f2).length : Int) > ((rd_T69 ab ag).f1))) ae a0_1 ab ad ((rd_T69 ab ag).f0) ((rd_T69 ab ag).f1) ((rd_T69 ab ag).f2)) = some r := by rw [if_pos rfl] at H; exact H
              clear H; have H := H1; clear H1; have H' := zK H; clear H; have hnb35 := aD.out; have hnc35 := ar.out
              have hcz36_0 : bz.cell? ⟨am, 0, none⟩ = some (.int .i64 0) := (blk_cell ai.out 0).trans rfl
              have hcz36_1 : bz.cell? ⟨am, 1, none⟩ = some (.int .i64 0) := (blk_cell ai.out 1).trans rfl
              have hcz36_2 : bz.cell? ⟨am, 2, none⟩ = some (.slice none 0 0) := (blk_cell ai.out 2).trans rfl
              have hfz36_0 := blk_frozen ai.out 0; have hfz36_1 := blk_frozen ai.out 1; have hfz36_2 := blk_frozen ai.out 2
              go_wp2_with (first | (go_at_call 62; (with_reducible refine (spec_l01In.calls ((rd_T69 ab ag).f0) 0 (wrap64 ((ae.length : Int) - 1)) true _ dt.out).mono ?_); rintro e w' ⟨rfl, ⟨nd, rfl⟩⟩; (try first | exact ⟨rfl, _, World.drewN_drewN _ _ _⟩ | exact ⟨rfl, _, Eq.trans (World.drewN_drewN _ _ _) (congrArg (World.drewN _) (Nat.add_assoc _ _ _))⟩)) | (go_at_call 62; (with_reducible refine (spec_l01In.calls ((rd_T69 ab ag).f1) 0 40 true _ eU.out).mono ?_); rintro e w' ⟨rfl, ⟨nd, rfl⟩⟩; (try first | exact ⟨rfl, _, World.drewN_drewN _ _ _⟩ | exact ⟨rfl, _, Eq.trans (World.drewN_drewN _ _ _) (congrArg (World.drewN _) (Nat.add_assoc _ _ _))⟩)))
              repeat (go_quiet (first | (go_at_call 62; (with_reducible refine (spec_l01In.calls ((rd_T69 ab ag).f0) 0 (wrap64 ((ae.length : Int) - 1)) true _ dt.out).mono ?_); rintro e w' ⟨rfl, ⟨nd, rfl⟩⟩; (try first | exact ⟨rfl, _, World.drewN_drewN _ _ _⟩ | exact ⟨rfl, _, Eq.trans (World.drewN_drewN _ _ _) (congrArg (World.drewN _) (Nat.add_assoc _ _ _))⟩)) | (go_at_call 62; (with_reducible refine (spec_l01In.calls ((rd_T69 ab ag).f1) 0 40 true _ eU.out).mono ?_); rintro e w' ⟨rfl, ⟨nd, rfl⟩⟩; (try first | exact ⟨rfl, _, World.drewN_drewN _ _ _⟩ | exact ⟨rfl, _, Eq.trans (World.drewN_drewN _ _ _) (congrArg (World.drewN _) (Nat.add_assoc _ _ _))⟩))); try go_wp2_with (first | (go_at_call 62; (with_reducible refine (spec_l01In.calls ((rd_T69 ab ag).f0) 0 (wrap64 ((ae.length : Int) - 1)) true _ dt.out).mono ?_); rintro e w' ⟨rfl, ⟨nd, rfl⟩⟩; (try first | exact ⟨rfl, _, World.drewN_drewN _ _ _⟩ | exact ⟨rfl, _, Eq.trans (World.drewN_drewN _ _ _) (congrArg (World.drewN _) (Nat.add_assoc _ _ _))⟩)) | (go_at_call 62; (with_reducible refine (spec_l01In.calls ((rd_T69 ab ag).f1) 0 40 true _ eU.out).mono ?_); rintro e w' ⟨rfl, ⟨nd, rfl⟩⟩; (try first | exact ⟨rfl, _, World.drewN_drewN _ _ _⟩ | exact ⟨rfl, _, Eq.trans (World.drewN_drewN _ _ _) (congrArg (World.drewN _) (Nat.add_assoc _ _ _))⟩))))
              go_meet
              case rel => exact ⟨_, (decide ((((rd_T69 ab ag).f2).length : Int) > ((rd_T69 ab ag).f1))), zf, H', ⟨by have := bv.out; have := bw.out; have := bP.out; first | omega | exact Nat.le_refl _⟩, ⟨by (with_reducible repeat (first | apply Kd.R_alloc | apply Kd.R_drewN | apply Kd.R_drew)); exact Kd.R_mono (Kd.R_far (p := ⟨am, 2, none⟩) (Kd.R_far (p := ⟨am, 1, none⟩) (Kd.R_far (p := ⟨am, 0, none⟩) (Kd.R_types ay.out ai.out (by decide)) (fun _ hk => hk.2) (.int .i64 ((rd_T69 ab ag).f0))) (fun _ hk => hk.2) (.int .i64 ((rd_T69 ab ag).f1))) (fun _ hk => hk.2) (.slice aT ((rd_T69 ab ag).f2).length aU)) (fun _ hk => trivial)⟩, ⟨zh aa ar⟩, ⟨by (with_reducible repeat (first | refine zN ?_ _ | refine zD ?_ | refine zA ?_ _)); refine blk_put (cs := #[.int .i64 ((rd_T69 ab ag).f0), .int .i64 ((rd_T69 ab ag).f1), .slice none 0 0]) ?_ 2 _ rfl; (with_reducible repeat (first | refine zN ?_ _ | refine zD ?_ | refine zA ?_ _)); refine blk_put (cs := #[.int .i64 ((rd_T69 ab ag).f0), .int .i64 0, .slice none 0 0]) ?_ 1 _ rfl; (with_reducible repeat (first | refine zN ?_ _ | refine zD ?_ | refine zA ?_ _)); refine blk_put (cs := #[.int .i64 0, .int .i64 0, .slice none 0 0]) ?_ 0 _ rfl; (with_reducible repeat (first | refine zN ?_ _ | refine zD ?_ | refine zA ?_ _)); exact ai.out⟩, ⟨zb HB⟩⟩
             ·replace c34 := Bool.eq_false_iff.mpr c34
              subst c34
              have H1 : (spec_LoopOk.j3 k3 (ae.length : Int) ax ag true ae a0_1 ab ad ((rd_T69 ab ag).f0) ((rd_T69 ab ag).f1) ((rd_T69 ab ag).f2)) = some r := by rw [if_neg (show ¬ (false = true) by decide)] at H; exact H
              clear H; have H := H1; clear H1; have H' := zK H; clear H; have hnb37 := aD.out; have hnc37 := ar.out
              have hcz38_0 : bz.cell? ⟨am, 0, none⟩ = some (.int .i64 0) := (blk_cell ai.out 0).trans rfl
              have hcz38_1 : bz.cell? ⟨am, 1, none⟩ = some (.int .i64 0) := (blk_cell ai.out 1).trans rfl
              have hcz38_2 : bz.cell? ⟨am, 2, none⟩ = some (.slice none 0 0) := (blk_cell ai.out 2).trans rfl
              have hfz38_0 := blk_frozen ai.out 0; have hfz38_1 := blk_frozen ai.out 1; have hfz38_2 := blk_frozen ai.out 2
              go_wp2_with (first | (go_at_call 62; (with_reducible refine (spec_l01In.calls ((rd_T69 ab ag).f0) 0 (wrap64 ((ae.length : Int) - 1)) true _ dt.out).mono ?_); rintro e w' ⟨rfl, ⟨nd, rfl⟩⟩; (try first | exact ⟨rfl, _, World.drewN_drewN _ _ _⟩ | exact ⟨rfl, _, Eq.trans (World.drewN_drewN _ _ _) (congrArg (World.drewN _) (Nat.add_assoc _ _ _))⟩)) | (go_at_call 62; (with_reducible refine (spec_l01In.calls ((rd_T69 ab ag).f1) 0 40 false _ eU.out).mono ?_); rintro e w' ⟨rfl, ⟨nd, rfl⟩⟩; (try first | exact ⟨rfl, _, World.drewN_drewN _ _ _⟩ | exact ⟨rfl, _, Eq.trans (World.drewN_drewN _ _ _) (congrArg (World.drewN _) (Nat.add_assoc _ _ _))⟩)))
              repeat (go_quiet (first | (go_at_call 62; (with_reducible refine (spec_l01In.calls ((rd_T69 ab ag).f0) 0 (wrap64 ((ae.length : Int) - 1)) true _ dt.out).mono ?_); rintro e w' ⟨rfl, ⟨nd, rfl⟩⟩; (try first | exact ⟨rfl, _, World.drewN_drewN _ _ _⟩ | exact ⟨rfl, _, Eq.trans (World.drewN_drewN _ _ _) (congrArg (World.drewN _) (Nat.add_assoc _ _ _))⟩)) | (go_at_call 62; (with_reducible refine (spec_l01In.calls ((rd_T69 ab ag).f1) 0 40 false _ eU.out).mono ?_); rintro e w' ⟨rfl, ⟨nd, rfl⟩⟩; (try first | exact ⟨rfl, _, World.drewN_drewN _ _ _⟩ | exact ⟨rfl, _, Eq.trans (World.drewN_drewN _ _ _) (congrArg (World.drewN _) (Nat.add_assoc _ _ _))⟩))); try go_wp2_with (first | (go_at_call 62; (with_reducible refine (spec_l01In.calls ((rd_T69 ab ag).f0) 0 (wrap64 ((ae.length : Int) - 1)) true _ dt.out).mono ?_); rintro e w' ⟨rfl, ⟨nd, rfl⟩⟩; (try first | exact ⟨rfl, _, World.drewN_drewN _ _ _⟩ | exact ⟨rfl, _, Eq.trans (World.drewN_drewN _ _ _) (congrArg (World.drewN _) (Nat.add_assoc _ _ _))⟩)) | (go_at_call 62; (with_reducible refine (spec_l01In.calls ((rd_T69 ab ag).f1) 0 40 false _ eU.out).mono ?_); rintro e w' ⟨rfl, ⟨nd, rfl⟩⟩; (try first | exact ⟨rfl, _, World.drewN_drewN _ _ _⟩ | exact ⟨rfl, _, Eq.trans (World.drewN_drewN _ _ _) (congrArg (World.drewN _) (Nat.add_assoc _ _ _))⟩))))
              go_meet
              case rel => exact ⟨_, (true), zf, H', ⟨by have := bv.out; have := bw.out; have := bP.out; first | omega | exact Nat.le_refl _⟩, ⟨by (with_reducible repeat (first | apply Kd.R_alloc | apply Kd.R_drewN | apply Kd.R_drew)); exact Kd.R_mono (Kd.R_far (p := ⟨am, 2, none⟩) (Kd.R_far (p := ⟨am, 1, none⟩) (Kd.R_far (p := ⟨am, 0, none⟩) (Kd.R_types ay.out ai.out (by decide)) (fun _ hk => hk.2) (.int .i64 ((rd_T69 ab ag).f0))) (fun _ hk => hk.2) (.int .i64 ((rd_T69 ab ag).f1))) (fun _ hk => hk.2) (.slice aT ((rd_T69 ab ag).f2).length aU)) (fun _ hk => trivial)⟩, ⟨zh aa ar⟩, ⟨by (with_reducible repeat (first | refine zN ?_ _ | refine zD ?_ | refine zA ?_ _)); refine blk_put (cs := #[.int .i64 ((rd_T69 ab ag).f0), .int .i64 ((rd_T69 ab ag).f1), .slice none 0 0]) ?_ 2 _ rfl; (with_reducible repeat (first | refine zN ?_ _ | refine zD ?_ | refine zA ?_ _)); refine blk_put (cs := #[.int .i64 ((rd_T69 ab ag).f0), .int .i64 0, .slice none 0 0]) ?_ 1 _ rfl; (with_reducible repeat (first | refine zN ?_ _ | refine zD ?_ | refine zA ?_ _)); refine blk_put (cs := #[.int .i64 0, .int .i64 0, .slice none 0 0]) ?_ 0 _ rfl; (with_reducible repeat (first | refine zN ?_ _ | refine zD ?_ | refine zA ?_ _)); exact ai.out⟩, ⟨zb HB⟩⟩
            ·replace c32 := Bool.eq_false_iff.mpr c32
             subst c32
             have H1 : (spec_LoopOk.j3 k3 (ae.length : Int) ax ag true ae a0_1 ab ad ((rd_T69 ab ag).f0) ((rd_T69 ab ag).f1) ((rd_T69 ab ag).f2)) = some r := by rw [if_neg (show ¬ (false = true) by decide)] at H; exact H
             clear H; have H := H1; clear H1; have H' := zK H; clear H; have hnb39 := aD.out; have hnc39 := ar.out
             have hcz40_0 : bz.cell? ⟨am, 0, none⟩ = some (.int .i64 0) := (blk_cell ai.out 0).trans rfl
             have hcz40_1 : bz.cell? ⟨am, 1, none⟩ = some (.int .i64 0) := (blk_cell ai.out 1).trans rfl
             have hcz40_2 : bz.cell? ⟨am, 2, none⟩ = some (.slice none 0 0) := (blk_cell ai.out 2).trans rfl
             have hfz40_0 := blk_frozen ai.out 0; have hfz40_1 := blk_frozen ai.out 1; have hfz40_2 := blk_frozen ai.out 2
             go_wp2_with (first | (go_at_call 62; (with_reducible refine (spec_l01In.calls ((rd_T69 ab ag).f0) 0 (wrap64 ((ae.length : Int) - 1)) false _ dt.out).mono ?_); rintro e w' ⟨rfl, ⟨nd, rfl⟩⟩; (try first | exact ⟨rfl, _, World.drewN_drewN _ _ _⟩ | exact ⟨rfl, _, Eq.trans (World.drewN_drewN _ _ _) (congrArg (World.drewN _) (Nat.add_assoc _ _ _))⟩)))
             repeat (go_quiet (first | (go_at_call 62; (with_reducible refine (spec_l01In.calls ((rd_T69 ab ag).f0) 0 (wrap64 ((ae.length : Int) - 1)) false _ dt.out).mono ?_); rintro e w' ⟨rfl, ⟨nd, rfl⟩⟩; (try first | exact ⟨rfl, _, World.drewN_drewN _ _ _⟩ | exact ⟨rfl, _, Eq.trans (World.drewN_drewN _ _ _) (congrArg (World.drewN _) (Nat.add_assoc _ _ _))⟩))); try go_wp2_with (first | (go_at_call 62; (with_reducible refine (spec_l01In.calls ((rd_T69 ab ag).f0) 0 (wrap64 ((ae.length : Int) - 1)) false _ dt.out).mono ?_); rintro e w' ⟨rfl, ⟨nd, rfl⟩⟩; (try first | exact ⟨rfl, _, World.drewN_drewN _ _ _⟩ | exact ⟨rfl, _, Eq.trans (World.drewN_drewN _ _ _) (congrArg (World.drewN _) (Nat.add_assoc _ _ _))⟩))))
             go_meet
             case rel => exact ⟨_, (true), zf, H', ⟨by have := bv.out; have := bw.out; have := bP.out; first | omega | exact Nat.le_refl _⟩, ⟨by (with_reducible repeat (first | apply Kd.R_alloc | apply Kd.R_drewN | apply Kd.R_drew)); exact Kd.R_mono (Kd.R_far (p := ⟨am, 2, none⟩) (Kd.R_far (p := ⟨am, 1, none⟩) (Kd.R_far (p := ⟨am, 0, none⟩) (Kd.R_types ay.out ai.out (by decide)) (fun _ hk => hk.2) (.int .i64 ((rd_T69 ab ag).f0))) (fun _ hk => hk.2) (.int .i64 ((rd_T69 ab ag).f1))) (fun _ hk => hk.2) (.slice aT ((rd_T69 ab ag).f2).length aU)) (fun _ hk => trivial)⟩, ⟨zh aa ar⟩, ⟨by (with_reducible repeat (first | refine zN ?_ _ | refine zD ?_ | refine zA ?_ _)); refine blk_put (cs := #[.int .i64 ((rd_T69 ab ag).f0), .int .i64 ((rd_T69 ab ag).f1), .slice none 0 0]) ?_ 2 _ rfl; (with_reducible repeat (first | refine zN ?_ _ | refine zD ?_ | refine zA ?_ _)); refine blk_put (cs := #[.int .i64 ((rd_T69 ab ag).f0), .int .i64 0, .slice none 0 0]) ?_ 1 _ rfl; (with_reducible repeat (first | refine zN ?_ _ | refine zD ?_ | refine zA ?_ _)); refine blk_put (cs := #[.int .i64 0, .int .i64 0, .slice none 0 0]) ?_ 0 _ rfl; (with_reducible repeat (first | refine zN ?_ _ | refine zD ?_ | refine zA ?_ _)); exact ai.out⟩, ⟨zb HB⟩⟩
           case rest =>
            clear es cZ fb di dj dk dl bC bD bE dm dn dp dq bF bG bH bk bl bm dr ds
            obtain ⟨kq, bI, rfl, HA, du, ay, aa, ai, HB⟩ := hcut
            cases kq with
            | zero => exact absurd HA.out (by simp [spec_LoopOk.j3])
            | succ kj25 =>
             have H := HA.out; clear HA
             simp only [spec_LoopOk.j3] at H
             by_cases c41 : bI = true
             ·subst c41
              have H1 : (some false) = some r := by rw [if_pos rfl] at H; exact H
              clear H; have H := H1; clear H1; obtain rfl := Option.some.inj H
              go_wp2
              repeat (go_quiet (fail); try go_wp2)
              go_ret
              exact ⟨ze, zb HB⟩
             ·replace c41 := Bool.eq_false_iff.mpr c41
              subst c41
              have H1 : (spec_LoopOk.l2 kj25 (ae.length : Int) ax ag 0 ae a0_1 ab ad ((rd_T69 ab ag).f0) ((rd_T69 ab ag).f1) ((rd_T69 ab ag).f2)) = some r := by rw [if_neg (show ¬ (false = true) by decide)] at H; exact H
              clear H; have H := H1; clear H1; have H' := zK H; clear H
              go_wp2
              repeat (go_quiet (fail); try go_wp2)
              go_loopg [8] kj25 (fun kq v8 w' => ∃ (aX : Int), v8 = .int .i64 aX ∧ Aside0 (spec_LoopOk.l2 kq (ae.length : Int) ax ag aX ae a0_1 ab ad ((rd_T69 ab ag).f0) ((rd_T69 ab ag).f1) ((rd_T69 ab ag).f2) = some r) ∧ Aside0 (kq ≤ kj25) ∧ Aside0 (Kd.R (Kd.int .i64) 3 w' w.heap.size (fun _ => True) u4 ax) ∧ Aside0 (w'.heap[ac]? = some (.cells #[(.slice aq ae.length an), .int .i64 a0_1, (.slice (some aM) ab.length ao), (.slice az ad.length ap)] 28 (0, 0))) ∧ Aside0 (w'.heap[am]? = some (.cells #[.int .i64 ((rd_T69 ab ag).f0), .int .i64 ((rd_T69 ab ag).f1), (.slice aT ((rd_T69 ab ag).f2).length aU)] 69 (0, 0))) ∧ Aside0 (Below w.heap.size w w'))
              case atStart => exact ⟨(0), zf, H', ⟨Nat.le_refl _⟩, ⟨zR ay⟩, ⟨zk aa⟩, ⟨zk ai⟩, ⟨zb HB⟩⟩
              case round =>
               clear H'
               obtain ⟨aX, rfl, HA, cJ, ay, aa, ai, HB⟩ := hrel
               cases gk with
               | zero => exact absurd HA.out (by simp [spec_LoopOk.l2])
               | succ k5 =>
                have H := HA.out; clear HA
                simp only [spec_LoopOk.l2] at H
                by_cases eV : aX < ag
                ·rw [if_pos eV] at H
                 have ff : decide (aX < ag) = true := decide_eq_true eV
                 clear eV
                 by_cases c43 : 0 ≤ aX
                 ·rw [if_pos c43] at H
                  have c43b0 : decide (0 ≤ aX) = true := decide_eq_true c43
                  clear c43
                  by_cases c44 : aX < (ab.length : Int)
                  ·rw [if_pos c44] at H
                   have c44b0 : decide (aX < (ab.length : Int)) = true := decide_eq_true c44
                   clear c44
                   by_cases et : ((rd_T69 ab aX).f0) = ((rd_T69 ab ag).f0)
                   ·rw [if_pos et] at H
                    have fg : (((rd_T69 ab aX).f0) == ((rd_T69 ab ag).f0)) = true := beq_iff_eq.mpr et
                    have fh : (((rd_T69 ab aX).f0) != ((rd_T69 ab ag).f0)) = false := bne_eq_false_iff_eq.mpr et
                    clear et; obtain rfl := Option.some.inj H; have hnb46 := ar.out; have hnc46 := aD.out
                    have hcz47_0 : wr.cell? ⟨ac, 0, none⟩ = some (.slice aq ae.length an) := (blk_cell aa.out 0).trans rfl
                    have hcz47_1 : wr.cell? ⟨ac, 1, none⟩ = some (.int .i64 a0_1) := (blk_cell aa.out 1).trans rfl
                    have hcz47_2 : wr.cell? ⟨ac, 2, none⟩ = some (.slice (some aM) ab.length ao) := (blk_cell aa.out 2).trans rfl
                    have hcz47_3 : wr.cell? ⟨ac, 3, none⟩ = some (.slice az ad.length ap) := (blk_cell aa.out 3).trans rfl
                    have hfz47_0 := blk_frozen aa.out 0; have hfz47_1 := blk_frozen aa.out 1; have hfz47_2 := blk_frozen aa.out 2; have hfz47_3 := blk_frozen aa.out 3
                    have ca : 0 ≤ (aX : Int) := zd
                    have cb : aX < (ab.length : Int) := zd
                    obtain ⟨c0, eu, ew, ex, a3, a4, a5, a9, ba⟩ := at_T69 cU.out aX ca cb
                    obtain rfl : aM = c0 := (by injection ex)
                    replace a3 := (HB.out.cell (World.block_lt_of_cell? w _ a3)).trans a3
                    replace a4 := (HB.out.cell (World.block_lt_of_cell? w _ a4)).trans a4
                    replace a5 := (HB.out.cell (World.block_lt_of_cell? w _ a5)).trans a5
                    have dv := zK ba; have dw := zK a9; clear ba a9; replace ca := eq_true ca; replace cb := eq_true cb
                    have hcz48_0 : wr.cell? ⟨am, 0, none⟩ = some (.int .i64 ((rd_T69 ab ag).f0)) := (blk_cell ai.out 0).trans rfl
                    have hcz48_1 : wr.cell? ⟨am, 1, none⟩ = some (.int .i64 ((rd_T69 ab ag).f1)) := (blk_cell ai.out 1).trans rfl
                    have hcz48_2 : wr.cell? ⟨am, 2, none⟩ = some (.slice aT ((rd_T69 ab ag).f2).length aU) := (blk_cell ai.out 2).trans rfl
                    have hfz48_0 := blk_frozen ai.out 0; have hfz48_1 := blk_frozen ai.out 1; have hfz48_2 := blk_frozen ai.out 2
                    go_wp2
                    repeat (go_quiet (fail); try go_wp2)
                    go_ret
                    exact ⟨ze, zb HB⟩
                   ·rw [if_neg et] at H
                    have fg : (((rd_T69 ab aX).f0) == ((rd_T69 ab ag).f0)) = false := beq_eq_false_iff_ne.mpr et
                    have fh : (((rd_T69 ab aX).f0) != ((rd_T69 ab ag).f0)) = true := bne_iff_ne.mpr et
                    have H' := zK H; clear H; have hnb49 := ar.out; have hnc49 := aD.out
                    have hcz50_0 : wr.cell? ⟨ac, 0, none⟩ = some (.slice aq ae.length an) := (blk_cell aa.out 0).trans rfl
                    have hcz50_1 : wr.cell? ⟨ac, 1, none⟩ = some (.int .i64 a0_1) := (blk_cell aa.out 1).trans rfl
                    have hcz50_2 : wr.cell? ⟨ac, 2, none⟩ = some (.slice (some aM) ab.length ao) := (blk_cell aa.out 2).trans rfl
                    have hcz50_3 : wr.cell? ⟨ac, 3, none⟩ = some (.slice az ad.length ap) := (blk_cell aa.out 3).trans rfl
                    have hfz50_0 := blk_frozen aa.out 0; have hfz50_1 := blk_frozen aa.out 1; have hfz50_2 := blk_frozen aa.out 2; have hfz50_3 := blk_frozen aa.out 3
                    have ca : 0 ≤ (aX : Int) := zd
                    have cb : aX < (ab.length : Int) := zd
                    obtain ⟨c0, eu, ew, ex, a3, a4, a5, a9, ba⟩ := at_T69 cU.out aX ca cb
                    obtain rfl : aM = c0 := (by injection ex)
                    replace a3 := (HB.out.cell (World.block_lt_of_cell? w _ a3)).trans a3
                    replace a4 := (HB.out.cell (World.block_lt_of_cell? w _ a4)).trans a4
                    replace a5 := (HB.out.cell (World.block_lt_of_cell? w _ a5)).trans a5
                    have dv := zK ba; have dw := zK a9; clear ba a9; replace ca := eq_true ca; replace cb := eq_true cb
                    have hcz51_0 : wr.cell? ⟨am, 0, none⟩ = some (.int .i64 ((rd_T69 ab ag).f0)) := (blk_cell ai.out 0).trans rfl
                    have hcz51_1 : wr.cell? ⟨am, 1, none⟩ = some (.int .i64 ((rd_T69 ab ag).f1)) := (blk_cell ai.out 1).trans rfl
                    have hcz51_2 : wr.cell? ⟨am, 2, none⟩ = some (.slice aT ((rd_T69 ab ag).f2).length aU) := (blk_cell ai.out 2).trans rfl
                    have hfz51_0 := blk_frozen ai.out 0; have hfz51_1 := blk_frozen ai.out 1; have hfz51_2 := blk_frozen ai.out 2
                    go_wp2
                    repeat (go_quiet (fail); try go_wp2)
                    go_roundg k5
                    case measure => have := bv.out; have := bw.out; have := bP.out; have := du.out; have := cJ.out; omega
                    case rel => exact ⟨(wrap64 (aX + 1)), zf, H', ⟨by have := bv.out; have := bw.out; have := bP.out; have := du.out; have := cJ.out; omega⟩, ⟨zR ay⟩, ⟨zk aa⟩, ⟨zk ai⟩, ⟨zb HB⟩⟩
                  ·rw [if_neg c44] at H
                   exact absurd H (by simp)
                 ·rw [if_neg c43] at H
                  exact absurd H (by simp)
                ·rw [if_neg eV] at H
                 have ff : decide (aX < ag) = false := decide_eq_false eV
                 clear eV
                 by_cases c52 : ax.length + ((rd_T69 ab ag).f2).length < 17592186044416
                 ·rw [if_pos c52] at H
                  have c1 := zK c52; clear c52
                  obtain ⟨fi, bU⟩ : ∃ y_ : List Int, y_ = (ax ++ ((rd_T69 ab ag).f2)) := ⟨_, rfl⟩
                  replace H : (spec_LoopOk.l1 k5 (ae.length : Int) fi (wrap64 (ag + 1)) ae a0_1 ab ad) = some r := by first | (rw [bU]; with_reducible exact H) | (have H2_ := (Option.bind_some _ _).symm.trans H; rw [bU]; with_reducible exact H2_) | (have H2_ := (Option.bind_some _ _).symm.trans H; with_reducible exact H2_) | with_reducible exact H | (rw [bU]; exact H) | exact H
                  have Ny271 := zK bU; clear bU; have H' := zK H; clear H; have hnb53 := aD.out; have hnc53 := ar.out
                  have hcz54_0 : wr.cell? ⟨am, 0, none⟩ = some (.int .i64 ((rd_T69 ab ag).f0)) := (blk_cell ai.out 0).trans rfl
                  have hcz54_1 : wr.cell? ⟨am, 1, none⟩ = some (.int .i64 ((rd_T69 ab ag).f1)) := (blk_cell ai.out 1).trans rfl
                  have hcz54_2 : wr.cell? ⟨am, 2, none⟩ = some (.slice aT ((rd_T69 ab ag).f2).length aU) := (blk_cell ai.out 2).trans rfl
                  have hfz54_0 := blk_frozen ai.out 0; have hfz54_1 := blk_frozen ai.out 1; have hfz54_2 := blk_frozen ai.out 2
                  go_wp2_with (first | ((with_reducible refine gate_builtin (b := .append) (xs := #[.tmp 106, .tmp 108]) rfl ?_); (try (refine gate_guard (by rfl) ?_; dsimp only)); at_builtin; refine Kd.R_append_rows (Kd.int .i64) (w0 := w) w.heap.size rfl (.tmp 106) (.tmp 108) 24 3 (.int .i64 0) 8 rfl Try.underlying24 info3 rfl (by decide) (by omega) u4 ax ((rd_T69 ab ag).f2) _ _ _ (fun _ => True) (fun _ => False) rfl rfl ?aO ?aR (fun _ _ h => h) (fun _ h => h.elim) ?aF ?aB ?aS ?aL ?_; (case aR => repeat (first | exact (Kd.C_below bB.out HB.out) | (with_reducible refine Kd.C_alloc ?_ _) | (with_reducible refine Kd.C_drewN ?_ _) | (with_reducible refine Kd.C_drew ?_))); (case aB => exact (zb HB)); (case aF => exact (fun _ _ => trivial)); (case aO => exact (zR ay)); (case aS => exact (below_size (zb HB))); (case aL => have := c1.out; omega); intro fj w55 ho hb hg hat; rw [← Ny271.out] at ho; have aH := zK (blk_grown (g := ac) (o := .cells #[.slice aq ae.length an, .int .i64 a0_1, .slice (some aM) ab.length ao, .slice az ad.length ap] 28 (0, 0)) (zk aa) hg (Kd.R_ne ay.out aa.out (by decide))); have aI := zK (blk_grown (g := am) (o := .cells #[.int .i64 ((rd_T69 ab ag).f0), .int .i64 ((rd_T69 ab ag).f1), .slice aT ((rd_T69 ab ag).f2).length aU] 69 (0, 0)) (zk ai) hg (Kd.R_ne ay.out ai.out (by decide))); have aJ := zK (hb); have aY := zK (ho); clear aa; clear ai; clear HB; clear ay; have aa := aH; have ai := aI; have HB := aJ; have da := aY; clear aH aI aJ aY; clear ho hb hg hat))
                  repeat (go_quiet (first | ((with_reducible refine gate_builtin (b := .append) (xs := #[.tmp 106, .tmp 108]) rfl ?_); (try (refine gate_guard (by rfl) ?_; dsimp only)); at_builtin; refine Kd.R_append_rows (Kd.int .i64) (w0 := w) w.heap.size rfl (.tmp 106) (.tmp 108) 24 3 (.int .i64 0) 8 rfl Try.underlying24 info3 rfl (by decide) (by omega) u4 ax ((rd_T69 ab ag).f2) _ _ _ (fun _ => True) (fun _ => False) rfl rfl ?aO ?aR (fun _ _ h => h) (fun _ h => h.elim) ?aF ?aB ?aS ?aL ?_; (case aR => repeat (first | exact (Kd.C_below bB.out HB.out) | (with_reducible refine Kd.C_alloc ?_ _) | (with_reducible refine Kd.C_drewN ?_ _) | (with_reducible refine Kd.C_drew ?_))); (case aB => exact (zb HB)); (case aF => exact (fun _ _ => trivial)); (case aO => exact (zR ay)); (case aS => exact (below_size (zb HB))); (case aL => have := c1.out; omega); intro fj w55 ho hb hg hat; rw [← Ny271.out] at ho; have aH := zK (blk_grown (g := ac) (o := .cells #[.slice aq ae.length an, .int .i64 a0_1, .slice (some aM) ab.length ao, .slice az ad.length ap] 28 (0, 0)) (zk aa) hg (Kd.R_ne ay.out aa.out (by decide))); have aI := zK (blk_grown (g := am) (o := .cells #[.int .i64 ((rd_T69 ab ag).f0), .int .i64 ((rd_T69 ab ag).f1), .slice aT ((rd_T69 ab ag).f2).length aU] 69 (0, 0)) (zk ai) hg (Kd.R_ne ay.out ai.out (by decide))); have aJ := zK (hb); have aY := zK (ho); clear aa; clear ai; clear HB; clear ay; have aa := aH; have ai := aI; have HB := aJ; have da := aY; clear aH aI aJ aY; clear ho hb hg hat)); try go_wp2_with (first | ((with_reducible refine gate_builtin (b := .append) (xs := #[.tmp 106, .tmp 108]) rfl ?_); (try (refine gate_guard (by rfl) ?_; dsimp only)); at_builtin; refine Kd.R_append_rows (Kd.int .i64) (w0 := w) w.heap.size rfl (.tmp 106) (.tmp 108) 24 3 (.int .i64 0) 8 rfl Try.underlying24 info3 rfl (by decide) (by omega) u4 ax ((rd_T69 ab ag).f2) _ _ _ (fun _ => True) (fun _ => False) rfl rfl ?aO ?aR (fun _ _ h => h) (fun _ h => h.elim) ?aF ?aB ?aS ?aL ?_; (case aR => repeat (first | exact (Kd.C_below bB.out HB.out) | (with_reducible refine Kd.C_alloc ?_ _) | (with_reducible refine Kd.C_drewN ?_ _) | (with_reducible refine Kd.C_drew ?_))); (case aB => exact (zb HB)); (case aF => exact (fun _ _ => trivial)); (case aO => exact (zR ay)); (case aS => exact (below_size (zb HB))); (case aL => have := c1.out; omega); intro fj w55 ho hb hg hat; rw [← Ny271.out] at ho; have aH := zK (blk_grown (g := ac) (o := .cells #[.slice aq ae.length an, .int .i64 a0_1, .slice (some aM) ab.length ao, .slice az ad.length ap] 28 (0, 0)) (zk aa) hg (Kd.R_ne ay.out aa.out (by decide))); have aI := zK (blk_grown (g := am) (o := .cells #[.int .i64 ((rd_T69 ab ag).f0), .int .i64 ((rd_T69 ab ag).f1), .slice aT ((rd_T69 ab ag).f2).length aU] 69 (0, 0)) (zk ai) hg (Kd.R_ne ay.out ai.out (by decide))); have aJ := zK (hb); have aY := zK (ho); clear aa; clear ai; clear HB; clear ay; have aa := aH; have ai := aI; have HB := aJ; have da := aY; clear aH aI aJ aY; clear ho hb hg hat)))
                  go_roundg k5
                  case measure => have := bv.out; have := bw.out; have := bP.out; have := du.out; have := cJ.out; omega
                  case rel => exact ⟨(fi), (wrap64 (ag + 1)), zf, H', ⟨by have := bv.out; have := bw.out; have := bP.out; have := du.out; have := cJ.out; omega⟩, ⟨zR da⟩, ⟨zk aa⟩, ⟨zb HB⟩⟩
                 ·rw [if_neg c52] at H
                  exact absurd H (by simp)
          ·rw [if_neg c25] at H
           exact absurd H (by simp)
         ·rw [if_neg eT] at H
          have cZ : decide (ag < (ab.length : Int)) = false := decide_eq_false eT
          clear eT; have H' := zK H; clear H
          have dx : wr.cell? ⟨ac, 0, none⟩ = some (.slice aq ae.length an) := (blk_cell aa.out 0).trans rfl
          have dy : wr.cell? ⟨ac, 1, none⟩ = some (.int .i64 a0_1) := (blk_cell aa.out 1).trans rfl
          have dz : wr.cell? ⟨ac, 2, none⟩ = some (.slice aw ab.length ao) := (blk_cell aa.out 2).trans rfl
          have dA : wr.cell? ⟨ac, 3, none⟩ = some (.slice az ad.length ap) := (blk_cell aa.out 3).trans rfl
          have dB := blk_frozen aa.out 0; have dC := blk_frozen aa.out 1; have dD := blk_frozen aa.out 2; have dE := blk_frozen aa.out 3
          go_wp2
          repeat (go_quiet (fail); try go_wp2)
          go_loopg [9] k3 (fun kq v9 w' => ∃ (aA : Int), v9 = .int .i64 aA ∧ Aside0 (spec_LoopOk.l3 kq ax aA ae a0_1 ab ad = some r) ∧ Aside0 (kq ≤ k3) ∧ Aside0 (Kd.R (Kd.int .i64) 3 w' w.heap.size (fun _ => True) u4 ax) ∧ Aside0 (w'.heap[ac]? = some (.cells #[(.slice aq ae.length an), .int .i64 a0_1, (.slice aw ab.length ao), (.slice az ad.length ap)] 28 (0, 0))) ∧ Aside0 (Below w.heap.size w w'))
          case atStart => exact ⟨(0), zf, H', ⟨Nat.le_refl _⟩, ⟨zR ay⟩, ⟨zk aa⟩, ⟨zb HB⟩⟩
          case round =>
           clear H' cZ dx dy dz dA dB dC dD dE
           obtain ⟨aA, rfl, HA, db, ay, aa, HB⟩ := hrel
           cases gk with
           | zero => exact absurd HA.out (by simp [spec_LoopOk.l3])
           | succ k4 =>
            have H := HA.out; clear HA
            simp only [spec_LoopOk.l3] at H
            by_cases eW : aA < (ax.length : Int)
            ·rw [if_pos eW] at H
             have d9 : decide (aA < (ax.length : Int)) = true := decide_eq_true eW
             clear eW
             by_cases c58 : 0 ≤ aA
             ·rw [if_pos c58] at H
              have c58b0 : decide (0 ≤ aA) = true := decide_eq_true c58
              clear c58
              by_cases eX : (rd ax aA) < 1
              ·rw [if_pos eX] at H
               have fk : decide ((rd ax aA) < 1) = true := decide_eq_true eX
               clear eX; obtain rfl := Option.some.inj H
               obtain ⟨Ao60, co60, eo60⟩ := Kd.R_slice ay.out
               subst eo60
               have bo : 0 ≤ (aA : Int) := zd
               have bp : aA < (ax.length : Int) := zd
               obtain ⟨bi, dc, cK⟩ := Kd.at_int (Kd.R_reads' ay.out).2.2 aA bo bp
               cases dc
               replace bo := eq_true bo; replace bp := eq_true bp
               go_wp2
               repeat (go_quiet (fail); try go_wp2)
               go_ret
               exact ⟨ze, zb HB⟩
              ·rw [if_neg eX] at H
               have fk : decide ((rd ax aA) < 1) = false := decide_eq_false eX
               clear eX
               have c61b0 := eq_true (zd : 0 ≤ aA)
               by_cases fl : aA ≤ (ax.length : Int)
               ·rw [if_pos fl] at H
                have c62b0 := eq_true fl
                have c62b1 : decide (aA ≤ (ax.length : Int)) = true := decide_eq_true fl
                clear fl
                obtain ⟨bq, bV⟩ : ∃ y_ : List Int, y_ = (ax.take (aA : Int).toNat) := ⟨_, rfl⟩
                replace H : ((spec_l03Has.f k4 bq (rd ax aA)).bind fun dF => (if dF = true then (some false) else (spec_LoopOk.l3 k4 ax (wrap64 (aA + 1)) ae a0_1 ab ad))) = some r := by first | (rw [bV]; with_reducible exact H) | (have H2_ := (Option.bind_some _ _).symm.trans H; rw [bV]; with_reducible exact H2_) | (have H2_ := (Option.bind_some _ _).symm.trans H; with_reducible exact H2_) | with_reducible exact H | (rw [bV]; exact H) | exact H
                have Ny276 := zK bV; clear bV; replace H := Option.bind_eq_some_iff.mp H
                obtain ⟨dF, fm, H⟩ := H
                replace H : (if dF = true then (some false) else (spec_LoopOk.l3 k4 ax (wrap64 (aA + 1)) ae a0_1 ab ad)) = some r := H
                have eY := zK fm; clear fm
                by_cases c64 : dF = true
                ·subst c64
                 have H1 : (some false) = some r := by rw [if_pos rfl] at H; exact H
                 clear H; have H := H1; clear H1; obtain rfl := Option.some.inj H
                 obtain ⟨Ao65, ey, eo65⟩ := Kd.R_slice ay.out
                 subst eo65
                 have bo : 0 ≤ (aA : Int) := zd
                 have bp : aA < (ax.length : Int) := zd
                 obtain ⟨bi, dc, cK⟩ := Kd.at_int (Kd.R_reads' ay.out).2.2 aA bo bp
                 cases dc
                 replace bo := eq_true bo; replace bp := eq_true bp
                 have q66 : (aA : Int) ≤ ((ax.length : Int) : Int) := zd
                 obtain ⟨i066, ea, _, fn, _⟩ := info_parts info3
                 have cL : ax.length ≤ ey := (Kd.R_reads' ay.out).2.1
                 have fo : Kd.C (Kd.int .i64) _ (some bi) ax.length ax := (Kd.R_reads' ay.out).2.2
                 have ez := cut_to (P := Try.prog) 24 3 .i64 Try.underlying24 ea (some bi) ax.length ey aA (zd) q66 cL
                 have eA := Kd.C_take (m := (aA : Int).toNat) fo (by omega)
                 have eB : bq.length = (aA : Int).toNat := (by rw [Ny276.out, List.length_take]; omega)
                 rw [← Ny276.out] at eA
                 rw [← eB] at ez
                 have a1 := zK eA
                 have br := zK (show bq.length ≤ ey from by omega)
                 clear eA fo cL ea fn; have KY66 := zK eB; clear eB
                 have KL66 := zK (show (aA : Int).toNat ≤ ax.length from by omega)
                 replace q66 := eq_true q66
                 have cc : 0 ≤ (aA : Int) := zd
                 have cd : aA < (ax.length : Int) := zd
                 obtain ⟨dd, eC, dG⟩ := Kd.at_int (Kd.R_reads' ay.out).2.2 aA cc cd
                 obtain rfl : bi = dd := (by injection eC)
                 replace cc := eq_true cc; replace cd := eq_true cd
                 go_wp2_with (first | (go_at_call 55; (with_reducible refine (spec_l03Has.calls k4 _ _ bq (rd ax aA) true _ ?side1 ?side2 eY.out).mono ?_); (case side1 => repeat (first | exact (by repeat (first | (with_reducible exact a1.out) | (with_reducible refine Kd.C_alloc ?_ _) | (with_reducible refine Kd.C_drewN ?_ _) | (with_reducible refine Kd.C_drew ?_) | exact a1.out)) | (with_reducible refine Kd.C_alloc ?_ _) | (with_reducible refine Kd.C_drewN ?_ _) | (with_reducible refine Kd.C_drew ?_))); (case side2 => exact br.out); rintro e w' ⟨rfl, ⟨nd, rfl⟩⟩; (try first | exact ⟨rfl, _, World.drewN_drewN _ _ _⟩ | exact ⟨rfl, _, Eq.trans (World.drewN_drewN _ _ _) (congrArg (World.drewN _) (Nat.add_assoc _ _ _))⟩)))
                 repeat (go_quiet (first | (go_at_call 55; (with_reducible refine (spec_l03Has.calls k4 _ _ bq (rd ax aA) true _ ?side1 ?side2 eY.out).mono ?_); (case side1 => repeat (first | exact (by repeat (first | (with_reducible exact a1.out) | (with_reducible refine Kd.C_alloc ?_ _) | (with_reducible refine Kd.C_drewN ?_ _) | (with_reducible refine Kd.C_drew ?_) | exact a1.out)) | (with_reducible refine Kd.C_alloc ?_ _) | (with_reducible refine Kd.C_drewN ?_ _) | (with_reducible refine Kd.C_drew ?_))); (case side2 => exact br.out); rintro e w' ⟨rfl, ⟨nd, rfl⟩⟩; (try first | exact ⟨rfl, _, World.drewN_drewN _ _ _⟩ | exact ⟨rfl, _, Eq.trans (World.drewN_drewN _ _ _) (congrArg (World.drewN _) (Nat.add_assoc _ _ _))⟩))); try go_wp2_with (first | (go_at_call 55; (with_reducible refine (spec_l03Has.calls k4 _ _ bq (rd ax aA) true _ ?side1 ?side2 eY.out).mono ?_); (case side1 => repeat (first | exact (by repeat (first | (with_reducible exact a1.out) | (with_reducible refine Kd.C_alloc ?_ _) | (with_reducible refine Kd.C_drewN ?_ _) | (with_reducible refine Kd.C_drew ?_) | exact a1.out)) | (with_reducible refine Kd.C_alloc ?_ _) | (with_reducible refine Kd.C_drewN ?_ _) | (with_reducible refine Kd.C_drew ?_))); (case side2 => exact br.out); rintro e w' ⟨rfl, ⟨nd, rfl⟩⟩; (try first | exact ⟨rfl, _, World.drewN_drewN _ _ _⟩ | exact ⟨rfl, _, Eq.trans (World.drewN_drewN _ _ _) (congrArg (World.drewN _) (Nat.add_assoc _ _ _))⟩))))
                 go_ret
                 exact ⟨ze, zb HB⟩
                ·replace c64 := Bool.eq_false_iff.mpr c64
                 subst c64
                 have H1 : (spec_LoopOk.l3 k4 ax (wrap64 (aA + 1)) ae a0_1 ab ad) = some r := by rw [if_neg (show ¬ (false = true) by decide)] at H; exact H
                 clear H; have H := H1; clear H1; have H' := zK H; clear H
                 obtain ⟨Ao67, eD, eo67⟩ := Kd.R_slice ay.out
                 subst eo67
                 have bo : 0 ≤ (aA : Int) := zd
                 have bp : aA < (ax.length : Int) := zd
                 obtain ⟨bi, dc, cK⟩ := Kd.at_int (Kd.R_reads' ay.out).2.2 aA bo bp
                 cases dc
                 replace bo := eq_true bo; replace bp := eq_true bp
                 have q68 : (aA : Int) ≤ ((ax.length : Int) : Int) := zd
                 obtain ⟨i068, eb, _, fp, _⟩ := info_parts info3
                 have cM : ax.length ≤ eD := (Kd.R_reads' ay.out).2.1
                 have fq : Kd.C (Kd.int .i64) _ (some bi) ax.length ax := (Kd.R_reads' ay.out).2.2
                 have eE := cut_to (P := Try.prog) 24 3 .i64 Try.underlying24 eb (some bi) ax.length eD aA (zd) q68 cM
                 have eF := Kd.C_take (m := (aA : Int).toNat) fq (by omega)
                 have eG : bq.length = (aA : Int).toNat := (by rw [Ny276.out, List.length_take]; omega)
                 rw [← Ny276.out] at eF
                 rw [← eG] at eE
                 have a1 := zK eF
                 have br := zK (show bq.length ≤ eD from by omega)
                 clear eF fq cM eb fp; have KY68 := zK eG; clear eG
                 have KL68 := zK (show (aA : Int).toNat ≤ ax.length from by omega)
                 replace q68 := eq_true q68
                 have cc : 0 ≤ (aA : Int) := zd
                 have cd : aA < (ax.length : Int) := zd
                 obtain ⟨dd, eC, dG⟩ := Kd.at_int (Kd.R_reads' ay.out).2.2 aA cc cd
                 obtain rfl : bi = dd := (by injection eC)
                 replace cc := eq_true cc; replace cd := eq_true cd
                 go_wp2_with (first | (go_at_call 55; (with_reducible refine (spec_l03Has.calls k4 _ _ bq (rd ax aA) false _ ?side1 ?side2 eY.out).mono ?_); (case side1 => repeat (first | exact (by repeat (first | (with_reducible exact a1.out) | (with_reducible refine Kd.C_alloc ?_ _) | (with_reducible refine Kd.C_drewN ?_ _) | (with_reducible refine Kd.C_drew ?_) | exact a1.out)) | (with_reducible refine Kd.C_alloc ?_ _) | (with_reducible refine Kd.C_drewN ?_ _) | (with_reducible refine Kd.C_drew ?_))); (case side2 => exact br.out); rintro e w' ⟨rfl, ⟨nd, rfl⟩⟩; (try first | exact ⟨rfl, _, World.drewN_drewN _ _ _⟩ | exact ⟨rfl, _, Eq.trans (World.drewN_drewN _ _ _) (congrArg (World.drewN _) (Nat.add_assoc _ _ _))⟩)))
                 repeat (go_quiet (first | (go_at_call 55; (with_reducible refine (spec_l03Has.calls k4 _ _ bq (rd ax aA) false _ ?side1 ?side2 eY.out).mono ?_); (case side1 => repeat (first | exact (by repeat (first | (with_reducible exact a1.out) | (with_reducible refine Kd.C_alloc ?_ _) | (with_reducible refine Kd.C_drewN ?_ _) | (with_reducible refine Kd.C_drew ?_) | exact a1.out)) | (with_reducible refine Kd.C_alloc ?_ _) | (with_reducible refine Kd.C_drewN ?_ _) | (with_reducible refine Kd.C_drew ?_))); (case side2 => exact br.out); rintro e w' ⟨rfl, ⟨nd, rfl⟩⟩; (try first | exact ⟨rfl, _, World.drewN_drewN _ _ _⟩ | exact ⟨rfl, _, Eq.trans (World.drewN_drewN _ _ _) (congrArg (World.drewN _) (Nat.add_assoc _ _ _))⟩))); try go_wp2_with (first | (go_at_call 55; (with_reducible refine (spec_l03Has.calls k4 _ _ bq (rd ax aA) false _ ?side1 ?side2 eY.out).mono ?_); (case side1 => repeat (first | exact (by repeat (first | (with_reducible exact a1.out) | (with_reducible refine Kd.C_alloc ?_ _) | (with_reducible refine Kd.C_drewN ?_ _) | (with_reducible refine Kd.C_drew ?_) | exact a1.out)) | (with_reducible refine Kd.C_alloc ?_ _) | (with_reducible refine Kd.C_drewN ?_ _) | (with_reducible refine Kd.C_drew ?_))); (case side2 => exact br.out); rintro e w' ⟨rfl, ⟨nd, rfl⟩⟩; (try first | exact ⟨rfl, _, World.drewN_drewN _ _ _⟩ | exact ⟨rfl, _, Eq.trans (World.drewN_drewN _ _ _) (congrArg (World.drewN _) (Nat.add_assoc _ _ _))⟩))))
                 go_roundg k4
                 case measure => have := bv.out; have := bw.out; have := bP.out; have := db.out; omega
                 case rel => exact ⟨(wrap64 (aA + 1)), zf, H', ⟨by have := bv.out; have := bw.out; have := bP.out; have := db.out; omega⟩, ⟨zR ay⟩, ⟨zk aa⟩, ⟨zb HB⟩⟩
               ·rw [if_neg fl] at H
                exact absurd H (by simp)
             ·rw [if_neg c58] at H
              exact absurd H (by simp)
            ·rw [if_neg eW] at H
             have d9 : decide (aA < (ax.length : Int)) = false := decide_eq_false eW
             clear eW; have H' := zK H; clear H
             obtain ⟨Ao69, co69, eo69⟩ := Kd.R_slice ay.out
             subst eo69
             go_wp2
             repeat (go_quiet (fail); try go_wp2)
             go_loopg [10] k4 (fun kq v10 w' => ∃ (af : Int), v10 = .int .i64 af ∧ Aside0 (spec_LoopOk.l4 kq af ae a0_1 ab ad = some r) ∧ Aside0 (kq ≤ k4) ∧ Aside0 (w'.heap[ac]? = some (.cells #[(.slice aq ae.length an), .int .i64 a0_1, (.slice aw ab.length ao), (.slice az ad.length ap)] 28 (0, 0))) ∧ Aside0 (Below w.heap.size w w'))
             case atStart => exact ⟨(0), zf, H', ⟨Nat.le_refl _⟩, ⟨zk aa⟩, ⟨zb HB⟩⟩
             case round =>
              clear H' d9
              obtain ⟨af, rfl, HA, cJ, aa, HB⟩ := hrel
              cases gk with
              | zero => exact absurd HA.out (by simp [spec_LoopOk.l4])
              | succ k5 =>
               have H := HA.out; clear HA
               simp only [spec_LoopOk.l4] at H
               by_cases eZ : af < (ad.length : Int)
               ·rw [if_pos eZ] at H
                have ec : decide (af < (ad.length : Int)) = true := decide_eq_true eZ
                clear eZ
                by_cases c71 : 0 ≤ af
                ·rw [if_pos c71] at H
                 have fr : decide (0 ≤ af) = true := decide_eq_true c71
                 clear c71
                 by_cases e0 : ((rd_T74 ad af).f0) < 1
                 ·rw [if_pos e0] at H
                  have ed : decide (((rd_T74 ad af).f0) < 1) = true := decide_eq_true e0
                  clear e0; obtain rfl := Option.some.inj H
                  have hcz73_0 : wr.cell? ⟨ac, 0, none⟩ = some (.slice aq ae.length an) := (blk_cell aa.out 0).trans rfl
                  have hcz73_1 : wr.cell? ⟨ac, 1, none⟩ = some (.int .i64 a0_1) := (blk_cell aa.out 1).trans rfl
                  have hcz73_2 : wr.cell? ⟨ac, 2, none⟩ = some (.slice aw ab.length ao) := (blk_cell aa.out 2).trans rfl
                  have hcz73_3 : wr.cell? ⟨ac, 3, none⟩ = some (.slice az ad.length ap) := (blk_cell aa.out 3).trans rfl
                  have hfz73_0 := blk_frozen aa.out 0; have hfz73_1 := blk_frozen aa.out 1; have hfz73_2 := blk_frozen aa.out 2; have hfz73_3 := blk_frozen aa.out 3
                  have bW : 0 ≤ (af : Int) := zd
                  have bX : af < (ad.length : Int) := zd
                  obtain ⟨aC, aV, aW, eH, aZ, a0, bb, bc⟩ := at_T74 cg.out af bW bX
                  cases eH
                  replace aZ := (HB.out.cell (World.block_lt_of_cell? w _ aZ)).trans aZ
                  replace a0 := (HB.out.cell (World.block_lt_of_cell? w _ a0)).trans a0
                  have a8 := zK bc; have dH := zK bb; clear bc bb; replace bW := eq_true bW; replace bX := eq_true bX
                  go_wp2_with (first | ((with_reducible refine gate_dst (N := 11) rfl ?_); (try (refine gate_guard (by rfl) ?_; dsimp only)); refine zX 11 #[.int .i64 0, .slice none 0 0] 74 ?_; intro ak hg ee hbox hb; have aH := zK (blk_below (g := ac) (o := .cells #[.slice aq ae.length an, .int .i64 a0_1, .slice aw ab.length ao, .slice (some aC) ad.length ap] 28 (0, 0)) (zk aa) hb); have aI := zK (below_step (zb HB) hb); have aJ := zK (hbox); have aY := zK ((by rw [hg]; exact (below_size (zb HB)) : w.heap.size ≤ ak)); have bf := zK ((by rw [hg]; exact (below_size (zb HB)) : w.heap.size ≤ ak)); have bg := zK ((by rw [hg]; exact Nat.ne_of_lt (blk_lt (g := ac) (o := .cells #[.slice aq ae.length an, .int .i64 a0_1, .slice aw ab.length ao, .slice (some aC) ad.length ap] 28 (0, 0)) (zk aa)) : ac ≠ ak)); have bh := zK ((by rw [hg]; exact Nat.ne_of_gt (blk_lt (g := ac) (o := .cells #[.slice aq ae.length an, .int .i64 a0_1, .slice aw ab.length ao, .slice (some aC) ad.length ap] 28 (0, 0)) (zk aa)) : ak ≠ ac)); clear aa; clear HB; have aa := aH; have HB := aI; have aj := aJ; have bY := aY; have aQ := bf; have au := bg; have av := bh; clear aH aI aJ aY bf bg bh; clear hb hbox hg; have ef := av.out; have eg := au.out; have cN : ee.cell? ⟨ak, 0, none⟩ = some (.int .i64 0) := (blk_cell aj.out 0).trans rfl; have cO : ee.cell? ⟨ak, 1, none⟩ = some (.slice none 0 0) := (blk_cell aj.out 1).trans rfl; have cP := blk_frozen aj.out 0; have cQ := blk_frozen aj.out 1))
                  repeat (go_quiet (first | ((with_reducible refine gate_dst (N := 11) rfl ?_); (try (refine gate_guard (by rfl) ?_; dsimp only)); refine zX 11 #[.int .i64 0, .slice none 0 0] 74 ?_; intro ak hg ee hbox hb; have aH := zK (blk_below (g := ac) (o := .cells #[.slice aq ae.length an, .int .i64 a0_1, .slice aw ab.length ao, .slice (some aC) ad.length ap] 28 (0, 0)) (zk aa) hb); have aI := zK (below_step (zb HB) hb); have aJ := zK (hbox); have aY := zK ((by rw [hg]; exact (below_size (zb HB)) : w.heap.size ≤ ak)); have bf := zK ((by rw [hg]; exact (below_size (zb HB)) : w.heap.size ≤ ak)); have bg := zK ((by rw [hg]; exact Nat.ne_of_lt (blk_lt (g := ac) (o := .cells #[.slice aq ae.length an, .int .i64 a0_1, .slice aw ab.length ao, .slice (some aC) ad.length ap] 28 (0, 0)) (zk aa)) : ac ≠ ak)); have bh := zK ((by rw [hg]; exact Nat.ne_of_gt (blk_lt (g := ac) (o := .cells #[.slice aq ae.length an, .int .i64 a0_1, .slice aw ab.length ao, .slice (some aC) ad.length ap] 28 (0, 0)) (zk aa)) : ak ≠ ac)); clear aa; clear HB; have aa := aH; have HB := aI; have aj := aJ; have bY := aY; have aQ := bf; have au := bg; have av := bh; clear aH aI aJ aY bf bg bh; clear hb hbox hg; have ef := av.out; have eg := au.out; have cN : ee.cell? ⟨ak, 0, none⟩ = some (.int .i64 0) := (blk_cell aj.out 0).trans rfl; have cO : ee.cell? ⟨ak, 1, none⟩ = some (.slice none 0 0) := (blk_cell aj.out 1).trans rfl; have cP := blk_frozen aj.out 0; have cQ := blk_frozen aj.out 1)); try go_wp2_with (first | ((with_reducible refine gate_dst (N := 11) rfl ?_); (try (refine gate_guard (by rfl) ?_; dsimp only)); refine zX 11 #[.int .i64 0, .slice none 0 0] 74 ?_; intro ak hg ee hbox hb; have aH := zK (blk_below (g := ac) (o := .cells #[.slice aq ae.length an, .int .i64 a0_1, .slice aw ab.length ao, .slice (some aC) ad.length ap] 28 (0, 0)) (zk aa) hb); have aI := zK (below_step (zb HB) hb); have aJ := zK (hbox); have aY := zK ((by rw [hg]; exact (below_size (zb HB)) : w.heap.size ≤ ak)); have bf := zK ((by rw [hg]; exact (below_size (zb HB)) : w.heap.size ≤ ak)); have bg := zK ((by rw [hg]; exact Nat.ne_of_lt (blk_lt (g := ac) (o := .cells #[.slice aq ae.length an, .int .i64 a0_1, .slice aw ab.length ao, .slice (some aC) ad.length ap] 28 (0, 0)) (zk aa)) : ac ≠ ak)); have bh := zK ((by rw [hg]; exact Nat.ne_of_gt (blk_lt (g := ac) (o := .cells #[.slice aq ae.length an, .int .i64 a0_1, .slice aw ab.length ao, .slice (some aC) ad.length ap] 28 (0, 0)) (zk aa)) : ak ≠ ac)); clear aa; clear HB; have aa := aH; have HB := aI; have aj := aJ; have bY := aY; have aQ := bf; have au := bg; have av := bh; clear aH aI aJ aY bf bg bh; clear hb hbox hg; have ef := av.out; have eg := au.out; have cN : ee.cell? ⟨ak, 0, none⟩ = some (.int .i64 0) := (blk_cell aj.out 0).trans rfl; have cO : ee.cell? ⟨ak, 1, none⟩ = some (.slice none 0 0) := (blk_cell aj.out 1).trans rfl; have cP := blk_frozen aj.out 0; have cQ := blk_frozen aj.out 1)))
                  go_ret
                  exact ⟨ze, zb HB⟩
                 ·rw [if_neg e0] at H
                  have ed : decide (((rd_T74 ad af).f0) < 1) = false := decide_eq_false e0
                  clear e0; have H' := zK H; clear H
                  have dI : wr.cell? ⟨ac, 0, none⟩ = some (.slice aq ae.length an) := (blk_cell aa.out 0).trans rfl
                  have dJ : wr.cell? ⟨ac, 1, none⟩ = some (.int .i64 a0_1) := (blk_cell aa.out 1).trans rfl
                  have dK : wr.cell? ⟨ac, 2, none⟩ = some (.slice aw ab.length ao) := (blk_cell aa.out 2).trans rfl
                  have dL : wr.cell? ⟨ac, 3, none⟩ = some (.slice az ad.length ap) := (blk_cell aa.out 3).trans rfl
                  have dM := blk_frozen aa.out 0; have dN := blk_frozen aa.out 1; have dO := blk_frozen aa.out 2; have dP := blk_frozen aa.out 3
                  have bW : 0 ≤ (af : Int) := zd
                  have bX : af < (ad.length : Int) := zd
                  obtain ⟨aC, aV, aW, eH, aZ, a0, bb, bc⟩ := at_T74 cg.out af bW bX
                  cases eH
                  replace aZ := (HB.out.cell (World.block_lt_of_cell? w _ aZ)).trans aZ
                  replace a0 := (HB.out.cell (World.block_lt_of_cell? w _ a0)).trans a0
                  have a8 := zK bc; have dH := zK bb; clear bc bb; replace bW := eq_true bW; replace bX := eq_true bX
                  go_wp2_with (first | ((with_reducible refine gate_dst (N := 11) rfl ?_); (try (refine gate_guard (by rfl) ?_; dsimp only)); refine zX 11 #[.int .i64 0, .slice none 0 0] 74 ?_; intro ak hg eh hbox hb; have aH := zK (blk_below (g := ac) (o := .cells #[.slice aq ae.length an, .int .i64 a0_1, .slice aw ab.length ao, .slice (some aC) ad.length ap] 28 (0, 0)) (zk aa) hb); have aI := zK (below_step (zb HB) hb); have aJ := zK (hbox); have aY := zK ((by rw [hg]; exact (below_size (zb HB)) : w.heap.size ≤ ak)); have bf := zK ((by rw [hg]; exact (below_size (zb HB)) : w.heap.size ≤ ak)); have bg := zK ((by rw [hg]; exact Nat.ne_of_lt (blk_lt (g := ac) (o := .cells #[.slice aq ae.length an, .int .i64 a0_1, .slice aw ab.length ao, .slice (some aC) ad.length ap] 28 (0, 0)) (zk aa)) : ac ≠ ak)); have bh := zK ((by rw [hg]; exact Nat.ne_of_gt (blk_lt (g := ac) (o := .cells #[.slice aq ae.length an, .int .i64 a0_1, .slice aw ab.length ao, .slice (some aC) ad.length ap] 28 (0, 0)) (zk aa)) : ak ≠ ac)); clear aa; clear HB; have aa := aH; have HB := aI; have aj := aJ; have bY := aY; have aQ := bf; have au := bg; have av := bh; clear aH aI aJ aY bf bg bh; clear hb hbox hg; have ei := av.out; have ej := au.out; have bJ : eh.cell? ⟨ak, 0, none⟩ = some (.int .i64 0) := (blk_cell aj.out 0).trans rfl; have bK : eh.cell? ⟨ak, 1, none⟩ = some (.slice none 0 0) := (blk_cell aj.out 1).trans rfl; have bL := blk_frozen aj.out 0; have bM := blk_frozen aj.out 1))
                  repeat (go_quiet (first | ((with_reducible refine gate_dst (N := 11) rfl ?_); (try (refine gate_guard (by rfl) ?_; dsimp only)); refine zX 11 #[.int .i64 0, .slice none 0 0] 74 ?_; intro ak hg eh hbox hb; have aH := zK (blk_below (g := ac) (o := .cells #[.slice aq ae.length an, .int .i64 a0_1, .slice aw ab.length ao, .slice (some aC) ad.length ap] 28 (0, 0)) (zk aa) hb); have aI := zK (below_step (zb HB) hb); have aJ := zK (hbox); have aY := zK ((by rw [hg]; exact (below_size (zb HB)) : w.heap.size ≤ ak)); have bf := zK ((by rw [hg]; exact (below_size (zb HB)) : w.heap.size ≤ ak)); have bg := zK ((by rw [hg]; exact Nat.ne_of_lt (blk_lt (g := ac) (o := .cells #[.slice aq ae.length an, .int .i64 a0_1, .slice aw ab.length ao, .slice (some aC) ad.length ap] 28 (0, 0)) (zk aa)) : ac ≠ ak)); have bh := zK ((by rw [hg]; exact Nat.ne_of_gt (blk_lt (g := ac) (o := .cells #[.slice aq ae.length an, .int .i64 a0_1, .slice aw ab.length ao, .slice (some aC) ad.length ap] 28 (0, 0)) (zk aa)) : ak ≠ ac)); clear aa; clear HB; have aa := aH; have HB := aI; have aj := aJ; have bY := aY; have aQ := bf; have au := bg; have av := bh; clear aH aI aJ aY bf bg bh; clear hb hbox hg; have ei := av.out; have ej := au.out; have bJ : eh.cell? ⟨ak, 0, none⟩ = some (.int .i64 0) := (blk_cell aj.out 0).trans rfl; have bK : eh.cell? ⟨ak, 1, none⟩ = some (.slice none 0 0) := (blk_cell aj.out 1).trans rfl; have bL := blk_frozen aj.out 0; have bM := blk_frozen aj.out 1)); try go_wp2_with (first | ((with_reducible refine gate_dst (N := 11) rfl ?_); (try (refine gate_guard (by rfl) ?_; dsimp only)); refine zX 11 #[.int .i64 0, .slice none 0 0] 74 ?_; intro ak hg eh hbox hb; have aH := zK (blk_below (g := ac) (o := .cells #[.slice aq ae.length an, .int .i64 a0_1, .slice aw ab.length ao, .slice (some aC) ad.length ap] 28 (0, 0)) (zk aa) hb); have aI := zK (below_step (zb HB) hb); have aJ := zK (hbox); have aY := zK ((by rw [hg]; exact (below_size (zb HB)) : w.heap.size ≤ ak)); have bf := zK ((by rw [hg]; exact (below_size (zb HB)) : w.heap.size ≤ ak)); have bg := zK ((by rw [hg]; exact Nat.ne_of_lt (blk_lt (g := ac) (o := .cells #[.slice aq ae.length an, .int .i64 a0_1, .slice aw ab.length ao, .slice (some aC) ad.length ap] 28 (0, 0)) (zk aa)) : ac ≠ ak)); have bh := zK ((by rw [hg]; exact Nat.ne_of_gt (blk_lt (g := ac) (o := .cells #[.slice aq ae.length an, .int .i64 a0_1, .slice aw ab.length ao, .slice (some aC) ad.length ap] 28 (0, 0)) (zk aa)) : ak ≠ ac)); clear aa; clear HB; have aa := aH; have HB := aI; have aj := aJ; have bY := aY; have aQ := bf; have au := bg; have av := bh; clear aH aI aJ aY bf bg bh; clear hb hbox hg; have ei := av.out; have ej := au.out; have bJ : eh.cell? ⟨ak, 0, none⟩ = some (.int .i64 0) := (blk_cell aj.out 0).trans rfl; have bK : eh.cell? ⟨ak, 1, none⟩ = some (.slice none 0 0) := (blk_cell aj.out 1).trans rfl; have bL := blk_frozen aj.out 0; have bM := blk_frozen aj.out 1)))
                  go_loopg [12] k5 (fun kq v12 w' => ∃ (aG : Int), v12 = .int .i64 aG ∧ Aside0 (spec_LoopOk.l5 kq af aG ae a0_1 ab ad ((rd_T74 ad af).f0) ((rd_T74 ad af).f1) = some r) ∧ Aside0 (kq ≤ k5) ∧ Aside0 (w'.heap[ac]? = some (.cells #[(.slice aq ae.length an), .int .i64 a0_1, (.slice aw ab.length ao), (.slice (some aC) ad.length ap)] 28 (0, 0))) ∧ Aside0 (w'.heap[ak]? = some (.cells #[.int .i64 ((rd_T74 ad af).f0), (.slice aV ((rd_T74 ad af).f1).length aW)] 74 (0, 0))) ∧ Aside0 (Below w.heap.size w w'))
                  case atStart => exact ⟨(0), zf, H', ⟨Nat.le_refl _⟩, ⟨zh aa au⟩, ⟨by (with_reducible repeat (first | refine zN ?_ _ | refine zD ?_ | refine zA ?_ _)); refine blk_put (cs := #[.int .i64 ((rd_T74 ad af).f0), .slice none 0 0]) ?_ 1 _ rfl; (with_reducible repeat (first | refine zN ?_ _ | refine zD ?_ | refine zA ?_ _)); refine blk_put (cs := #[.int .i64 0, .slice none 0 0]) ?_ 0 _ rfl; (with_reducible repeat (first | refine zN ?_ _ | refine zD ?_ | refine zA ?_ _)); exact aj.out⟩, ⟨zb HB⟩⟩
                  case round =>
                   clear H' ec fr ed dI dJ dK dL bJ bK dM dN dO dP bL bM aZ a0 bW bX
                   obtain ⟨aG, rfl, HA, dQ, aa, aj, HB⟩ := hrel
                   cases gk with
                   | zero => exact absurd HA.out (by simp [spec_LoopOk.l5])
                   | succ k6 =>
                    have H := HA.out; clear HA
                    simp only [spec_LoopOk.l5] at H
                    by_cases e1 : aG < af
                    ·rw [if_pos e1] at H
                     have ek : decide (aG < af) = true := decide_eq_true e1
                     clear e1
                     by_cases c82 : 0 ≤ aG
                     ·rw [if_pos c82] at H
                      have c82b0 : decide (0 ≤ aG) = true := decide_eq_true c82
                      clear c82
                      by_cases c83 : aG < (ad.length : Int)
                      ·rw [if_pos c83] at H
                       have c83b0 : decide (aG < (ad.length : Int)) = true := decide_eq_true c83
                       clear c83
                       by_cases eI : ((rd_T74 ad aG).f0) = ((rd_T74 ad af).f0)
                       ·rw [if_pos eI] at H
                        have fs : (((rd_T74 ad aG).f0) == ((rd_T74 ad af).f0)) = true := beq_iff_eq.mpr eI
                        have ft : (((rd_T74 ad aG).f0) != ((rd_T74 ad af).f0)) = false := bne_eq_false_iff_eq.mpr eI
                        clear eI; obtain rfl := Option.some.inj H; have hnb85 := au.out; have hnc85 := av.out
                        have hcz86_0 : wr.cell? ⟨ac, 0, none⟩ = some (.slice aq ae.length an) := (blk_cell aa.out 0).trans rfl
                        have hcz86_1 : wr.cell? ⟨ac, 1, none⟩ = some (.int .i64 a0_1) := (blk_cell aa.out 1).trans rfl
                        have hcz86_2 : wr.cell? ⟨ac, 2, none⟩ = some (.slice aw ab.length ao) := (blk_cell aa.out 2).trans rfl
                        have hcz86_3 : wr.cell? ⟨ac, 3, none⟩ = some (.slice (some aC) ad.length ap) := (blk_cell aa.out 3).trans rfl
                        have hfz86_0 := blk_frozen aa.out 0; have hfz86_1 := blk_frozen aa.out 1; have hfz86_2 := blk_frozen aa.out 2; have hfz86_3 := blk_frozen aa.out 3
                        have ce : 0 ≤ (aG : Int) := zd
                        have cf : aG < (ad.length : Int) := zd
                        obtain ⟨de, eJ, eK, eL, a6, a7, bd, be⟩ := at_T74 cg.out aG ce cf
                        obtain rfl : aC = de := (by injection eL)
                        replace a6 := (HB.out.cell (World.block_lt_of_cell? w _ a6)).trans a6
                        replace a7 := (HB.out.cell (World.block_lt_of_cell? w _ a7)).trans a7
                        have dR := zK be; have dS := zK bd; clear be bd; replace ce := eq_true ce; replace cf := eq_true cf
                        have hcz87_0 : wr.cell? ⟨ak, 0, none⟩ = some (.int .i64 ((rd_T74 ad af).f0)) := (blk_cell aj.out 0).trans rfl
                        have hcz87_1 : wr.cell? ⟨ak, 1, none⟩ = some (.slice aV ((rd_T74 ad af).f1).length aW) := (blk_cell aj.out 1).trans rfl
                        have hfz87_0 := blk_frozen aj.out 0; have hfz87_1 := blk_frozen aj.out 1
                        go_wp2
                        repeat (go_quiet (fail); try go_wp2)
                        go_ret
                        exact ⟨ze, zb HB⟩
                       ·rw [if_neg eI] at H
                        have fs : (((rd_T74 ad aG).f0) == ((rd_T74 ad af).f0)) = false := beq_eq_false_iff_ne.mpr eI
                        have ft : (((rd_T74 ad aG).f0) != ((rd_T74 ad af).f0)) = true := bne_iff_ne.mpr eI
                        have H' := zK H; clear H; have hnb88 := au.out; have hnc88 := av.out
                        have hcz89_0 : wr.cell? ⟨ac, 0, none⟩ = some (.slice aq ae.length an) := (blk_cell aa.out 0).trans rfl
                        have hcz89_1 : wr.cell? ⟨ac, 1, none⟩ = some (.int .i64 a0_1) := (blk_cell aa.out 1).trans rfl
                        have hcz89_2 : wr.cell? ⟨ac, 2, none⟩ = some (.slice aw ab.length ao) := (blk_cell aa.out 2).trans rfl
                        have hcz89_3 : wr.cell? ⟨ac, 3, none⟩ = some (.slice (some aC) ad.length ap) := (blk_cell aa.out 3).trans rfl
                        have hfz89_0 := blk_frozen aa.out 0; have hfz89_1 := blk_frozen aa.out 1; have hfz89_2 := blk_frozen aa.out 2; have hfz89_3 := blk_frozen aa.out 3
                        have ce : 0 ≤ (aG : Int) := zd
                        have cf : aG < (ad.length : Int) := zd
                        obtain ⟨de, eJ, eK, eL, a6, a7, bd, be⟩ := at_T74 cg.out aG ce cf
                        obtain rfl : aC = de := (by injection eL)
                        replace a6 := (HB.out.cell (World.block_lt_of_cell? w _ a6)).trans a6
                        replace a7 := (HB.out.cell (World.block_lt_of_cell? w _ a7)).trans a7
                        have dR := zK be; have dS := zK bd; clear be bd; replace ce := eq_true ce; replace cf := eq_true cf
                        have hcz90_0 : wr.cell? ⟨ak, 0, none⟩ = some (.int .i64 ((rd_T74 ad af).f0)) := (blk_cell aj.out 0).trans rfl
                        have hcz90_1 : wr.cell? ⟨ak, 1, none⟩ = some (.slice aV ((rd_T74 ad af).f1).length aW) := (blk_cell aj.out 1).trans rfl
                        have hfz90_0 := blk_frozen aj.out 0; have hfz90_1 := blk_frozen aj.out 1
                        go_wp2
                        repeat (go_quiet (fail); try go_wp2)
                        go_roundg k6
                        case measure => have := bv.out; have := bw.out; have := bP.out; have := db.out; have := cJ.out; have := dQ.out; omega
                        case rel => exact ⟨(wrap64 (aG + 1)), zf, H', ⟨by have := bv.out; have := bw.out; have := bP.out; have := db.out; have := cJ.out; have := dQ.out; omega⟩, ⟨zk aa⟩, ⟨zk aj⟩, ⟨zb HB⟩⟩
                      ·rw [if_neg c83] at H
                       exact absurd H (by simp)
                     ·rw [if_neg c82] at H
                      exact absurd H (by simp)
                    ·rw [if_neg e1] at H
                     have ek : decide (aG < af) = false := decide_eq_false e1
                     clear e1; have H' := zK H; clear H
                     go_wp2
                     repeat (go_quiet (fail); try go_wp2)
                     go_loopg [13] k6 (fun kq v13 w' => ∃ (al : Int), v13 = .int .i64 al ∧ Aside0 (spec_LoopOk.l6 kq af al ae a0_1 ab ad ((rd_T74 ad af).f0) ((rd_T74 ad af).f1) = some r) ∧ Aside0 (kq ≤ k6) ∧ Aside0 (w'.heap[ac]? = some (.cells #[(.slice aq ae.length an), .int .i64 a0_1, (.slice aw ab.length ao), (.slice (some aC) ad.length ap)] 28 (0, 0))) ∧ Aside0 (w'.heap[ak]? = some (.cells #[.int .i64 ((rd_T74 ad af).f0), (.slice aV ((rd_T74 ad af).f1).length aW)] 74 (0, 0))) ∧ Aside0 (Below w.heap.size w w'))
                     case atStart => exact ⟨(0), zf, H', ⟨Nat.le_refl _⟩, ⟨zk aa⟩, ⟨zk aj⟩, ⟨zb HB⟩⟩
                     case round =>
                      clear H' ek
                      obtain ⟨al, rfl, HA, eM, aa, aj, HB⟩ := hrel
                      cases gk with
                      | zero => exact absurd HA.out (by simp [spec_LoopOk.l6])
                      | succ k7 =>
                       have H := HA.out; clear HA
                       simp only [spec_LoopOk.l6] at H
                       by_cases e2 : al < (((rd_T74 ad af).f1).length : Int)
                       ·rw [if_pos e2] at H
                        have el : decide (al < (((rd_T74 ad af).f1).length : Int)) = true := decide_eq_true e2
                        clear e2; have eN := zK H; clear H; have hnb93 := av.out; have hnc93 := au.out
                        have dT : wr.cell? ⟨ak, 0, none⟩ = some (.int .i64 ((rd_T74 ad af).f0)) := (blk_cell aj.out 0).trans rfl
                        have dU : wr.cell? ⟨ak, 1, none⟩ = some (.slice aV ((rd_T74 ad af).f1).length aW) := (blk_cell aj.out 1).trans rfl
                        have dV := blk_frozen aj.out 0; have dW := blk_frozen aj.out 1
                        go_upto_region 41 with (fail)
                        repeat (go_quiet (fail); go_upto_region 41 with (fail))
                        go_cut [195] (fun v195 wc => ∃ (kq : Nat) (bn : Bool), v195 = .bool bn ∧ Aside0 (spec_LoopOk.j9 kq af al bn ae a0_1 ab ad ((rd_T74 ad af).f0) ((rd_T74 ad af).f1) = some r) ∧ Aside0 (kq ≤ k7) ∧ Aside0 (wc.heap[ac]? = some (.cells #[(.slice aq ae.length an), .int .i64 a0_1, (.slice aw ab.length ao), (.slice (some aC) ad.length ap)] 28 (0, 0))) ∧ Aside0 (wc.heap[ak]? = some (.cells #[.int .i64 ((rd_T74 ad af).f0), (.slice aV ((rd_T74 ad af).f1).length aW)] 74 (0, 0))) ∧ Aside0 (Below w.heap.size w wc))
                        case first =>
                         have H := eN.out; clear eN
                         by_cases c95 : 0 ≤ al
                         ·rw [if_pos c95] at H
                          have em : decide (0 ≤ al) = true := decide_eq_true c95
                          clear c95
                          (first | rw [em] | (simp only [i64_w, i32_w]; rw [em]) | skip)
                          replace H := Option.bind_eq_some_iff.mp H
                          obtain ⟨fu, fv, H⟩ := H
                          replace H : (if fu = true then (if al > 0 then (if 0 ≤ (wrap64 (al - 1)) then (if (wrap64 (al - 1)) < (((rd_T74 ad af).f1).length : Int) then (spec_LoopOk.j9 k7 af al (decide ((rd ((rd_T74 ad af).f1) al) ≤ (rd ((rd_T74 ad af).f1) (wrap64 (al - 1))))) ae a0_1 ab ad ((rd_T74 ad af).f0) ((rd_T74 ad af).f1)) else (none)) else (none)) else (spec_LoopOk.j9 k7 af al false ae a0_1 ab ad ((rd_T74 ad af).f0) ((rd_T74 ad af).f1))) else (spec_LoopOk.j9 k7 af al true ae a0_1 ab ad ((rd_T74 ad af).f0) ((rd_T74 ad af).f1))) = some r := H
                          have dg := zK fv; clear fv
                          by_cases c97 : fu = true
                          ·subst c97
                           have H1 : (if al > 0 then (if 0 ≤ (wrap64 (al - 1)) then (if (wrap64 (al - 1)) < (((rd_T74 ad af).f1).length : Int) then (spec_LoopOk.j9 k7 af al (decide ((rd ((rd_T74 ad af).f1) al) ≤ (rd ((rd_T74 ad af).f1) (wrap64 (al - 1))))) ae a0_1 ab ad ((rd_T74 ad af).f0) ((rd_T74 ad af).f1)) else (none)) else (none)) else (spec_LoopOk.j9 k7 af al false ae a0_1 ab ad ((rd_T74 ad af).f0) ((rd_T74 ad af).f1))) = some r := by rw [if_pos rfl] at H; exact H
                           clear H; have H := H1; clear H1
                           by_cases e3 : al > 0
                           ·rw [if_pos e3] at H
                            have fw : decide (0 < al) = true := decide_eq_true e3
                            clear e3
                            obtain ⟨bj, bZ⟩ : ∃ j_ : Int, (wrap64 (al - 1)) = j_ := ⟨_, rfl⟩
                            replace H : (if 0 ≤ (bj) then (if (bj) < (((rd_T74 ad af).f1).length : Int) then (spec_LoopOk.j9 k7 af al (decide ((rd ((rd_T74 ad af).f1) al) ≤ (rd ((rd_T74 ad af).f1) (bj)))) ae a0_1 ab ad ((rd_T74 ad af).f0) ((rd_T74 ad af).f1)) else (none)) else (none)) = some r := by first | (rw [bZ] at H; exact H) | (simp only [bZ] at H ⊢; exact H)
                            (try rw [bZ] at dg)
                            have hji99w : (IntKind.i64.wrap (al - 1)) = bj := (i64_w _).trans bZ
                            by_cases dX : 0 ≤ (bj)
                            ·rw [if_pos dX] at H
                             have c100b0 : decide (0 ≤ (bj)) = true := decide_eq_true dX
                             clear dX
                             by_cases dY : (bj) < (((rd_T74 ad af).f1).length : Int)
                             ·rw [if_pos dY] at H
                              have c101b0 : decide ((bj) < (((rd_T74 ad af).f1).length : Int)) = true := decide_eq_true dY
                              clear dY; have H' := zK H; clear H; have hnb102 := av.out; have hnc102 := au.out
                              have fx : wr.cell? ⟨ak, 0, none⟩ = some (.int .i64 ((rd_T74 ad af).f0)) := (blk_cell aj.out 0).trans rfl
                              have fy : wr.cell? ⟨ak, 1, none⟩ = some (.slice aV ((rd_T74 ad af).f1).length aW) := (blk_cell aj.out 1).trans rfl
                              have fz := blk_frozen aj.out 0; have fA := blk_frozen aj.out 1
                              have bs : 0 ≤ (al : Int) := zd
                              have bu : al < (((rd_T74 ad af).f1).length : Int) := zd
                              obtain ⟨cR, df, aK⟩ := Kd.at_int a8.out al bs bu
                              cases df
                              replace aK := (HB.out.cell (World.block_lt_of_cell? w _ aK)).trans aK
                              replace bs := eq_true bs; replace bu := eq_true bu
                              have fB : wr.cell? ⟨ac, 0, none⟩ = some (.slice aq ae.length an) := (blk_cell aa.out 0).trans rfl
                              have fC : wr.cell? ⟨ac, 1, none⟩ = some (.int .i64 a0_1) := (blk_cell aa.out 1).trans rfl
                              have fD : wr.cell? ⟨ac, 2, none⟩ = some (.slice aw ab.length ao) := (blk_cell aa.out 2).trans rfl
                              have fE : wr.cell? ⟨ac, 3, none⟩ = some (.slice (some aC) ad.length ap) := (blk_cell aa.out 3).trans rfl
                              have fF := blk_frozen aa.out 0; have fG := blk_frozen aa.out 1; have fH := blk_frozen aa.out 2; have fI := blk_frozen aa.out 3
                              have eO : 0 ≤ (al : Int) := zd; have eP : al < (((rd_T74 ad af).f1).length : Int) := zd; obtain ⟨fJ, e287, bN⟩ := Kd.at_int a8.out al eO eP; obtain rfl : cR = fJ := (by injection e287); replace bN := (HB.out.cell (World.block_lt_of_cell? w _ bN)).trans bN; replace eO := eq_true eO; replace eP := eq_true eP; have eQ : 0 ≤ ((bj) : Int) := zd; have eR : (bj) < (((rd_T74 ad af).f1).length : Int) := zd; obtain ⟨fK, e288, bO⟩ := Kd.at_int a8.out (bj) eQ eR; obtain rfl : cR = fK := (by injection e288); replace bO := (HB.out.cell (World.block_lt_of_cell? w _ bO)).trans bO; replace eQ := eq_true eQ; replace eR := eq_true eR
                              go_wp2_with (first | (go_at_call 62; (with_reducible refine (spec_l01In.calls (rd ((rd_T74 ad af).f1) al) 0 (wrap64 ((ab.length : Int) - 1)) true _ dg.out).mono ?_); rintro e w' ⟨rfl, ⟨nd, rfl⟩⟩; (try first | exact ⟨rfl, _, World.drewN_drewN _ _ _⟩ | exact ⟨rfl, _, Eq.trans (World.drewN_drewN _ _ _) (congrArg (World.drewN _) (Nat.add_assoc _ _ _))⟩)))
                              repeat (go_quiet (first | (go_at_call 62; (with_reducible refine (spec_l01In.calls (rd ((rd_T74 ad af).f1) al) 0 (wrap64 ((ab.length : Int) - 1)) true _ dg.out).mono ?_); rintro e w' ⟨rfl, ⟨nd, rfl⟩⟩; (try first | exact ⟨rfl, _, World.drewN_drewN _ _ _⟩ | exact ⟨rfl, _, Eq.trans (World.drewN_drewN _ _ _) (congrArg (World.drewN _) (Nat.add_assoc _ _ _))⟩))); try go_wp2_with (first | (go_at_call 62; (with_reducible refine (spec_l01In.calls (rd ((rd_T74 ad af).f1) al) 0 (wrap64 ((ab.length : Int) - 1)) true _ dg.out).mono ?_); rintro e w' ⟨rfl, ⟨nd, rfl⟩⟩; (try first | exact ⟨rfl, _, World.drewN_drewN _ _ _⟩ | exact ⟨rfl, _, Eq.trans (World.drewN_drewN _ _ _) (congrArg (World.drewN _) (Nat.add_assoc _ _ _))⟩))))
                              go_meet
                              case rel => exact ⟨_, (decide ((rd ((rd_T74 ad af).f1) al) ≤ (rd ((rd_T74 ad af).f1) (bj)))), (by first | rfl | (simp; done) | (simp only [← bZ] <;> (first | rfl | simp)) | (simp [*]; done)), H', ⟨by have := bv.out; have := bw.out; have := bP.out; have := db.out; have := cJ.out; have := dQ.out; have := eM.out; first | omega | exact Nat.le_refl _⟩, ⟨zk aa⟩, ⟨zk aj⟩, ⟨zb HB⟩⟩
                             ·rw [if_neg dY] at H
                              exact absurd H (by simp)
                            ·rw [if_neg dX] at H
                             exact absurd H (by simp)
                           ·rw [if_neg e3] at H
                            have fw : decide (0 < al) = false := decide_eq_false e3
                            clear e3; have H' := zK H; clear H; have hnb105 := av.out; have hnc105 := au.out
                            have fL : wr.cell? ⟨ak, 0, none⟩ = some (.int .i64 ((rd_T74 ad af).f0)) := (blk_cell aj.out 0).trans rfl
                            have fM : wr.cell? ⟨ak, 1, none⟩ = some (.slice aV ((rd_T74 ad af).f1).length aW) := (blk_cell aj.out 1).trans rfl
                            have fN := blk_frozen aj.out 0; have fO := blk_frozen aj.out 1
                            have bs : 0 ≤ (al : Int) := zd
                            have bu : al < (((rd_T74 ad af).f1).length : Int) := zd
                            obtain ⟨cR, df, aK⟩ := Kd.at_int a8.out al bs bu
                            cases df
                            replace aK := (HB.out.cell (World.block_lt_of_cell? w _ aK)).trans aK
                            replace bs := eq_true bs; replace bu := eq_true bu
                            have fP : wr.cell? ⟨ac, 0, none⟩ = some (.slice aq ae.length an) := (blk_cell aa.out 0).trans rfl
                            have fQ : wr.cell? ⟨ac, 1, none⟩ = some (.int .i64 a0_1) := (blk_cell aa.out 1).trans rfl
                            have fR : wr.cell? ⟨ac, 2, none⟩ = some (.slice aw ab.length ao) := (blk_cell aa.out 2).trans rfl
                            have fS : wr.cell? ⟨ac, 3, none⟩ = some (.slice (some aC) ad.length ap) := (blk_cell aa.out 3).trans rfl
                            have fT := blk_frozen aa.out 0; have fU := blk_frozen aa.out 1; have fV := blk_frozen aa.out 2; have fW := blk_frozen aa.out 3
                            go_wp2_with (first | (go_at_call 62; (with_reducible refine (spec_l01In.calls (rd ((rd_T74 ad af).f1) al) 0 (wrap64 ((ab.length : Int) - 1)) true _ dg.out).mono ?_); rintro e w' ⟨rfl, ⟨nd, rfl⟩⟩; (try first | exact ⟨rfl, _, World.drewN_drewN _ _ _⟩ | exact ⟨rfl, _, Eq.trans (World.drewN_drewN _ _ _) (congrArg (World.drewN _) (Nat.add_assoc _ _ _))⟩)))
                            repeat (go_quiet (first | (go_at_call 62; (with_reducible refine (spec_l01In.calls (rd ((rd_T74 ad af).f1) al) 0 (wrap64 ((ab.length : Int) - 1)) true _ dg.out).mono ?_); rintro e w' ⟨rfl, ⟨nd, rfl⟩⟩; (try first | exact ⟨rfl, _, World.drewN_drewN _ _ _⟩ | exact ⟨rfl, _, Eq.trans (World.drewN_drewN _ _ _) (congrArg (World.drewN _) (Nat.add_assoc _ _ _))⟩))); try go_wp2_with (first | (go_at_call 62; (with_reducible refine (spec_l01In.calls (rd ((rd_T74 ad af).f1) al) 0 (wrap64 ((ab.length : Int) - 1)) true _ dg.out).mono ?_); rintro e w' ⟨rfl, ⟨nd, rfl⟩⟩; (try first | exact ⟨rfl, _, World.drewN_drewN _ _ _⟩ | exact ⟨rfl, _, Eq.trans (World.drewN_drewN _ _ _) (congrArg (World.drewN _) (Nat.add_assoc _ _ _))⟩))))
                            go_meet
                            case rel => exact ⟨_, (false), zf, H', ⟨by have := bv.out; have := bw.out; have := bP.out; have := db.out; have := cJ.out; have := dQ.out; have := eM.out; first | omega | exact Nat.le_refl _⟩, ⟨zk aa⟩, ⟨zk aj⟩, ⟨zb HB⟩⟩
                          ·replace c97 := Bool.eq_false_iff.mpr c97
                           subst c97
                           have H1 : (spec_LoopOk.j9 k7 af al true ae a0_1 ab ad ((rd_T74 ad af).f0) ((rd_T74 ad af).f1)) = some r := by rw [if_neg (show ¬ (false = true) by decide)] at H; exact H
                           clear H; have H := H1; clear H1; have H' := zK H; clear H; have hnb108 := av.out; have hnc108 := au.out
                           have fX : wr.cell? ⟨ak, 0, none⟩ = some (.int .i64 ((rd_T74 ad af).f0)) := (blk_cell aj.out 0).trans rfl
                           have fY : wr.cell? ⟨ak, 1, none⟩ = some (.slice aV ((rd_T74 ad af).f1).length aW) := (blk_cell aj.out 1).trans rfl
                           have fZ := blk_frozen aj.out 0; have f3 := blk_frozen aj.out 1
                           have bs : 0 ≤ (al : Int) := zd
                           have bu : al < (((rd_T74 ad af).f1).length : Int) := zd
                           obtain ⟨cR, df, aK⟩ := Kd.at_int a8.out al bs bu
                           cases df
                           replace aK := (HB.out.cell (World.block_lt_of_cell? w _ aK)).trans aK
                           replace bs := eq_true bs; replace bu := eq_true bu
                           have f4 : wr.cell? ⟨ac, 0, none⟩ = some (.slice aq ae.length an) := (blk_cell aa.out 0).trans rfl
                           have f5 : wr.cell? ⟨ac, 1, none⟩ = some (.int .i64 a0_1) := (blk_cell aa.out 1).trans rfl
                           have f6 : wr.cell? ⟨ac, 2, none⟩ = some (.slice aw ab.length ao) := (blk_cell aa.out 2).trans rfl
                           have f7 : wr.cell? ⟨ac, 3, none⟩ = some (.slice (some aC) ad.length ap) := (blk_cell aa.out 3).trans rfl
                           have f8 := blk_frozen aa.out 0; have f9 := blk_frozen aa.out 1; have ga := blk_frozen aa.out 2; have gb := blk_frozen aa.out 3
                           go_wp2_with (first | (go_at_call 62; (with_reducible refine (spec_l01In.calls (rd ((rd_T74 ad af).f1) al) 0 (wrap64 ((ab.length : Int) - 1)) false _ dg.out).mono ?_); rintro e w' ⟨rfl, ⟨nd, rfl⟩⟩; (try first | exact ⟨rfl, _, World.drewN_drewN _ _ _⟩ | exact ⟨rfl, _, Eq.trans (World.drewN_drewN _ _ _) (congrArg (World.drewN _) (Nat.add_assoc _ _ _))⟩)))
                           repeat (go_quiet (first | (go_at_call 62; (with_reducible refine (spec_l01In.calls (rd ((rd_T74 ad af).f1) al) 0 (wrap64 ((ab.length : Int) - 1)) false _ dg.out).mono ?_); rintro e w' ⟨rfl, ⟨nd, rfl⟩⟩; (try first | exact ⟨rfl, _, World.drewN_drewN _ _ _⟩ | exact ⟨rfl, _, Eq.trans (World.drewN_drewN _ _ _) (congrArg (World.drewN _) (Nat.add_assoc _ _ _))⟩))); try go_wp2_with (first | (go_at_call 62; (with_reducible refine (spec_l01In.calls (rd ((rd_T74 ad af).f1) al) 0 (wrap64 ((ab.length : Int) - 1)) false _ dg.out).mono ?_); rintro e w' ⟨rfl, ⟨nd, rfl⟩⟩; (try first | exact ⟨rfl, _, World.drewN_drewN _ _ _⟩ | exact ⟨rfl, _, Eq.trans (World.drewN_drewN _ _ _) (congrArg (World.drewN _) (Nat.add_assoc _ _ _))⟩))))
                           go_meet
                           case rel => exact ⟨_, (true), zf, H', ⟨by have := bv.out; have := bw.out; have := bP.out; have := db.out; have := cJ.out; have := dQ.out; have := eM.out; first | omega | exact Nat.le_refl _⟩, ⟨zk aa⟩, ⟨zk aj⟩, ⟨zb HB⟩⟩
                         ·rw [if_neg c95] at H
                          exact absurd H (by simp)
                        case rest =>
                         clear eN el dT dU dV dW
                         obtain ⟨kq, bn, rfl, HA, gc, aa, aj, HB⟩ := hcut
                         cases kq with
                         | zero => exact absurd HA.out (by simp [spec_LoopOk.j9])
                         | succ kj91 =>
                          have H := HA.out; clear HA
                          simp only [spec_LoopOk.j9] at H
                          by_cases dZ : bn = true
                          ·subst dZ
                           have H1 : (some false) = some r := by rw [if_pos rfl] at H; exact H
                           clear H; have H := H1; clear H1; obtain rfl := Option.some.inj H
                           go_wp2
                           repeat (go_quiet (fail); try go_wp2)
                           go_ret
                           exact ⟨ze, zb HB⟩
                          ·replace dZ := Bool.eq_false_iff.mpr dZ
                           subst dZ
                           have H1 : (spec_LoopOk.l6 kj91 af (wrap64 (al + 1)) ae a0_1 ab ad ((rd_T74 ad af).f0) ((rd_T74 ad af).f1)) = some r := by rw [if_neg (show ¬ (false = true) by decide)] at H; exact H
                           clear H; have H := H1; clear H1; have H' := zK H; clear H
                           go_wp2
                           repeat (go_quiet (fail); try go_wp2)
                           go_roundg kj91
                           case measure => have := bv.out; have := bw.out; have := bP.out; have := db.out; have := cJ.out; have := dQ.out; have := eM.out; have := gc.out; omega
                           case rel => exact ⟨(wrap64 (al + 1)), zf, H', ⟨by have := bv.out; have := bw.out; have := bP.out; have := db.out; have := cJ.out; have := dQ.out; have := eM.out; have := gc.out; omega⟩, ⟨zk aa⟩, ⟨zk aj⟩, ⟨zb HB⟩⟩
                       ·rw [if_neg e2] at H
                        have el : decide (al < (((rd_T74 ad af).f1).length : Int)) = false := decide_eq_false e2
                        clear e2; have H' := zK H; clear H; have hnb112 := av.out; have hnc112 := au.out
                        have ge : wr.cell? ⟨ak, 0, none⟩ = some (.int .i64 ((rd_T74 ad af).f0)) := (blk_cell aj.out 0).trans rfl
                        have gf : wr.cell? ⟨ak, 1, none⟩ = some (.slice aV ((rd_T74 ad af).f1).length aW) := (blk_cell aj.out 1).trans rfl
                        have gg := blk_frozen aj.out 0; have gh := blk_frozen aj.out 1
                        go_wp2
                        repeat (go_quiet (fail); try go_wp2)
                        go_roundg k7
                        case measure => have := bv.out; have := bw.out; have := bP.out; have := db.out; have := cJ.out; have := dQ.out; have := eM.out; omega
                        case rel => exact ⟨(wrap64 (af + 1)), zf, H', ⟨by have := bv.out; have := bw.out; have := bP.out; have := db.out; have := cJ.out; have := dQ.out; have := eM.out; omega⟩, ⟨zk aa⟩, ⟨zb HB⟩⟩
                ·rw [if_neg c71] at H
                 exact absurd H (by simp)
               ·rw [if_neg eZ] at H
                have ec : decide (af < (ad.length : Int)) = false := decide_eq_false eZ
                clear eZ; obtain rfl := Option.some.inj H
                have gi : wr.cell? ⟨ac, 0, none⟩ = some (.slice aq ae.length an) := (blk_cell aa.out 0).trans rfl
                have gj : wr.cell? ⟨ac, 1, none⟩ = some (.int .i64 a0_1) := (blk_cell aa.out 1).trans rfl
                have gl : wr.cell? ⟨ac, 2, none⟩ = some (.slice aw ab.length ao) := (blk_cell aa.out 2).trans rfl
                have gm : wr.cell? ⟨ac, 3, none⟩ = some (.slice az ad.length ap) := (blk_cell aa.out 3).trans rfl
                have gn := blk_frozen aa.out 0; have gp := blk_frozen aa.out 1; have gq := blk_frozen aa.out 2; have gr := blk_frozen aa.out 3
                go_wp2
                repeat (go_quiet (fail); try go_wp2)
                go_ret
                exact ⟨ze, zb HB⟩
end Go.Proofs.Ytmjhbdmicejppaa.Px
