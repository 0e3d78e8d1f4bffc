import Derived.Test.YtmjhbdmicejppaaZePx0
import Derived.Test.YtmjhbdmicejppaaZePx1
namespace Go.Proofs.Ytmjhbdmicejppaa.Px
open Go.RowKit Go.Proofs.YtmjhbdmicejppaaW.PrintWords Go.Proofs.YtmjhbdmicejppaaW.PrintLast Go.Proofs.YtmjhbdmicejppaaW.PrintMore
attribute [local go_sem] max2_int min2_int max_two min_two max_three min_three max_four min_four   -- for this text's walks alone
set_option linter.unusedVariables false
set_option linter.unusedSimpArgs false

mutual
def spec_LoopOk.j0 : Nat → Int → Bool → List Int → Int → List (S69) → List (S74) → Option (Bool)
 | 0, _, _, _, _, _, _ => none
 | k + 1, x3, x39, x257000, x257001, x257002, x257003 => if x39 = true then (some false) else (spec_LoopOk.l0 k x3 (([] : List Int)) 0 x257000 x257001 x257002 x257003)
def spec_LoopOk.l0 : Nat → Int → List Int → Int → List Int → Int → List (S69) → List (S74) → Option (Bool)
 | 0, _, _, _, _, _, _, _ => none
 | k + 1, x3, x4, x5, x257000, x257001, x257002, x257003 => if x5 < x3 then (if 0 ≤ x5 then (if x5 < (x257000.length : Int) then (if (rd x257000 x5) = 0 then (spec_LoopOk.l0 k x3 x4 (wrap64 (x5 + 1)) x257000 x257001 x257002 x257003) else (if x4.length < 17592186044416 then (spec_LoopOk.l0 k x3 (x4 ++ [rd x257000 x5]) (wrap64 (x5 + 1)) x257000 x257001 x257002 x257003) else (none))) else (none)) else (none)) else (spec_LoopOk.l1 k x3 x4 0 x257000 x257001 x257002 x257003)
def spec_LoopOk.l1 : Nat → Int → List Int → Int → List Int → Int → List (S69) → List (S74) → Option (Bool)
 | 0, _, _, _, _, _, _, _ => none
 | k + 1, x3, x4, x6, x257000, x257001, x257002, x257003 => if x6 < (x257002.length : Int) then (if 0 ≤ x6 then ((spec_l01In.f ((rd_T69 x257002 x6).f0) 0 (wrap64 (x3 - 1))).bind fun t269 => (if t269 = true then ((spec_l01In.f ((rd_T69 x257002 x6).f1) 0 40).bind fun t270 => (if t270 = true then (spec_LoopOk.j3 k x3 x4 x6 (decide ((((rd_T69 x257002 x6).f2).length : Int) > ((rd_T69 x257002 x6).f1))) x257000 x257001 x257002 x257003 ((rd_T69 x257002 x6).f0) ((rd_T69 x257002 x6).f1) ((rd_T69 x257002 x6).f2)) else (spec_LoopOk.j3 k x3 x4 x6 true x257000 x257001 x257002 x257003 ((rd_T69 x257002 x6).f0) ((rd_T69 x257002 x6).f1) ((rd_T69 x257002 x6).f2)))) else (spec_LoopOk.j3 k x3 x4 x6 true x257000 x257001 x257002 x257003 ((rd_T69 x257002 x6).f0) ((rd_T69 x257002 x6).f1) ((rd_T69 x257002 x6).f2)))) else (none)) else (spec_LoopOk.l3 k x4 0 x257000 x257001 x257002 x257003)
def spec_LoopOk.j3 : Nat → Int → List Int → Int → Bool → List Int → Int → List (S69) → List (S74) → Int → Int → List Int → Option (Bool)
 | 0, _, _, _, _, _, _, _, _, _, _, _ => none
 | k + 1, x3, x4, x6, x91, x257000, x257001, x257002, x257003, x269000, x269001, x269002 => if x91 = true then (some false) else (spec_LoopOk.l2 k x3 x4 x6 0 x257000 x257001 x257002 x257003 x269000 x269001 x269002)
def spec_LoopOk.l2 : Nat → Int → List Int → Int → Int → List Int → Int → List (S69) → List (S74) → Int → Int → List Int → Option (Bool)
 | 0, _, _, _, _, _, _, _, _, _, _, _ => none
 | k + 1, x3, x4, x6, x8, x257000, x257001, x257002, x257003, x269000, x269001, x269002 => if x8 < x6 then (if 0 ≤ x8 then (if x8 < (x257002.length : Int) then (if ((rd_T69 x257002 x8).f0) = x269000 then (some false) else (spec_LoopOk.l2 k x3 x4 x6 (wrap64 (x8 + 1)) x257000 x257001 x257002 x257003 x269000 x269001 x269002)) else (none)) else (none)) else (if x4.length + x269002.length < 17592186044416 then (spec_LoopOk.l1 k x3 (x4 ++ x269002) (wrap64 (x6 + 1)) x257000 x257001 x257002 x257003) else (none))
def spec_LoopOk.l3 : Nat → List Int → Int → List Int → Int → List (S69) → List (S74) → Option (Bool)
 | 0, _, _, _, _, _, _ => none
 | k + 1, x4, x9, x257000, x257001, x257002, x257003 => if x9 < (x4.length : Int) then (if 0 ≤ x9 then (if (rd x4 x9) < 1 then (some false) else (if x9 ≤ (x4.length : Int) then ((spec_l03Has.f k (x4.take (x9 : Int).toNat) (rd x4 x9)).bind fun t281 => (if t281 = true then (some false) else (spec_LoopOk.l3 k x4 (wrap64 (x9 + 1)) x257000 x257001 x257002 x257003))) else (none))) else (none)) else (spec_LoopOk.l4 k 0 x257000 x257001 x257002 x257003)
def spec_LoopOk.l4 : Nat → Int → List Int → Int → List (S69) → List (S74) → Option (Bool)
 | 0, _, _, _, _, _ => none
 | k + 1, x10, x257000, x257001, x257002, x257003 => if x10 < (x257003.length : Int) then (if 0 ≤ x10 then (if ((rd_T74 x257003 x10).f0) < 1 then (some false) else (spec_LoopOk.l5 k x10 0 x257000 x257001 x257002 x257003 ((rd_T74 x257003 x10).f0) ((rd_T74 x257003 x10).f1))) else (none)) else (some true)
def spec_LoopOk.l5 : Nat → Int → Int → List Int → Int → List (S69) → List (S74) → Int → List Int → Option (Bool)
 | 0, _, _, _, _, _, _, _, _ => none
 | k + 1, x10, x12, x257000, x257001, x257002, x257003, x284000, x284001 => if x12 < x10 then (if 0 ≤ x12 then (if x12 < (x257003.length : Int) then (if ((rd_T74 x257003 x12).f0) = x284000 then (some false) else (spec_LoopOk.l5 k x10 (wrap64 (x12 + 1)) x257000 x257001 x257002 x257003 x284000 x284001)) else (none)) else (none)) else (spec_LoopOk.l6 k x10 0 x257000 x257001 x257002 x257003 x284000 x284001)
def spec_LoopOk.l6 : Nat → Int → Int → List Int → Int → List (S69) → List (S74) → Int → List Int → Option (Bool)
 | 0, _, _, _, _, _, _, _, _ => none
 | k + 1, x10, x13, x257000, x257001, x257002, x257003, x284000, x284001 => if x13 < (x284001.length : Int) then (if 0 ≤ x13 then ((spec_l01In.f (rd x284001 x13) 0 (wrap64 ((x257002.length : Int) - 1))).bind fun t286 => (if t286 = true then (if x13 > 0 then (if 0 ≤ (wrap64 (x13 - 1)) then (if (wrap64 (x13 - 1)) < (x284001.length : Int) then (spec_LoopOk.j9 k x10 x13 (decide ((rd x284001 x13) ≤ (rd x284001 (wrap64 (x13 - 1))))) x257000 x257001 x257002 x257003 x284000 x284001) else (none)) else (none)) else (spec_LoopOk.j9 k x10 x13 false x257000 x257001 x257002 x257003 x284000 x284001)) else (spec_LoopOk.j9 k x10 x13 true x257000 x257001 x257002 x257003 x284000 x284001))) else (none)) else (spec_LoopOk.l4 k (wrap64 (x10 + 1)) x257000 x257001 x257002 x257003)
def spec_LoopOk.j9 : Nat → Int → Int → Bool → List Int → Int → List (S69) → List (S74) → Int → List Int → Option (Bool)
 | 0, _, _, _, _, _, _, _, _, _ => none
 | k + 1, x10, x13, x195, x257000, x257001, x257002, x257003, x284000, x284001 => if x195 = true then (some false) else (spec_LoopOk.l6 k x10 (wrap64 (x13 + 1)) x257000 x257001 x257002 x257003 x284000 x284001)
end
def spec_LoopOk.f (k : Nat) (l0_0 : List Int) (a0_1 : Int) (l0_2 : List (S69)) (l0_3 : List (S74)) : Option (Bool) := (spec_l01In.f (l0_0.length : Int) 2 60).bind fun t257 => (if t257 = true then ((spec_l01In.f a0_1 0 (wrap64 ((l0_0.length : Int) - 1))).bind fun t258 => (if t258 = true then (if (l0_2.length : Int) > 8 then (spec_LoopOk.j0 k (l0_0.length : Int) true l0_0 a0_1 l0_2 l0_3) else (spec_LoopOk.j0 k (l0_0.length : Int) (decide ((l0_3.length : Int) > 60)) l0_0 a0_1 l0_2 l0_3)) else (spec_LoopOk.j0 k (l0_0.length : Int) true l0_0 a0_1 l0_2 l0_3))) else (spec_LoopOk.j0 k (l0_0.length : Int) true l0_0 a0_1 l0_2 l0_3))
set_option maxHeartbeats 8000000 in
set_option maxRecDepth 100000 in
theorem spec_LoopOk.calls (k : Nat) (A0_0 : Option Addr) (c0_0 : Nat) (l0_0 : List Int) (a0_1 : Int) (A0_2 : Option Addr) (c0_2 : Nat) (l0_2 : List (S69)) (A0_3 : Option Addr) (c0_3 : Nat) (l0_3 : List (S74)) (r : Bool) (w : World) (hr0_0 : Kd.C (Kd.int .i64) w A0_0 l0_0.length l0_0) (hc0_0 : l0_0.length ≤ c0_0) (hr0_2 : Kd.C k69 w A0_2 l0_2.length l0_2) (hc0_2 : l0_2.length ≤ c0_2) (hr0_3 : Kd.C k74 w A0_3 l0_3.length l0_3) (hc0_3 : l0_3.length ≤ c0_3) (h : spec_LoopOk.f k l0_0 a0_1 l0_2 l0_3 = some r) :
  Calls Try.prog 23 #[.agg #[.slice A0_0 l0_0.length c0_0, .int .i64 a0_1, .slice A0_2 l0_2.length c0_2, .slice A0_3 l0_3.length c0_3]] w fun e w' => e = .returned (.bool r) ∧ Below w.heap.size w w' := by
 have hu28 := Try.underlying28
 have hu69 := Try.underlying69
 have hu74 := Try.underlying74
 have HR0_0 := Aside0.mk hr0_0
 have HC0_0 := Aside0.mk hc0_0
 clear hr0_0 hc0_0
 have HR0_2 := Aside0.mk hr0_2
 have HC0_2 := Aside0.mk hc0_2
 clear hr0_2 hc0_2
 have HR0_3 := Aside0.mk hr0_3
 have HC0_3 := Aside0.mk hc0_3
 clear hr0_3 hc0_3
 have HB := Aside0.mk (Below.refl w.heap.size w)
 have H : ((spec_l01In.f (l0_0.length : Int) 2 60).bind fun t257 => (if t257 = true then ((spec_l01In.f a0_1 0 (wrap64 ((l0_0.length : Int) - 1))).bind fun t258 => (if t258 = true then (if (l0_2.length : Int) > 8 then (spec_LoopOk.j0 k (l0_0.length : Int) true l0_0 a0_1 l0_2 l0_3) else (spec_LoopOk.j0 k (l0_0.length : Int) (decide ((l0_3.length : Int) > 60)) l0_0 a0_1 l0_2 l0_3)) else (spec_LoopOk.j0 k (l0_0.length : Int) true l0_0 a0_1 l0_2 l0_3))) else (spec_LoopOk.j0 k (l0_0.length : Int) true l0_0 a0_1 l0_2 l0_3))) = some r := h
 clear h
 have HC2 := Aside0.mk H
 clear H
 go_enter Try.func23, Try.ntmps23
 go_upto_region 2 with (first | ((with_reducible refine gate_dst (N := 1) rfl ?_); (try (refine gate_guard (by rfl) ?_; dsimp only)); refine box_event ?hg (N := 1) ?hd (cs := #[.slice A0_0 l0_0.length c0_0, .int .i64 a0_1, .slice A0_2 l0_2.length c0_2, .slice A0_3 l0_3.length c0_3]) (t := 28) ?hr ?_; (case hd => rfl); (case hg => rfl); (case hr => first | (go_simp; done) | (go_simp; rfl)); intro gb256 hg w3 hbox hb; have n0_ := Aside0.mk (below_step (by repeat (first | (with_reducible first | exact HB.out | apply below_alloc | apply pw_below_drewN | apply below_drew1) | exact HB.out)) hb); have n1_ := Aside0.mk (hbox); have n2_ := Aside0.mk ((by rw [hg]; exact (below_size (by repeat (first | (with_reducible first | exact HB.out | apply below_alloc | apply pw_below_drewN | apply below_drew1) | exact HB.out))) : w.heap.size ≤ gb256)); have n3_ := Aside0.mk ((by rw [hg]; exact (below_size (by repeat (first | (with_reducible first | exact HB.out | apply below_alloc | apply pw_below_drewN | apply below_drew1) | exact HB.out))) : w.heap.size ≤ gb256)); clear HB; have HB := n0_; have BK256 := n1_; have GW256 := n2_; have GE256 := n3_; clear n0_ n1_ n2_ n3_; clear hb hbox hg; have hcz4_0 : w3.cell? ⟨gb256, 0, none⟩ = some (.slice A0_0 l0_0.length c0_0) := (blk_cell BK256.out 0).trans rfl; have hcz4_1 : w3.cell? ⟨gb256, 1, none⟩ = some (.int .i64 a0_1) := (blk_cell BK256.out 1).trans rfl; have hcz4_2 : w3.cell? ⟨gb256, 2, none⟩ = some (.slice A0_2 l0_2.length c0_2) := (blk_cell BK256.out 2).trans rfl; have hcz4_3 : w3.cell? ⟨gb256, 3, none⟩ = some (.slice A0_3 l0_3.length c0_3) := (blk_cell BK256.out 3).trans rfl; have hfz4_0 := blk_frozen BK256.out 0; have hfz4_1 := blk_frozen BK256.out 1; have hfz4_2 := blk_frozen BK256.out 2; have hfz4_3 := blk_frozen BK256.out 3))
 repeat (go_quiet (first | ((with_reducible refine gate_dst (N := 1) rfl ?_); (try (refine gate_guard (by rfl) ?_; dsimp only)); refine box_event ?hg (N := 1) ?hd (cs := #[.slice A0_0 l0_0.length c0_0, .int .i64 a0_1, .slice A0_2 l0_2.length c0_2, .slice A0_3 l0_3.length c0_3]) (t := 28) ?hr ?_; (case hd => rfl); (case hg => rfl); (case hr => first | (go_simp; done) | (go_simp; rfl)); intro gb256 hg w3 hbox hb; have n0_ := Aside0.mk (below_step (by repeat (first | (with_reducible first | exact HB.out | apply below_alloc | apply pw_below_drewN | apply below_drew1) | exact HB.out)) hb); have n1_ := Aside0.mk (hbox); have n2_ := Aside0.mk ((by rw [hg]; exact (below_size (by repeat (first | (with_reducible first | exact HB.out | apply below_alloc | apply pw_below_drewN | apply below_drew1) | exact HB.out))) : w.heap.size ≤ gb256)); have n3_ := Aside0.mk ((by rw [hg]; exact (below_size (by repeat (first | (with_reducible first | exact HB.out | apply below_alloc | apply pw_below_drewN | apply below_drew1) | exact HB.out))) : w.heap.size ≤ gb256)); clear HB; have HB := n0_; have BK256 := n1_; have GW256 := n2_; have GE256 := n3_; clear n0_ n1_ n2_ n3_; clear hb hbox hg; have hcz4_0 : w3.cell? ⟨gb256, 0, none⟩ = some (.slice A0_0 l0_0.length c0_0) := (blk_cell BK256.out 0).trans rfl; have hcz4_1 : w3.cell? ⟨gb256, 1, none⟩ = some (.int .i64 a0_1) := (blk_cell BK256.out 1).trans rfl; have hcz4_2 : w3.cell? ⟨gb256, 2, none⟩ = some (.slice A0_2 l0_2.length c0_2) := (blk_cell BK256.out 2).trans rfl; have hcz4_3 : w3.cell? ⟨gb256, 3, none⟩ = some (.slice A0_3 l0_3.length c0_3) := (blk_cell BK256.out 3).trans rfl; have hfz4_0 := blk_frozen BK256.out 0; have hfz4_1 := blk_frozen BK256.out 1; have hfz4_2 := blk_frozen BK256.out 2; have hfz4_3 := blk_frozen BK256.out 3)); go_upto_region 2 with (first | ((with_reducible refine gate_dst (N := 1) rfl ?_); (try (refine gate_guard (by rfl) ?_; dsimp only)); refine box_event ?hg (N := 1) ?hd (cs := #[.slice A0_0 l0_0.length c0_0, .int .i64 a0_1, .slice A0_2 l0_2.length c0_2, .slice A0_3 l0_3.length c0_3]) (t := 28) ?hr ?_; (case hd => rfl); (case hg => rfl); (case hr => first | (go_simp; done) | (go_simp; rfl)); intro gb256 hg w3 hbox hb; have n0_ := Aside0.mk (below_step (by repeat (first | (with_reducible first | exact HB.out | apply below_alloc | apply pw_below_drewN | apply below_drew1) | exact HB.out)) hb); have n1_ := Aside0.mk (hbox); have n2_ := Aside0.mk ((by rw [hg]; exact (below_size (by repeat (first | (with_reducible first | exact HB.out | apply below_alloc | apply pw_below_drewN | apply below_drew1) | exact HB.out))) : w.heap.size ≤ gb256)); have n3_ := Aside0.mk ((by rw [hg]; exact (below_size (by repeat (first | (with_reducible first | exact HB.out | apply below_alloc | apply pw_below_drewN | apply below_drew1) | exact HB.out))) : w.heap.size ≤ gb256)); clear HB; have HB := n0_; have BK256 := n1_; have GW256 := n2_; have GE256 := n3_; clear n0_ n1_ n2_ n3_; clear hb hbox hg; have hcz4_0 : w3.cell? ⟨gb256, 0, none⟩ = some (.slice A0_0 l0_0.length c0_0) := (blk_cell BK256.out 0).trans rfl; have hcz4_1 : w3.cell? ⟨gb256, 1, none⟩ = some (.int .i64 a0_1) := (blk_cell BK256.out 1).trans rfl; have hcz4_2 : w3.cell? ⟨gb256, 2, none⟩ = some (.slice A0_2 l0_2.length c0_2) := (blk_cell BK256.out 2).trans rfl; have hcz4_3 : w3.cell? ⟨gb256, 3, none⟩ = some (.slice A0_3 l0_3.length c0_3) := (blk_cell BK256.out 3).trans rfl; have hfz4_0 := blk_frozen BK256.out 0; have hfz4_1 := blk_frozen BK256.out 1; have hfz4_2 := blk_frozen BK256.out 2; have hfz4_3 := blk_frozen BK256.out 3)))
 (try simp only [Act.put, List.setIfInBounds_toArray, List.set_cons_zero, List.set_cons_succ])
 go_cut [39] (fun v39 wc => ∃ (kq : Nat) (x39_1 : Bool), v39 = .bool x39_1 ∧ Aside0 (spec_LoopOk.j0 kq (l0_0.length : Int) x39_1 l0_0 a0_1 l0_2 l0_3 = some r) ∧ Aside0 (kq ≤ k) ∧ Aside0 (wc.heap[gb256]? = some (.cells #[(.slice A0_0 l0_0.length c0_0), .int .i64 a0_1, (.slice A0_2 l0_2.length c0_2), (.slice A0_3 l0_3.length c0_3)] 28 (0, 0))) ∧ Aside0 (Below w.heap.size w wc))
 case first =>
  have H := HC2.out
  clear HC2
  replace H := Option.bind_eq_some_iff.mp H
  obtain ⟨t257, A50, H⟩ := H
  replace H : (if t257 = true then ((spec_l01In.f a0_1 0 (wrap64 ((l0_0.length : Int) - 1))).bind fun t258 => (if t258 = true then (if (l0_2.length : Int) > 8 then (spec_LoopOk.j0 k (l0_0.length : Int) true l0_0 a0_1 l0_2 l0_3) else (spec_LoopOk.j0 k (l0_0.length : Int) (decide ((l0_3.length : Int) > 60)) l0_0 a0_1 l0_2 l0_3)) else (spec_LoopOk.j0 k (l0_0.length : Int) true l0_0 a0_1 l0_2 l0_3))) else (spec_LoopOk.j0 k (l0_0.length : Int) true l0_0 a0_1 l0_2 l0_3)) = some r := H
  have A5 := Aside0.mk A50
  clear A50
  by_cases c6 : t257 = true
  ·subst c6
   have H1 : ((spec_l01In.f a0_1 0 (wrap64 ((l0_0.length : Int) - 1))).bind fun t258 => (if t258 = true then (if (l0_2.length : Int) > 8 then (spec_LoopOk.j0 k (l0_0.length : Int) true l0_0 a0_1 l0_2 l0_3) else (spec_LoopOk.j0 k (l0_0.length : Int) (decide ((l0_3.length : Int) > 60)) l0_0 a0_1 l0_2 l0_3)) else (spec_LoopOk.j0 k (l0_0.length : Int) true l0_0 a0_1 l0_2 l0_3))) = some r := by rw [if_pos rfl] at H; exact H
   clear H
   have H := H1
   clear H1
   replace H := Option.bind_eq_some_iff.mp H
   obtain ⟨t258, A70, H⟩ := H
   replace H : (if t258 = true then (if (l0_2.length : Int) > 8 then (spec_LoopOk.j0 k (l0_0.length : Int) true l0_0 a0_1 l0_2 l0_3) else (spec_LoopOk.j0 k (l0_0.length : Int) (decide ((l0_3.length : Int) > 60)) l0_0 a0_1 l0_2 l0_3)) else (spec_LoopOk.j0 k (l0_0.length : Int) true l0_0 a0_1 l0_2 l0_3)) = some r := H
   have A7 := Aside0.mk A70
   clear A70
   by_cases c8 : t258 = true
   ·subst c8
    have H1 : (if (l0_2.length : Int) > 8 then (spec_LoopOk.j0 k (l0_0.length : Int) true l0_0 a0_1 l0_2 l0_3) else (spec_LoopOk.j0 k (l0_0.length : Int) (decide ((l0_3.length : Int) > 60)) l0_0 a0_1 l0_2 l0_3)) = some r := by rw [if_pos rfl] at H; exact H
    clear H
    have H := H1
    clear H1
    by_cases c9 : (l0_2.length : Int) > 8
    ·rw [if_pos c9] at H
     have c9b0 : decide (8 < (l0_2.length : Int)) = true := decide_eq_true c9
     have c9b1 : decide (8 < l0_2.length) = true := decide_eq_true (by omega)
     clear c9
     (first | rw [c9b0] | (simp only [i64_w, i32_w]; rw [c9b0]) | skip)
     have H' := Aside0.mk H
     clear H
     go_wp2_with (first | (go_at_call 62; (with_reducible refine (spec_l01In.calls (l0_0.length : Int) 2 60 true _ A5.out).mono ?_); rintro e w' ⟨rfl, ⟨nd, rfl⟩⟩; (try first | exact ⟨rfl, _, World.drewN_drewN _ _ _⟩ | exact ⟨rfl, _, Eq.trans (World.drewN_drewN _ _ _) (congrArg (World.drewN _) (Nat.add_assoc _ _ _))⟩); have hcz10_0 : w3.cell? ⟨gb256, 0, none⟩ = some (.slice A0_0 l0_0.length c0_0) := (blk_cell BK256.out 0).trans rfl; have hcz10_1 : w3.cell? ⟨gb256, 1, none⟩ = some (.int .i64 a0_1) := (blk_cell BK256.out 1).trans rfl; have hcz10_2 : w3.cell? ⟨gb256, 2, none⟩ = some (.slice A0_2 l0_2.length c0_2) := (blk_cell BK256.out 2).trans rfl; have hcz10_3 : w3.cell? ⟨gb256, 3, none⟩ = some (.slice A0_3 l0_3.length c0_3) := (blk_cell BK256.out 3).trans rfl; have hfz10_0 := blk_frozen BK256.out 0; have hfz10_1 := blk_frozen BK256.out 1; have hfz10_2 := blk_frozen BK256.out 2; have hfz10_3 := blk_frozen BK256.out 3) | (go_at_call 62; (with_reducible refine (spec_l01In.calls a0_1 0 (wrap64 ((l0_0.length : Int) - 1)) true _ A7.out).mono ?_); rintro e w' ⟨rfl, ⟨nd, rfl⟩⟩; (try first | exact ⟨rfl, _, World.drewN_drewN _ _ _⟩ | exact ⟨rfl, _, Eq.trans (World.drewN_drewN _ _ _) (congrArg (World.drewN _) (Nat.add_assoc _ _ _))⟩)))
     repeat (go_quiet (first | (go_at_call 62; (with_reducible refine (spec_l01In.calls (l0_0.length : Int) 2 60 true _ A5.out).mono ?_); rintro e w' ⟨rfl, ⟨nd, rfl⟩⟩; (try first | exact ⟨rfl, _, World.drewN_drewN _ _ _⟩ | exact ⟨rfl, _, Eq.trans (World.drewN_drewN _ _ _) (congrArg (World.drewN _) (Nat.add_assoc _ _ _))⟩); have hcz10_0 : w3.cell? ⟨gb256, 0, none⟩ = some (.slice A0_0 l0_0.length c0_0) := (blk_cell BK256.out 0).trans rfl; have hcz10_1 : w3.cell? ⟨gb256, 1, none⟩ = some (.int .i64 a0_1) := (blk_cell BK256.out 1).trans rfl; have hcz10_2 : w3.cell? ⟨gb256, 2, none⟩ = some (.slice A0_2 l0_2.length c0_2) := (blk_cell BK256.out 2).trans rfl; have hcz10_3 : w3.cell? ⟨gb256, 3, none⟩ = some (.slice A0_3 l0_3.length c0_3) := (blk_cell BK256.out 3).trans rfl; have hfz10_0 := blk_frozen BK256.out 0; have hfz10_1 := blk_frozen BK256.out 1; have hfz10_2 := blk_frozen BK256.out 2; have hfz10_3 := blk_frozen BK256.out 3) | (go_at_call 62; (with_reducible refine (spec_l01In.calls a0_1 0 (wrap64 ((l0_0.length : Int) - 1)) true _ A7.out).mono ?_); rintro e w' ⟨rfl, ⟨nd, rfl⟩⟩; (try first | exact ⟨rfl, _, World.drewN_drewN _ _ _⟩ | exact ⟨rfl, _, Eq.trans (World.drewN_drewN _ _ _) (congrArg (World.drewN _) (Nat.add_assoc _ _ _))⟩))); try go_wp2_with (first | (go_at_call 62; (with_reducible refine (spec_l01In.calls (l0_0.length : Int) 2 60 true _ A5.out).mono ?_); rintro e w' ⟨rfl, ⟨nd, rfl⟩⟩; (try first | exact ⟨rfl, _, World.drewN_drewN _ _ _⟩ | exact ⟨rfl, _, Eq.trans (World.drewN_drewN _ _ _) (congrArg (World.drewN _) (Nat.add_assoc _ _ _))⟩); have hcz10_0 : w3.cell? ⟨gb256, 0, none⟩ = some (.slice A0_0 l0_0.length c0_0) := (blk_cell BK256.out 0).trans rfl; have hcz10_1 : w3.cell? ⟨gb256, 1, none⟩ = some (.int .i64 a0_1) := (blk_cell BK256.out 1).trans rfl; have hcz10_2 : w3.cell? ⟨gb256, 2, none⟩ = some (.slice A0_2 l0_2.length c0_2) := (blk_cell BK256.out 2).trans rfl; have hcz10_3 : w3.cell? ⟨gb256, 3, none⟩ = some (.slice A0_3 l0_3.length c0_3) := (blk_cell BK256.out 3).trans rfl; have hfz10_0 := blk_frozen BK256.out 0; have hfz10_1 := blk_frozen BK256.out 1; have hfz10_2 := blk_frozen BK256.out 2; have hfz10_3 := blk_frozen BK256.out 3) | (go_at_call 62; (with_reducible refine (spec_l01In.calls a0_1 0 (wrap64 ((l0_0.length : Int) - 1)) true _ A7.out).mono ?_); rintro e w' ⟨rfl, ⟨nd, rfl⟩⟩; (try first | exact ⟨rfl, _, World.drewN_drewN _ _ _⟩ | exact ⟨rfl, _, Eq.trans (World.drewN_drewN _ _ _) (congrArg (World.drewN _) (Nat.add_assoc _ _ _))⟩))))
     go_meet
     case rel => exact ⟨_, (true), (by first | rfl | (simp; done) | (simp [*]; done)), H', ⟨by first | omega | exact Nat.le_refl _⟩, ⟨by (with_reducible repeat (first | refine blk_drewN ?_ _ | refine blk_drew ?_ | refine blk_alloc ?_ _)); exact BK256.out⟩, ⟨by repeat (first | (with_reducible first | exact HB.out | apply below_alloc | apply pw_below_drewN | apply below_drew1 | refine below_set ?_ GE256.out) | exact HB.out)⟩⟩
    ·rw [if_neg c9] at H
     have c9b0 : decide (8 < (l0_2.length : Int)) = false := decide_eq_false c9
     have c9b1 : decide (8 < l0_2.length) = false := decide_eq_false (by omega)
     clear c9
     (first | rw [c9b0] | (simp only [i64_w, i32_w]; rw [c9b0]) | skip)
     have H' := Aside0.mk H
     clear H
     go_wp2_with (first | (go_at_call 62; (with_reducible refine (spec_l01In.calls (l0_0.length : Int) 2 60 true _ A5.out).mono ?_); rintro e w' ⟨rfl, ⟨nd, rfl⟩⟩; (try first | exact ⟨rfl, _, World.drewN_drewN _ _ _⟩ | exact ⟨rfl, _, Eq.trans (World.drewN_drewN _ _ _) (congrArg (World.drewN _) (Nat.add_assoc _ _ _))⟩); have hcz11_0 : w3.cell? ⟨gb256, 0, none⟩ = some (.slice A0_0 l0_0.length c0_0) := (blk_cell BK256.out 0).trans rfl; have hcz11_1 : w3.cell? ⟨gb256, 1, none⟩ = some (.int .i64 a0_1) := (blk_cell BK256.out 1).trans rfl; have hcz11_2 : w3.cell? ⟨gb256, 2, none⟩ = some (.slice A0_2 l0_2.length c0_2) := (blk_cell BK256.out 2).trans rfl; have hcz11_3 : w3.cell? ⟨gb256, 3, none⟩ = some (.slice A0_3 l0_3.length c0_3) := (blk_cell BK256.out 3).trans rfl; have hfz11_0 := blk_frozen BK256.out 0; have hfz11_1 := blk_frozen BK256.out 1; have hfz11_2 := blk_frozen BK256.out 2; have hfz11_3 := blk_frozen BK256.out 3) | (go_at_call 62; (with_reducible refine (spec_l01In.calls a0_1 0 (wrap64 ((l0_0.length : Int) - 1)) true _ A7.out).mono ?_); rintro e w' ⟨rfl, ⟨nd, rfl⟩⟩; (try first | exact ⟨rfl, _, World.drewN_drewN _ _ _⟩ | exact ⟨rfl, _, Eq.trans (World.drewN_drewN _ _ _) (congrArg (World.drewN _) (Nat.add_assoc _ _ _))⟩)))
     repeat (go_quiet (first | (go_at_call 62; (with_reducible refine (spec_l01In.calls (l0_0.length : Int) 2 60 true _ A5.out).mono ?_); rintro e w' ⟨rfl, ⟨nd, rfl⟩⟩; (try first | exact ⟨rfl, _, World.drewN_drewN _ _ _⟩ | exact ⟨rfl, _, Eq.trans (World.drewN_drewN _ _ _) (congrArg (World.drewN _) (Nat.add_assoc _ _ _))⟩); have hcz11_0 : w3.cell? ⟨gb256, 0, none⟩ = some (.slice A0_0 l0_0.length c0_0) := (blk_cell BK256.out 0).trans rfl; have hcz11_1 : w3.cell? ⟨gb256, 1, none⟩ = some (.int .i64 a0_1) := (blk_cell BK256.out 1).trans rfl; have hcz11_2 : w3.cell? ⟨gb256, 2, none⟩ = some (.slice A0_2 l0_2.length c0_2) := (blk_cell BK256.out 2).trans rfl; have hcz11_3 : w3.cell? ⟨gb256, 3, none⟩ = some (.slice A0_3 l0_3.length c0_3) := (blk_cell BK256.out 3).trans rfl; have hfz11_0 := blk_frozen BK256.out 0; have hfz11_1 := blk_frozen BK256.out 1; have hfz11_2 := blk_frozen BK256.out 2; have hfz11_3 := blk_frozen BK256.out 3) | (go_at_call 62; (with_reducible refine (spec_l01In.calls a0_1 0 (wrap64 ((l0_0.length : Int) - 1)) true _ A7.out).mono ?_); rintro e w' ⟨rfl, ⟨nd, rfl⟩⟩; (try first | exact ⟨rfl, _, World.drewN_drewN _ _ _⟩ | exact ⟨rfl, _, Eq.trans (World.drewN_drewN _ _ _) (congrArg (World.drewN _) (Nat.add_assoc _ _ _))⟩))); try go_wp2_with (first | (go_at_call 62; (with_reducible refine (spec_l01In.calls (l0_0.length : Int) 2 60 true _ A5.out).mono ?_); rintro e w' ⟨rfl, ⟨nd, rfl⟩⟩; (try first | exact ⟨rfl, _, World.drewN_drewN _ _ _⟩ | exact ⟨rfl, _, Eq.trans (World.drewN_drewN _ _ _) (congrArg (World.drewN _) (Nat.add_assoc _ _ _))⟩); have hcz11_0 : w3.cell? ⟨gb256, 0, none⟩ = some (.slice A0_0 l0_0.length c0_0) := (blk_cell BK256.out 0).trans rfl; have hcz11_1 : w3.cell? ⟨gb256, 1, none⟩ = some (.int .i64 a0_1) := (blk_cell BK256.out 1).trans rfl; have hcz11_2 : w3.cell? ⟨gb256, 2, none⟩ = some (.slice A0_2 l0_2.length c0_2) := (blk_cell BK256.out 2).trans rfl; have hcz11_3 : w3.cell? ⟨gb256, 3, none⟩ = some (.slice A0_3 l0_3.length c0_3) := (blk_cell BK256.out 3).trans rfl; have hfz11_0 := blk_frozen BK256.out 0; have hfz11_1 := blk_frozen BK256.out 1; have hfz11_2 := blk_frozen BK256.out 2; have hfz11_3 := blk_frozen BK256.out 3) | (go_at_call 62; (with_reducible refine (spec_l01In.calls a0_1 0 (wrap64 ((l0_0.length : Int) - 1)) true _ A7.out).mono ?_); rintro e w' ⟨rfl, ⟨nd, rfl⟩⟩; (try first | exact ⟨rfl, _, World.drewN_drewN _ _ _⟩ | exact ⟨rfl, _, Eq.trans (World.drewN_drewN _ _ _) (congrArg (World.drewN _) (Nat.add_assoc _ _ _))⟩))))
     go_meet
     case rel => exact ⟨_, (decide ((l0_3.length : Int) > 60)), (by first | rfl | (simp; done) | (simp [*]; done)), H', ⟨by first | omega | exact Nat.le_refl _⟩, ⟨by (with_reducible repeat (first | refine blk_drewN ?_ _ | refine blk_drew ?_ | refine blk_alloc ?_ _)); exact BK256.out⟩, ⟨by repeat (first | (with_reducible first | exact HB.out | apply below_alloc | apply pw_below_drewN | apply below_drew1 | refine below_set ?_ GE256.out) | exact HB.out)⟩⟩
   ·replace c8 := Bool.eq_false_iff.mpr c8
    subst c8
    have H1 : (spec_LoopOk.j0 k (l0_0.length : Int) true l0_0 a0_1 l0_2 l0_3) = some r := by rw [if_neg (show ¬ (false = true) by decide)] at H; exact H
    clear H
    have H := H1
    clear H1
    have H' := Aside0.mk H
    clear H
    go_wp2_with (first | (go_at_call 62; (with_reducible refine (spec_l01In.calls (l0_0.length : Int) 2 60 true _ A5.out).mono ?_); rintro e w' ⟨rfl, ⟨nd, rfl⟩⟩; (try first | exact ⟨rfl, _, World.drewN_drewN _ _ _⟩ | exact ⟨rfl, _, Eq.trans (World.drewN_drewN _ _ _) (congrArg (World.drewN _) (Nat.add_assoc _ _ _))⟩); have hcz12_0 : w3.cell? ⟨gb256, 0, none⟩ = some (.slice A0_0 l0_0.length c0_0) := (blk_cell BK256.out 0).trans rfl; have hcz12_1 : w3.cell? ⟨gb256, 1, none⟩ = some (.int .i64 a0_1) := (blk_cell BK256.out 1).trans rfl; have hcz12_2 : w3.cell? ⟨gb256, 2, none⟩ = some (.slice A0_2 l0_2.length c0_2) := (blk_cell BK256.out 2).trans rfl; have hcz12_3 : w3.cell? ⟨gb256, 3, none⟩ = some (.slice A0_3 l0_3.length c0_3) := (blk_cell BK256.out 3).trans rfl; have hfz12_0 := blk_frozen BK256.out 0; have hfz12_1 := blk_frozen BK256.out 1; have hfz12_2 := blk_frozen BK256.out 2; have hfz12_3 := blk_frozen BK256.out 3) | (go_at_call 62; (with_reducible refine (spec_l01In.calls a0_1 0 (wrap64 ((l0_0.length : Int) - 1)) false _ A7.out).mono ?_); rintro e w' ⟨rfl, ⟨nd, rfl⟩⟩; (try first | exact ⟨rfl, _, World.drewN_drewN _ _ _⟩ | exact ⟨rfl, _, Eq.trans (World.drewN_drewN _ _ _) (congrArg (World.drewN _) (Nat.add_assoc _ _ _))⟩)))
    repeat (go_quiet (first | (go_at_call 62; (with_reducible refine (spec_l01In.calls (l0_0.length : Int) 2 60 true _ A5.out).mono ?_); rintro e w' ⟨rfl, ⟨nd, rfl⟩⟩; (try first | exact ⟨rfl, _, World.drewN_drewN _ _ _⟩ | exact ⟨rfl, _, Eq.trans (World.drewN_drewN _ _ _) (congrArg (World.drewN _) (Nat.add_assoc _ _ _))⟩); have hcz12_0 : w3.cell? ⟨gb256, 0, none⟩ = some (.slice A0_0 l0_0.length c0_0) := (blk_cell BK256.out 0).trans rfl; have hcz12_1 : w3.cell? ⟨gb256, 1, none⟩ = some (.int .i64 a0_1) := (blk_cell BK256.out 1).trans rfl; have hcz12_2 : w3.cell? ⟨gb256, 2, none⟩ = some (.slice A0_2 l0_2.length c0_2) := (blk_cell BK256.out 2).trans rfl; have hcz12_3 : w3.cell? ⟨gb256, 3, none⟩ = some (.slice A0_3 l0_3.length c0_3) := (blk_cell BK256.out 3).trans rfl; have hfz12_0 := blk_frozen BK256.out 0; have hfz12_1 := blk_frozen BK256.out 1; have hfz12_2 := blk_frozen BK256.out 2; have hfz12_3 := blk_frozen BK256.out 3) | (go_at_call 62; (with_reducible refine (spec_l01In.calls a0_1 0 (wrap64 ((l0_0.length : Int) - 1)) false _ A7.out).mono ?_); rintro e w' ⟨rfl, ⟨nd, rfl⟩⟩; (try first | exact ⟨rfl, _, World.drewN_drewN _ _ _⟩ | exact ⟨rfl, _, Eq.trans (World.drewN_drewN _ _ _) (congrArg (World.drewN _) (Nat.add_assoc _ _ _))⟩))); try go_wp2_with (first | (go_at_call 62; (with_reducible refine (spec_l01In.calls (l0_0.length : Int) 2 60 true _ A5.out).mono ?_); rintro e w' ⟨rfl, ⟨nd, rfl⟩⟩; (try first | exact ⟨rfl, _, World.drewN_drewN _ _ _⟩ | exact ⟨rfl, _, Eq.trans (World.drewN_drewN _ _ _) (congrArg (World.drewN _) (Nat.add_assoc _ _ _))⟩); have hcz12_0 : w3.cell? ⟨gb256, 0, none⟩ = some (.slice A0_0 l0_0.length c0_0) := (blk_cell BK256.out 0).trans rfl; have hcz12_1 : w3.cell? ⟨gb256, 1, none⟩ = some (.int .i64 a0_1) := (blk_cell BK256.out 1).trans rfl; have hcz12_2 : w3.cell? ⟨gb256, 2, none⟩ = some (.slice A0_2 l0_2.length c0_2) := (blk_cell BK256.out 2).trans rfl; have hcz12_3 : w3.cell? ⟨gb256, 3, none⟩ = some (.slice A0_3 l0_3.length c0_3) := (blk_cell BK256.out 3).trans rfl; have hfz12_0 := blk_frozen BK256.out 0; have hfz12_1 := blk_frozen BK256.out 1; have hfz12_2 := blk_frozen BK256.out 2; have hfz12_3 := blk_frozen BK256.out 3) | (go_at_call 62; (with_reducible refine (spec_l01In.calls a0_1 0 (wrap64 ((l0_0.length : Int) - 1)) false _ A7.out).mono ?_); rintro e w' ⟨rfl, ⟨nd, rfl⟩⟩; (try first | exact ⟨rfl, _, World.drewN_drewN _ _ _⟩ | exact ⟨rfl, _, Eq.trans (World.drewN_drewN _ _ _) (congrArg (World.drewN _) (Nat.add_assoc _ _ _))⟩))))
    go_meet
    case rel => exact ⟨_, (true), (by first | rfl | (simp; done) | (simp [*]; done)), H', ⟨by first | omega | exact Nat.le_refl _⟩, ⟨by (with_reducible repeat (first | refine blk_drewN ?_ _ | refine blk_drew ?_ | refine blk_alloc ?_ _)); exact BK256.out⟩, ⟨by repeat (first | (with_reducible first | exact HB.out | apply below_alloc | apply pw_below_drewN | apply below_drew1 | refine below_set ?_ GE256.out) | exact HB.out)⟩⟩
  ·replace c6 := Bool.eq_false_iff.mpr c6
   subst c6
   have H1 : (spec_LoopOk.j0 k (l0_0.length : Int) true l0_0 a0_1 l0_2 l0_3) = some r := by rw [if_neg (show ¬ (false = true) by decide)] at H; exact H
   clear H
   have H := H1
   clear H1
   have H' := Aside0.mk H
   clear H
   go_wp2_with (first | (go_at_call 62; (with_reducible refine (spec_l01In.calls (l0_0.length : Int) 2 60 false _ A5.out).mono ?_); rintro e w' ⟨rfl, ⟨nd, rfl⟩⟩; (try first | exact ⟨rfl, _, World.drewN_drewN _ _ _⟩ | exact ⟨rfl, _, Eq.trans (World.drewN_drewN _ _ _) (congrArg (World.drewN _) (Nat.add_assoc _ _ _))⟩)))
   repeat (go_quiet (first | (go_at_call 62; (with_reducible refine (spec_l01In.calls (l0_0.length : Int) 2 60 false _ A5.out).mono ?_); rintro e w' ⟨rfl, ⟨nd, rfl⟩⟩; (try first | exact ⟨rfl, _, World.drewN_drewN _ _ _⟩ | exact ⟨rfl, _, Eq.trans (World.drewN_drewN _ _ _) (congrArg (World.drewN _) (Nat.add_assoc _ _ _))⟩))); try go_wp2_with (first | (go_at_call 62; (with_reducible refine (spec_l01In.calls (l0_0.length : Int) 2 60 false _ A5.out).mono ?_); rintro e w' ⟨rfl, ⟨nd, rfl⟩⟩; (try first | exact ⟨rfl, _, World.drewN_drewN _ _ _⟩ | exact ⟨rfl, _, Eq.trans (World.drewN_drewN _ _ _) (congrArg (World.drewN _) (Nat.add_assoc _ _ _))⟩))))
   go_meet
   case rel => exact ⟨_, (true), (by first | rfl | (simp; done) | (simp [*]; done)), H', ⟨by first | omega | exact Nat.le_refl _⟩, ⟨by (with_reducible repeat (first | refine blk_drewN ?_ _ | refine blk_drew ?_ | refine blk_alloc ?_ _)); exact BK256.out⟩, ⟨by repeat (first | (with_reducible first | exact HB.out | apply below_alloc | apply pw_below_drewN | apply below_drew1 | refine below_set ?_ GE256.out) | exact HB.out)⟩⟩
 case rest =>
  clear HC2
  try clear c2
  try clear p2
  try clear c6
  try clear p6
  try clear c8
  try clear c9
  try clear c9b0
  try clear c9b1
  try clear hcz10_0
  try clear hcz10_1
  try clear hcz10_2
  try clear hcz10_3
  try clear hcz11_0
  try clear hcz11_1
  try clear hcz11_2
  try clear hcz11_3
  try clear hcz12_0
  try clear hcz12_1
  try clear hcz12_2
  try clear hcz12_3
  try clear hcz4_0
  try clear hcz4_1
  try clear hcz4_2
  try clear hcz4_3
  try clear hfz10_0
  try clear hfz10_1
  try clear hfz10_2
  try clear hfz10_3
  try clear hfz11_0
  try clear hfz11_1
  try clear hfz11_2
  try clear hfz11_3
  try clear hfz12_0
  try clear hfz12_1
  try clear hfz12_2
  try clear hfz12_3
  try clear hfz4_0
  try clear hfz4_1
  try clear hfz4_2
  try clear hfz4_3
  obtain ⟨kq, x39_1, rfl, HA, HJ1, BK256, HB⟩ := hcut
  cases kq with
  | zero => exact absurd HA.out (by simp [spec_LoopOk.j0])
  | succ kj1 =>
   have H := HA.out
   clear HA
   simp only [spec_LoopOk.j0] at H
   by_cases c13 : x39_1 = true
   ·subst c13
    have H1 : (some false) = some r := by rw [if_pos rfl] at H; exact H
    clear H
    have H := H1
    clear H1
    obtain rfl := Option.some.inj H
    go_wp2
    repeat (go_quiet (fail); try go_wp2)
    go_ret
    exact ⟨by first | rfl | (simp [errW_none, errW_some] <;> rfl) | (simp [*, errW_none, errW_some] <;> rfl), by repeat (first | (with_reducible first | exact HB.out | apply below_alloc | apply pw_below_drewN | apply below_drew1 | refine below_set ?_ GE256.out) | exact HB.out)⟩
   ·replace c13 := Bool.eq_false_iff.mpr c13
    subst c13
    have H1 : (spec_LoopOk.l0 kj1 (l0_0.length : Int) (([] : List Int)) 0 l0_0 a0_1 l0_2 l0_3) = some r := by rw [if_neg (show ¬ (false = true) by decide)] at H; exact H
    clear H
    have H := H1
    clear H1
    obtain ⟨y259, hy259⟩ : ∃ y_ : List Int, y_ = (([] : List Int)) := ⟨_, rfl⟩
    replace H : (spec_LoopOk.l0 kj1 (l0_0.length : Int) y259 0 l0_0 a0_1 l0_2 l0_3) = some r := by first | (rw [hy259]; with_reducible exact H) | (have H2_ := (Option.bind_some _ _).symm.trans H; rw [hy259]; with_reducible exact H2_) | (have H2_ := (Option.bind_some _ _).symm.trans H; with_reducible exact H2_) | with_reducible exact H | (rw [hy259]; exact H) | exact H
    have Ny259 := Aside0.mk hy259
    clear hy259
    have H' := Aside0.mk H
    clear H
    go_wp2_with (first | ((with_reducible refine gate_dst (N := 40) rfl ?_); (try (refine gate_guard (by rfl) ?_; dsimp only)); refine Kd.R_lit (Kd.int .i64) _ 3 ?hg (N := 40) ?hd (xs := ([] : List Int)) (inner := []) (ok := fun _ => True) (okp := fun _ => True) ?hr ?hp (fun _ hk => hk) trivial (Below.refl _ _) (Nat.le_refl _) (by simp) ?_; (case hd => rfl); (case hg => rfl); (case hr => first | (go_simp; done) | (go_simp; rfl)); (case hp => exact (Reps.none _ _)); intro v260 w14 ho15 hb hg_ hnew_; clear hg_ hnew_; (first | rw [← Ny259.out] at ho15 | (simp only [Int.reduceToNat] at ho15; rw [← Ny259.out] at ho15)); have n0_ := Aside0.mk (Kd.R_lower ho15 (below_size (by repeat (first | (with_reducible first | exact HB.out | apply below_alloc | apply pw_below_drewN | apply below_drew1 | refine below_set ?_ GE256.out) | exact HB.out)))); have n1_ := Aside0.mk (blk_below (g := gb256) (o := .cells #[.slice A0_0 l0_0.length c0_0, .int .i64 a0_1, .slice A0_2 l0_2.length c0_2, .slice A0_3 l0_3.length c0_3] 28 (0, 0)) (by (with_reducible repeat (first | refine blk_drewN ?_ _ | refine blk_drew ?_ | refine blk_alloc ?_ _)); exact BK256.out) hb); have n2_ := Aside0.mk (below_step (by repeat (first | (with_reducible first | exact HB.out | apply below_alloc | apply pw_below_drewN | apply below_drew1 | refine below_set ?_ GE256.out) | exact HB.out)) hb); clear BK256; clear HB; have HO261 := n0_; have BK256 := n1_; have HB := n2_; clear n0_ n1_ n2_; clear hb ho15))
    repeat (go_quiet (first | ((with_reducible refine gate_dst (N := 40) rfl ?_); (try (refine gate_guard (by rfl) ?_; dsimp only)); refine Kd.R_lit (Kd.int .i64) _ 3 ?hg (N := 40) ?hd (xs := ([] : List Int)) (inner := []) (ok := fun _ => True) (okp := fun _ => True) ?hr ?hp (fun _ hk => hk) trivial (Below.refl _ _) (Nat.le_refl _) (by simp) ?_; (case hd => rfl); (case hg => rfl); (case hr => first | (go_simp; done) | (go_simp; rfl)); (case hp => exact (Reps.none _ _)); intro v260 w14 ho15 hb hg_ hnew_; clear hg_ hnew_; (first | rw [← Ny259.out] at ho15 | (simp only [Int.reduceToNat] at ho15; rw [← Ny259.out] at ho15)); have n0_ := Aside0.mk (Kd.R_lower ho15 (below_size (by repeat (first | (with_reducible first | exact HB.out | apply below_alloc | apply pw_below_drewN | apply below_drew1 | refine below_set ?_ GE256.out) | exact HB.out)))); have n1_ := Aside0.mk (blk_below (g := gb256) (o := .cells #[.slice A0_0 l0_0.length c0_0, .int .i64 a0_1, .slice A0_2 l0_2.length c0_2, .slice A0_3 l0_3.length c0_3] 28 (0, 0)) (by (with_reducible repeat (first | refine blk_drewN ?_ _ | refine blk_drew ?_ | refine blk_alloc ?_ _)); exact BK256.out) hb); have n2_ := Aside0.mk (below_step (by repeat (first | (with_reducible first | exact HB.out | apply below_alloc | apply pw_below_drewN | apply below_drew1 | refine below_set ?_ GE256.out) | exact HB.out)) hb); clear BK256; clear HB; have HO261 := n0_; have BK256 := n1_; have HB := n2_; clear n0_ n1_ n2_; clear hb ho15)); try go_wp2_with (first | ((with_reducible refine gate_dst (N := 40) rfl ?_); (try (refine gate_guard (by rfl) ?_; dsimp only)); refine Kd.R_lit (Kd.int .i64) _ 3 ?hg (N := 40) ?hd (xs := ([] : List Int)) (inner := []) (ok := fun _ => True) (okp := fun _ => True) ?hr ?hp (fun _ hk => hk) trivial (Below.refl _ _) (Nat.le_refl _) (by simp) ?_; (case hd => rfl); (case hg => rfl); (case hr => first | (go_simp; done) | (go_simp; rfl)); (case hp => exact (Reps.none _ _)); intro v260 w14 ho15 hb hg_ hnew_; clear hg_ hnew_; (first | rw [← Ny259.out] at ho15 | (simp only [Int.reduceToNat] at ho15; rw [← Ny259.out] at ho15)); have n0_ := Aside0.mk (Kd.R_lower ho15 (below_size (by repeat (first | (with_reducible first | exact HB.out | apply below_alloc | apply pw_below_drewN | apply below_drew1 | refine below_set ?_ GE256.out) | exact HB.out)))); have n1_ := Aside0.mk (blk_below (g := gb256) (o := .cells #[.slice A0_0 l0_0.length c0_0, .int .i64 a0_1, .slice A0_2 l0_2.length c0_2, .slice A0_3 l0_3.length c0_3] 28 (0, 0)) (by (with_reducible repeat (first | refine blk_drewN ?_ _ | refine blk_drew ?_ | refine blk_alloc ?_ _)); exact BK256.out) hb); have n2_ := Aside0.mk (below_step (by repeat (first | (with_reducible first | exact HB.out | apply below_alloc | apply pw_below_drewN | apply below_drew1 | refine below_set ?_ GE256.out) | exact HB.out)) hb); clear BK256; clear HB; have HO261 := n0_; have BK256 := n1_; have HB := n2_; clear n0_ n1_ n2_; clear hb ho15)))
    go_loopg [4, 5] kj1 (fun kq v4 v5 w' => ∃ (x4_2 : List Int) (x5_2 : Int), v5 = .int .i64 x5_2 ∧ Aside0 (spec_LoopOk.l0 kq (l0_0.length : Int) x4_2 x5_2 l0_0 a0_1 l0_2 l0_3 = some r) ∧ Aside0 (kq ≤ kj1) ∧ Aside0 (Kd.R (Kd.int .i64) 3 w' w.heap.size (fun _ => True) v4 x4_2) ∧ Aside0 (w'.heap[gb256]? = some (.cells #[(.slice A0_0 l0_0.length c0_0), .int .i64 a0_1, (.slice A0_2 l0_2.length c0_2), (.slice A0_3 l0_3.length c0_3)] 28 (0, 0))) ∧ Aside0 (Below w.heap.size w w'))
    case atStart => exact ⟨(y259), (0), (by first | rfl | (simp; done) | (simp [*]; done)), H', ⟨Nat.le_refl _⟩, ⟨by (with_reducible repeat (first | apply Kd.R_alloc | apply Kd.R_drewN | apply Kd.R_drew)); exact HO261.out⟩, ⟨by (with_reducible repeat (first | refine blk_drewN ?_ _ | refine blk_drew ?_ | refine blk_alloc ?_ _)); exact BK256.out⟩, ⟨by repeat (first | (with_reducible first | exact HB.out | apply below_alloc | apply pw_below_drewN | apply below_drew1 | refine below_set ?_ GE256.out) | exact HB.out)⟩⟩
    case round =>
     clear H'
     try clear c1
     try clear c2
     try clear p2
     try clear c6
     try clear p6
     try clear c8
     try clear c9
     try clear c9b0
     try clear c9b1
     try clear c13
     try clear hcz10_0
     try clear hcz10_1
     try clear hcz10_2
     try clear hcz10_3
     try clear hcz11_0
     try clear hcz11_1
     try clear hcz11_2
     try clear hcz11_3
     try clear hcz12_0
     try clear hcz12_1
     try clear hcz12_2
     try clear hcz12_3
     try clear hcz4_0
     try clear hcz4_1
     try clear hcz4_2
     try clear hcz4_3
     try clear hfz10_0
     try clear hfz10_1
     try clear hfz10_2
     try clear hfz10_3
     try clear hfz11_0
     try clear hfz11_1
     try clear hfz11_2
     try clear hfz11_3
     try clear hfz12_0
     try clear hfz12_1
     try clear hfz12_2
     try clear hfz12_3
     try clear hfz4_0
     try clear hfz4_1
     try clear hfz4_2
     try clear hfz4_3
     try clear p2
     try clear p6
     obtain ⟨x4_2, x5_2, rfl, HA, HK2, HO_4, BK256, HB⟩ := hrel
     cases gk with
     | zero => exact absurd HA.out (by simp [spec_LoopOk.l0])
     | succ k2 =>
      have H := HA.out
      clear HA
      simp only [spec_LoopOk.l0] at H
      by_cases c16 : x5_2 < (l0_0.length : Int)
      ·rw [if_pos c16] at H
       have c16b0 : decide (x5_2 < (l0_0.length : Int)) = true := decide_eq_true c16
       clear c16
       by_cases c17 : 0 ≤ x5_2
       ·rw [if_pos c17] at H
        have c17b0 : decide (0 ≤ x5_2) = true := decide_eq_true c17
        clear c17
        by_cases c18 : x5_2 < (l0_0.length : Int)
        ·rw [if_pos c18] at H
         have c18b0 : decide (x5_2 < (l0_0.length : Int)) = true := decide_eq_true c18
         clear c18
         by_cases c19 : (rd l0_0 x5_2) = 0
         ·rw [if_pos c19] at H
          have c19b0 : ((rd l0_0 x5_2) == 0) = true := beq_iff_eq.mpr c19
          have c19b1 : ((rd l0_0 x5_2) != 0) = false := bne_eq_false_iff_eq.mpr c19
          clear c19
          have H' := Aside0.mk H
          clear H
          have hcz20_0 : wr.cell? ⟨gb256, 0, none⟩ = some (.slice A0_0 l0_0.length c0_0) := (blk_cell BK256.out 0).trans rfl
          have hcz20_1 : wr.cell? ⟨gb256, 1, none⟩ = some (.int .i64 a0_1) := (blk_cell BK256.out 1).trans rfl
          have hcz20_2 : wr.cell? ⟨gb256, 2, none⟩ = some (.slice A0_2 l0_2.length c0_2) := (blk_cell BK256.out 2).trans rfl
          have hcz20_3 : wr.cell? ⟨gb256, 3, none⟩ = some (.slice A0_3 l0_3.length c0_3) := (blk_cell BK256.out 3).trans rfl
          have hfz20_0 := blk_frozen BK256.out 0
          have hfz20_1 := blk_frozen BK256.out 1
          have hfz20_2 := blk_frozen BK256.out 2
          have hfz20_3 := blk_frozen BK256.out 3
          have p262 : 0 ≤ (x5_2 : Int) := of_decide_eq_true (by first | (with_reducible assumption) | assumption)
          have q262 : x5_2 < (l0_0.length : Int) := of_decide_eq_true (by first | (with_reducible assumption) | assumption)
          obtain ⟨ad262, e262, hx262_0⟩ := Kd.at_int HR0_0.out x5_2 p262 q262
          cases e262
          replace hx262_0 := (HB.out.cell (World.block_lt_of_cell? w _ hx262_0)).trans hx262_0
          replace p262 := eq_true p262
          replace q262 := eq_true q262
          go_wp2
          repeat (go_quiet (fail); try go_wp2)
          go_roundg k2
          case measure => have := HJ1.out; have := HK2.out; omega
          case rel => exact ⟨(x4_2), (wrap64 (x5_2 + 1)), (by first | rfl | (simp; done) | (simp [*]; done)), H', ⟨by have := HJ1.out; have := HK2.out; omega⟩, ⟨by (with_reducible repeat (first | apply Kd.R_alloc | apply Kd.R_drewN | apply Kd.R_drew)); exact HO_4.out⟩, ⟨by (with_reducible repeat (first | refine blk_drewN ?_ _ | refine blk_drew ?_ | refine blk_alloc ?_ _)); exact BK256.out⟩, ⟨by repeat (first | (with_reducible first | exact HB.out | apply below_alloc | apply pw_below_drewN | apply below_drew1 | refine below_set ?_ GE256.out) | exact HB.out)⟩⟩
         ·rw [if_neg c19] at H
          have c19b0 : ((rd l0_0 x5_2) == 0) = false := beq_eq_false_iff_ne.mpr c19
          have c19b1 : ((rd l0_0 x5_2) != 0) = true := bne_iff_ne.mpr c19
          by_cases c21 : x4_2.length < 17592186044416
          ·rw [if_pos c21] at H
           have LMc21 := Aside0.mk c21
           clear c21
           obtain ⟨y264, hy264⟩ : ∃ y_ : List Int, y_ = (x4_2 ++ [rd l0_0 x5_2]) := ⟨_, rfl⟩
           replace H : (spec_LoopOk.l0 k2 (l0_0.length : Int) y264 (wrap64 (x5_2 + 1)) l0_0 a0_1 l0_2 l0_3) = some r := by first | (rw [hy264]; with_reducible exact H) | (have H2_ := (Option.bind_some _ _).symm.trans H; rw [hy264]; with_reducible exact H2_) | (have H2_ := (Option.bind_some _ _).symm.trans H; with_reducible exact H2_) | with_reducible exact H | (rw [hy264]; exact H) | exact H
           have Ny264 := Aside0.mk hy264
           clear hy264
           have H' := Aside0.mk H
           clear H
           have hcz22_0 : wr.cell? ⟨gb256, 0, none⟩ = some (.slice A0_0 l0_0.length c0_0) := (blk_cell BK256.out 0).trans rfl
           have hcz22_1 : wr.cell? ⟨gb256, 1, none⟩ = some (.int .i64 a0_1) := (blk_cell BK256.out 1).trans rfl
           have hcz22_2 : wr.cell? ⟨gb256, 2, none⟩ = some (.slice A0_2 l0_2.length c0_2) := (blk_cell BK256.out 2).trans rfl
           have hcz22_3 : wr.cell? ⟨gb256, 3, none⟩ = some (.slice A0_3 l0_3.length c0_3) := (blk_cell BK256.out 3).trans rfl
           have hfz22_0 := blk_frozen BK256.out 0
           have hfz22_1 := blk_frozen BK256.out 1
           have hfz22_2 := blk_frozen BK256.out 2
           have hfz22_3 := blk_frozen BK256.out 3
           have p262 : 0 ≤ (x5_2 : Int) := of_decide_eq_true (by first | (with_reducible assumption) | assumption)
           have q262 : x5_2 < (l0_0.length : Int) := of_decide_eq_true (by first | (with_reducible assumption) | assumption)
           obtain ⟨ad262, e262, hx262_0⟩ := Kd.at_int HR0_0.out x5_2 p262 q262
           cases e262
           replace hx262_0 := (HB.out.cell (World.block_lt_of_cell? w _ hx262_0)).trans hx262_0
           replace p262 := eq_true p262
           replace q262 := eq_true q262
           have p263 : 0 ≤ (x5_2 : Int) := of_decide_eq_true (by first | (with_reducible assumption) | assumption)
           have q263 : x5_2 < (l0_0.length : Int) := of_decide_eq_true (by first | (with_reducible assumption) | assumption)
           obtain ⟨ad263, e263, hx263_0⟩ := Kd.at_int HR0_0.out x5_2 p263 q263
           obtain rfl : ad262 = ad263 := (by injection e263)
           replace hx263_0 := (HB.out.cell (World.block_lt_of_cell? w _ hx263_0)).trans hx263_0
           replace p263 := eq_true p263
           replace q263 := eq_true q263
           go_wp2_with (first | ((with_reducible refine gate_builtin (b := .append) (xs := #[.tmp 52, .tmp 58]) rfl ?_); (try (refine gate_guard (by rfl) ?_; dsimp only)); at_builtin; refine Kd.R_append (Kd.int .i64) (w0 := w) w.heap.size rfl (.tmp 52) (.tmp 58) 24 3 (.int .i64 0) 8 rfl Try.underlying24 info3 rfl (by decide) (by omega) u4 x4_2 (rd l0_0 x5_2) [.int .i64 (rd l0_0 x5_2)] (fun _ => True) (fun _ => False) rfl rfl ?aP (fun _ hk => hk.elim) ?aF ?aO ?aB ?aS ?aL ?_; (case aP => exact rfl); (case aB => exact (by repeat (first | (with_reducible first | exact HB.out | apply below_alloc | apply pw_below_drewN | apply below_drew1 | refine below_set ?_ GE256.out) | exact HB.out))); (case aF => exact (fun _ _ => trivial)); (case aO => exact (by (with_reducible repeat (first | apply Kd.R_alloc | apply Kd.R_drewN | apply Kd.R_drew)); exact HO_4.out)); (case aS => exact (below_size (by repeat (first | (with_reducible first | exact HB.out | apply below_alloc | apply pw_below_drewN | apply below_drew1 | refine below_set ?_ GE256.out) | exact HB.out)))); (case aL => have := LMc21.out; omega); intro v265 w23 ho hb hg hat; rw [← Ny264.out] at ho; have n0_ := Aside0.mk (blk_grown (g := gb256) (o := .cells #[.slice (some ad262) l0_0.length c0_0, .int .i64 a0_1, .slice A0_2 l0_2.length c0_2, .slice A0_3 l0_3.length c0_3] 28 (0, 0)) (by (with_reducible repeat (first | refine blk_drewN ?_ _ | refine blk_drew ?_ | refine blk_alloc ?_ _)); exact BK256.out) hg (Kd.R_ne HO_4.out BK256.out (by decide))); have n1_ := Aside0.mk (hb); have n2_ := Aside0.mk (ho); clear BK256; clear HB; clear HO_4; have BK256 := n0_; have HB := n1_; have HO266 := n2_; clear n0_ n1_ n2_; clear ho hb hg hat))
           repeat (go_quiet (first | ((with_reducible refine gate_builtin (b := .append) (xs := #[.tmp 52, .tmp 58]) rfl ?_); (try (refine gate_guard (by rfl) ?_; dsimp only)); at_builtin; refine Kd.R_append (Kd.int .i64) (w0 := w) w.heap.size rfl (.tmp 52) (.tmp 58) 24 3 (.int .i64 0) 8 rfl Try.underlying24 info3 rfl (by decide) (by omega) u4 x4_2 (rd l0_0 x5_2) [.int .i64 (rd l0_0 x5_2)] (fun _ => True) (fun _ => False) rfl rfl ?aP (fun _ hk => hk.elim) ?aF ?aO ?aB ?aS ?aL ?_; (case aP => exact rfl); (case aB => exact (by repeat (first | (with_reducible first | exact HB.out | apply below_alloc | apply pw_below_drewN | apply below_drew1 | refine below_set ?_ GE256.out) | exact HB.out))); (case aF => exact (fun _ _ => trivial)); (case aO => exact (by (with_reducible repeat (first | apply Kd.R_alloc | apply Kd.R_drewN | apply Kd.R_drew)); exact HO_4.out)); (case aS => exact (below_size (by repeat (first | (with_reducible first | exact HB.out | apply below_alloc | apply pw_below_drewN | apply below_drew1 | refine below_set ?_ GE256.out) | exact HB.out)))); (case aL => have := LMc21.out; omega); intro v265 w23 ho hb hg hat; rw [← Ny264.out] at ho; have n0_ := Aside0.mk (blk_grown (g := gb256) (o := .cells #[.slice (some ad262) l0_0.length c0_0, .int .i64 a0_1, .slice A0_2 l0_2.length c0_2, .slice A0_3 l0_3.length c0_3] 28 (0, 0)) (by (with_reducible repeat (first | refine blk_drewN ?_ _ | refine blk_drew ?_ | refine blk_alloc ?_ _)); exact BK256.out) hg (Kd.R_ne HO_4.out BK256.out (by decide))); have n1_ := Aside0.mk (hb); have n2_ := Aside0.mk (ho); clear BK256; clear HB; clear HO_4; have BK256 := n0_; have HB := n1_; have HO266 := n2_; clear n0_ n1_ n2_; clear ho hb hg hat)); try go_wp2_with (first | ((with_reducible refine gate_builtin (b := .append) (xs := #[.tmp 52, .tmp 58]) rfl ?_); (try (refine gate_guard (by rfl) ?_; dsimp only)); at_builtin; refine Kd.R_append (Kd.int .i64) (w0 := w) w.heap.size rfl (.tmp 52) (.tmp 58) 24 3 (.int .i64 0) 8 rfl Try.underlying24 info3 rfl (by decide) (by omega) u4 x4_2 (rd l0_0 x5_2) [.int .i64 (rd l0_0 x5_2)] (fun _ => True) (fun _ => False) rfl rfl ?aP (fun _ hk => hk.elim) ?aF ?aO ?aB ?aS ?aL ?_; (case aP => exact rfl); (case aB => exact (by repeat (first | (with_reducible first | exact HB.out | apply below_alloc | apply pw_below_drewN | apply below_drew1 | refine below_set ?_ GE256.out) | exact HB.out))); (case aF => exact (fun _ _ => trivial)); (case aO => exact (by (with_reducible repeat (first | apply Kd.R_alloc | apply Kd.R_drewN | apply Kd.R_drew)); exact HO_4.out)); (case aS => exact (below_size (by repeat (first | (with_reducible first | exact HB.out | apply below_alloc | apply pw_below_drewN | apply below_drew1 | refine below_set ?_ GE256.out) | exact HB.out)))); (case aL => have := LMc21.out; omega); intro v265 w23 ho hb hg hat; rw [← Ny264.out] at ho; have n0_ := Aside0.mk (blk_grown (g := gb256) (o := .cells #[.slice (some ad262) l0_0.length c0_0, .int .i64 a0_1, .slice A0_2 l0_2.length c0_2, .slice A0_3 l0_3.length c0_3] 28 (0, 0)) (by (with_reducible repeat (first | refine blk_drewN ?_ _ | refine blk_drew ?_ | refine blk_alloc ?_ _)); exact BK256.out) hg (Kd.R_ne HO_4.out BK256.out (by decide))); have n1_ := Aside0.mk (hb); have n2_ := Aside0.mk (ho); clear BK256; clear HB; clear HO_4; have BK256 := n0_; have HB := n1_; have HO266 := n2_; clear n0_ n1_ n2_; clear ho hb hg hat)))
           go_roundg k2
           case measure => have := HJ1.out; have := HK2.out; omega
           case rel => exact ⟨(y264), (wrap64 (x5_2 + 1)), (by first | rfl | (simp; done) | (simp [*]; done)), H', ⟨by have := HJ1.out; have := HK2.out; omega⟩, ⟨by (with_reducible repeat (first | apply Kd.R_alloc | apply Kd.R_drewN | apply Kd.R_drew)); exact HO266.out⟩, ⟨by (with_reducible repeat (first | refine blk_drewN ?_ _ | refine blk_drew ?_ | refine blk_alloc ?_ _)); exact BK256.out⟩, ⟨by repeat (first | (with_reducible first | exact HB.out | apply below_alloc | apply pw_below_drewN | apply below_drew1 | refine below_set ?_ GE256.out) | exact HB.out)⟩⟩
          ·rw [if_neg c21] at H
           exact absurd H (by simp)
        ·rw [if_neg c18] at H
         exact absurd H (by simp)
       ·rw [if_neg c17] at H
        exact absurd H (by simp)
      ·rw [if_neg c16] at H
       have c16b0 : decide (x5_2 < (l0_0.length : Int)) = false := decide_eq_false c16
       clear c16
       have H' := Aside0.mk H
       clear H
       go_wp2
       repeat (go_quiet (fail); try go_wp2)
       go_loopg [4, 6] k2 (fun kq v4 v6 w' => ∃ (x4_3 : List Int) (x6_3 : Int), v6 = .int .i64 x6_3 ∧ Aside0 (spec_LoopOk.l1 kq (l0_0.length : Int) x4_3 x6_3 l0_0 a0_1 l0_2 l0_3 = some r) ∧ Aside0 (kq ≤ k2) ∧ Aside0 (Kd.R (Kd.int .i64) 3 w' w.heap.size (fun _ => True) v4 x4_3) ∧ Aside0 (w'.heap[gb256]? = some (.cells #[(.slice A0_0 l0_0.length c0_0), .int .i64 a0_1, (.slice A0_2 l0_2.length c0_2), (.slice A0_3 l0_3.length c0_3)] 28 (0, 0))) ∧ Aside0 (Below w.heap.size w w'))
       case atStart => exact ⟨(x4_2), (0), (by first | rfl | (simp; done) | (simp [*]; done)), H', ⟨Nat.le_refl _⟩, ⟨by (with_reducible repeat (first | apply Kd.R_alloc | apply Kd.R_drewN | apply Kd.R_drew)); exact HO_4.out⟩, ⟨by (with_reducible repeat (first | refine blk_drewN ?_ _ | refine blk_drew ?_ | refine blk_alloc ?_ _)); exact BK256.out⟩, ⟨by repeat (first | (with_reducible first | exact HB.out | apply below_alloc | apply pw_below_drewN | apply below_drew1 | refine below_set ?_ GE256.out) | exact HB.out)⟩⟩
       case round =>
        clear H'
        try clear c1
        try clear c2
        try clear p2
        try clear q2
        try clear hx2
        try clear c6
        try clear p6
        try clear c8
        try clear c9
        try clear c9b0
        try clear c9b1
        try clear c13
        try clear c16
        try clear c16b0
        try clear c17
        try clear c17b0
        try clear c18
        try clear c18b0
        try clear c19
        try clear c19b0
        try clear c19b1
        try clear c21
        try clear c23
        try clear hcz10_0
        try clear hcz10_1
        try clear hcz10_2
        try clear hcz10_3
        try clear hcz11_0
        try clear hcz11_1
        try clear hcz11_2
        try clear hcz11_3
        try clear hcz12_0
        try clear hcz12_1
        try clear hcz12_2
        try clear hcz12_3
        try clear hcz20_0
        try clear hcz20_1
        try clear hcz20_2
        try clear hcz20_3
        try clear hcz22_0
        try clear hcz22_1
        try clear hcz22_2
        try clear hcz22_3
        try clear hcz4_0
        try clear hcz4_1
        try clear hcz4_2
        try clear hcz4_3
        try clear hfz10_0
        try clear hfz10_1
        try clear hfz10_2
        try clear hfz10_3
        try clear hfz11_0
        try clear hfz11_1
        try clear hfz11_2
        try clear hfz11_3
        try clear hfz12_0
        try clear hfz12_1
        try clear hfz12_2
        try clear hfz12_3
        try clear hfz20_0
        try clear hfz20_1
        try clear hfz20_2
        try clear hfz20_3
        try clear hfz22_0
        try clear hfz22_1
        try clear hfz22_2
        try clear hfz22_3
        try clear hfz4_0
        try clear hfz4_1
        try clear hfz4_2
        try clear hfz4_3
        try clear hx262_0
        try clear hx263_0
        try clear p2
        try clear p262
        try clear p263
        try clear p6
        try clear q262
        try clear q263
        obtain ⟨x4_3, x6_3, rfl, HA, HK3, HO_4, BK256, HB⟩ := hrel
        cases gk with
        | zero => exact absurd HA.out (by simp [spec_LoopOk.l1])
        | succ k3 =>
         have H := HA.out
         clear HA
         simp only [spec_LoopOk.l1] at H
         by_cases c24 : x6_3 < (l0_2.length : Int)
         ·rw [if_pos c24] at H
          have c24b0 : decide (x6_3 < (l0_2.length : Int)) = true := decide_eq_true c24
          clear c24
          by_cases c25 : 0 ≤ x6_3
          ·rw [if_pos c25] at H
           have c25b0 : decide (0 ≤ x6_3) = true := decide_eq_true c25
           clear c25
           have HC26 := Aside0.mk H
           clear H
           have hcz27_0 : wr.cell? ⟨gb256, 0, none⟩ = some (.slice A0_0 l0_0.length c0_0) := (blk_cell BK256.out 0).trans rfl
           have hcz27_1 : wr.cell? ⟨gb256, 1, none⟩ = some (.int .i64 a0_1) := (blk_cell BK256.out 1).trans rfl
           have hcz27_2 : wr.cell? ⟨gb256, 2, none⟩ = some (.slice A0_2 l0_2.length c0_2) := (blk_cell BK256.out 2).trans rfl
           have hcz27_3 : wr.cell? ⟨gb256, 3, none⟩ = some (.slice A0_3 l0_3.length c0_3) := (blk_cell BK256.out 3).trans rfl
           have hfz27_0 := blk_frozen BK256.out 0
           have hfz27_1 := blk_frozen BK256.out 1
           have hfz27_2 := blk_frozen BK256.out 2
           have hfz27_3 := blk_frozen BK256.out 3
           have p267 : 0 ≤ (x6_3 : Int) := of_decide_eq_true (by first | (with_reducible assumption) | assumption)
           have q267 : x6_3 < (l0_2.length : Int) := of_decide_eq_true (by first | (with_reducible assumption) | assumption)
           obtain ⟨ad267, A267_2, c267_2, e267, hx267_0, hx267_1, hx267_2, hl267_2, hi267_2⟩ := at_T69 HR0_2.out x6_3 p267 q267
           cases e267
           replace hx267_0 := (HB.out.cell (World.block_lt_of_cell? w _ hx267_0)).trans hx267_0
           replace hx267_1 := (HB.out.cell (World.block_lt_of_cell? w _ hx267_1)).trans hx267_1
           replace hx267_2 := (HB.out.cell (World.block_lt_of_cell? w _ hx267_2)).trans hx267_2
           have HR267_2 := Aside0.mk hi267_2
           have HC267_2 := Aside0.mk hl267_2
           clear hi267_2 hl267_2
           replace p267 := eq_true p267
           replace q267 := eq_true q267
           go_upto_region 14 with (first | ((with_reducible refine gate_dst (N := 7) rfl ?_); (try (refine gate_guard (by rfl) ?_; dsimp only)); refine box_event ?hg (N := 7) ?hd (cs := #[.int .i64 0, .int .i64 0, .slice none 0 0]) (t := 69) ?hr ?_; (case hd => rfl); (case hg => rfl); (case hr => first | (go_simp; done) | (go_simp; rfl)); intro gb268 hg w28 hbox hb; have n0_ := Aside0.mk (Kd.R_below (by (with_reducible repeat (first | apply Kd.R_alloc | apply Kd.R_drewN | apply Kd.R_drew)); exact HO_4.out) hb); have n1_ := Aside0.mk (blk_below (g := gb256) (o := .cells #[.slice A0_0 l0_0.length c0_0, .int .i64 a0_1, .slice (some ad267) l0_2.length c0_2, .slice A0_3 l0_3.length c0_3] 28 (0, 0)) (by (with_reducible repeat (first | refine blk_drewN ?_ _ | refine blk_drew ?_ | refine blk_alloc ?_ _)); exact BK256.out) hb); have n2_ := Aside0.mk (below_step (by repeat (first | (with_reducible first | exact HB.out | apply below_alloc | apply pw_below_drewN | apply below_drew1 | refine below_set ?_ GE256.out) | exact HB.out)) hb); have n3_ := Aside0.mk (hbox); have n4_ := Aside0.mk ((by rw [hg]; exact (below_size (by repeat (first | (with_reducible first | exact HB.out | apply below_alloc | apply pw_below_drewN | apply below_drew1 | refine below_set ?_ GE256.out) | exact HB.out))) : w.heap.size ≤ gb268)); have n5_ := Aside0.mk ((by rw [hg]; exact (below_size (by repeat (first | (with_reducible first | exact HB.out | apply below_alloc | apply pw_below_drewN | apply below_drew1 | refine below_set ?_ GE256.out) | exact HB.out))) : w.heap.size ≤ gb268)); have n6_ := Aside0.mk ((by rw [hg]; exact Nat.ne_of_lt (blk_lt (g := gb256) (o := .cells #[.slice A0_0 l0_0.length c0_0, .int .i64 a0_1, .slice (some ad267) l0_2.length c0_2, .slice A0_3 l0_3.length c0_3] 28 (0, 0)) (by (with_reducible repeat (first | refine blk_drewN ?_ _ | refine blk_drew ?_ | refine blk_alloc ?_ _)); exact BK256.out)) : gb256 ≠ gb268)); have n7_ := Aside0.mk ((by rw [hg]; exact Nat.ne_of_gt (blk_lt (g := gb256) (o := .cells #[.slice A0_0 l0_0.length c0_0, .int .i64 a0_1, .slice (some ad267) l0_2.length c0_2, .slice A0_3 l0_3.length c0_3] 28 (0, 0)) (by (with_reducible repeat (first | refine blk_drewN ?_ _ | refine blk_drew ?_ | refine blk_alloc ?_ _)); exact BK256.out)) : gb268 ≠ gb256)); clear HO_4; clear BK256; clear HB; have HO_4 := n0_; have BK256 := n1_; have HB := n2_; have BK268 := n3_; have GW268 := n4_; have GE268 := n5_; have NB256_268 := n6_; have NB268_256 := n7_; clear n0_ n1_ n2_ n3_ n4_ n5_ n6_ n7_; clear hb hbox hg; have hnb29 := NB268_256.out; have hnc29 := NB256_268.out; have hcz30_0 : w28.cell? ⟨gb268, 0, none⟩ = some (.int .i64 0) := (blk_cell BK268.out 0).trans rfl; have hcz30_1 : w28.cell? ⟨gb268, 1, none⟩ = some (.int .i64 0) := (blk_cell BK268.out 1).trans rfl; have hcz30_2 : w28.cell? ⟨gb268, 2, none⟩ = some (.slice none 0 0) := (blk_cell BK268.out 2).trans rfl; have hfz30_0 := blk_frozen BK268.out 0; have hfz30_1 := blk_frozen BK268.out 1; have hfz30_2 := blk_frozen BK268.out 2))
           repeat (go_quiet (first | ((with_reducible refine gate_dst (N := 7) rfl ?_); (try (refine gate_guard (by rfl) ?_; dsimp only)); refine box_event ?hg (N := 7) ?hd (cs := #[.int .i64 0, .int .i64 0, .slice none 0 0]) (t := 69) ?hr ?_; (case hd => rfl); (case hg => rfl); (case hr => first | (go_simp; done) | (go_simp; rfl)); intro gb268 hg w28 hbox hb; have n0_ := Aside0.mk (Kd.R_below (by (with_reducible repeat (first | apply Kd.R_alloc | apply Kd.R_drewN | apply Kd.R_drew)); exact HO_4.out) hb); have n1_ := Aside0.mk (blk_below (g := gb256) (o := .cells #[.slice A0_0 l0_0.length c0_0, .int .i64 a0_1, .slice (some ad267) l0_2.length c0_2, .slice A0_3 l0_3.length c0_3] 28 (0, 0)) (by (with_reducible repeat (first | refine blk_drewN ?_ _ | refine blk_drew ?_ | refine blk_alloc ?_ _)); exact BK256.out) hb); have n2_ := Aside0.mk (below_step (by repeat (first | (with_reducible first | exact HB.out | apply below_alloc | apply pw_below_drewN | apply below_drew1 | refine below_set ?_ GE256.out) | exact HB.out)) hb); have n3_ := Aside0.mk (hbox); have n4_ := Aside0.mk ((by rw [hg]; exact (below_size (by repeat (first | (with_reducible first | exact HB.out | apply below_alloc | apply pw_below_drewN | apply below_drew1 | refine below_set ?_ GE256.out) | exact HB.out))) : w.heap.size ≤ gb268)); have n5_ := Aside0.mk ((by rw [hg]; exact (below_size (by repeat (first | (with_reducible first | exact HB.out | apply below_alloc | apply pw_below_drewN | apply below_drew1 | refine below_set ?_ GE256.out) | exact HB.out))) : w.heap.size ≤ gb268)); have n6_ := Aside0.mk ((by rw [hg]; exact Nat.ne_of_lt (blk_lt (g := gb256) (o := .cells #[.slice A0_0 l0_0.length c0_0, .int .i64 a0_1, .slice (some ad267) l0_2.length c0_2, .slice A0_3 l0_3.length c0_3] 28 (0, 0)) (by (with_reducible repeat (first | refine blk_drewN ?_ _ | refine blk_drew ?_ | refine blk_alloc ?_ _)); exact BK256.out)) : gb256 ≠ gb268)); have n7_ := Aside0.mk ((by rw [hg]; exact Nat.ne_of_gt (blk_lt (g := gb256) (o := .cells #[.slice A0_0 l0_0.length c0_0, .int .i64 a0_1, .slice (some ad267) l0_2.length c0_2, .slice A0_3 l0_3.length c0_3] 28 (0, 0)) (by (with_reducible repeat (first | refine blk_drewN ?_ _ | refine blk_drew ?_ | refine blk_alloc ?_ _)); exact BK256.out)) : gb268 ≠ gb256)); clear HO_4; clear BK256; clear HB; have HO_4 := n0_; have BK256 := n1_; have HB := n2_; have BK268 := n3_; have GW268 := n4_; have GE268 := n5_; have NB256_268 := n6_; have NB268_256 := n7_; clear n0_ n1_ n2_ n3_ n4_ n5_ n6_ n7_; clear hb hbox hg; have hnb29 := NB268_256.out; have hnc29 := NB256_268.out; have hcz30_0 : w28.cell? ⟨gb268, 0, none⟩ = some (.int .i64 0) := (blk_cell BK268.out 0).trans rfl; have hcz30_1 : w28.cell? ⟨gb268, 1, none⟩ = some (.int .i64 0) := (blk_cell BK268.out 1).trans rfl; have hcz30_2 : w28.cell? ⟨gb268, 2, none⟩ = some (.slice none 0 0) := (blk_cell BK268.out 2).trans rfl; have hfz30_0 := blk_frozen BK268.out 0; have hfz30_1 := blk_frozen BK268.out 1; have hfz30_2 := blk_frozen BK268.out 2)); go_upto_region 14 with (first | ((with_reducible refine gate_dst (N := 7) rfl ?_); (try (refine gate_guard (by rfl) ?_; dsimp only)); refine box_event ?hg (N := 7) ?hd (cs := #[.int .i64 0, .int .i64 0, .slice none 0 0]) (t := 69) ?hr ?_; (case hd => rfl); (case hg => rfl); (case hr => first | (go_simp; done) | (go_simp; rfl)); intro gb268 hg w28 hbox hb; have n0_ := Aside0.mk (Kd.R_below (by (with_reducible repeat (first | apply Kd.R_alloc | apply Kd.R_drewN | apply Kd.R_drew)); exact HO_4.out) hb); have n1_ := Aside0.mk (blk_below (g := gb256) (o := .cells #[.slice A0_0 l0_0.length c0_0, .int .i64 a0_1, .slice (some ad267) l0_2.length c0_2, .slice A0_3 l0_3.length c0_3] 28 (0, 0)) (by (with_reducible repeat (first | refine blk_drewN ?_ _ | refine blk_drew ?_ | refine blk_alloc ?_ _)); exact BK256.out) hb); have n2_ := Aside0.mk (below_step (by repeat (first | (with_reducible first | exact HB.out | apply below_alloc | apply pw_below_drewN | apply below_drew1 | refine below_set ?_ GE256.out) | exact HB.out)) hb); have n3_ := Aside0.mk (hbox); have n4_ := Aside0.mk ((by rw [hg]; exact (below_size (by repeat (first | (with_reducible first | exact HB.out | apply below_alloc | apply pw_below_drewN | apply below_drew1 | refine below_set ?_ GE256.out) | exact HB.out))) : w.heap.size ≤ gb268)); have n5_ := Aside0.mk ((by rw [hg]; exact (below_size (by repeat (first | (with_reducible first | exact HB.out | apply below_alloc | apply pw_below_drewN | apply below_drew1 | refine below_set ?_ GE256.out) | exact HB.out))) : w.heap.size ≤ gb268)); have n6_ := Aside0.mk ((by rw [hg]; exact Nat.ne_of_lt (blk_lt (g := gb256) (o := .cells #[.slice A0_0 l0_0.length c0_0, .int .i64 a0_1, .slice (some ad267) l0_2.length c0_2, .slice A0_3 l0_3.length c0_3] 28 (0, 0)) (by (with_reducible repeat (first | refine blk_drewN ?_ _ | refine blk_drew ?_ | refine blk_alloc ?_ _)); exact BK256.out)) : gb256 ≠ gb268)); have n7_ := Aside0.mk ((by rw [hg]; exact Nat.ne_of_gt (blk_lt (g := gb256) (o := .cells #[.slice A0_0 l0_0.length c0_0, .int .i64 a0_1, .slice (some ad267) l0_2.length c0_2, .slice A0_3 l0_3.length c0_3] 28 (0, 0)) (by (with_reducible repeat (first | refine blk_drewN ?_ _ | refine blk_drew ?_ | refine blk_alloc ?_ _)); exact BK256.out)) : gb268 ≠ gb256)); clear HO_4; clear BK256; clear HB; have HO_4 := n0_; have BK256 := n1_; have HB := n2_; have BK268 := n3_; have GW268 := n4_; have GE268 := n5_; have NB256_268 := n6_; have NB268_256 := n7_; clear n0_ n1_ n2_ n3_ n4_ n5_ n6_ n7_; clear hb hbox hg; have hnb29 := NB268_256.out; have hnc29 := NB256_268.out; have hcz30_0 : w28.cell? ⟨gb268, 0, none⟩ = some (.int .i64 0) := (blk_cell BK268.out 0).trans rfl; have hcz30_1 : w28.cell? ⟨gb268, 1, none⟩ = some (.int .i64 0) := (blk_cell BK268.out 1).trans rfl; have hcz30_2 : w28.cell? ⟨gb268, 2, none⟩ = some (.slice none 0 0) := (blk_cell BK268.out 2).trans rfl; have hfz30_0 := blk_frozen BK268.out 0; have hfz30_1 := blk_frozen BK268.out 1; have hfz30_2 := blk_frozen BK268.out 2)))
           (try simp only [Act.put, List.setIfInBounds_toArray, List.set_cons_zero, List.set_cons_succ])
           go_cut [91] (fun v91 wc => ∃ (kq : Nat) (x91_25 : Bool), v91 = .bool x91_25 ∧ Aside0 (spec_LoopOk.j3 kq (l0_0.length : Int) x4_3 x6_3 x91_25 l0_0 a0_1 l0_2 l0_3 ((rd_T69 l0_2 x6_3).f0) ((rd_T69 l0_2 x6_3).f1) ((rd_T69 l0_2 x6_3).f2) = some r) ∧ Aside0 (kq ≤ k3) ∧ Aside0 (Kd.R (Kd.int .i64) 3 wc w.heap.size (fun _ => True) u4 x4_3) ∧ Aside0 (wc.heap[gb256]? = some (.cells #[(.slice A0_0 l0_0.length c0_0), .int .i64 a0_1, (.slice (some ad267) l0_2.length c0_2), (.slice A0_3 l0_3.length c0_3)] 28 (0, 0))) ∧ Aside0 (wc.heap[gb268]? = some (.cells #[.int .i64 ((rd_T69 l0_2 x6_3).f0), .int .i64 ((rd_T69 l0_2 x6_3).f1), (.slice A267_2 ((rd_T69 l0_2 x6_3).f2).length c267_2)] 69 (0, 0))) ∧ Aside0 (Below w.heap.size w wc))
           case first =>
            have H := HC26.out
            clear HC26
            replace H := Option.bind_eq_some_iff.mp H
            obtain ⟨t269, A310, H⟩ := H
            replace H : (if t269 = true then ((spec_l01In.f ((rd_T69 l0_2 x6_3).f1) 0 40).bind fun t270 => (if t270 = true then (spec_LoopOk.j3 k3 (l0_0.length : Int) x4_3 x6_3 (decide ((((rd_T69 l0_2 x6_3).f2).length : Int) > ((rd_T69 l0_2 x6_3).f1))) l0_0 a0_1 l0_2 l0_3 ((rd_T69 l0_2 x6_3).f0) ((rd_T69 l0_2 x6_3).f1) ((rd_T69 l0_2 x6_3).f2)) else (spec_LoopOk.j3 k3 (l0_0.length : Int) x4_3 x6_3 true l0_0 a0_1 l0_2 l0_3 ((rd_T69 l0_2 x6_3).f0) ((rd_T69 l0_2 x6_3).f1) ((rd_T69 l0_2 x6_3).f2)))) else (spec_LoopOk.j3 k3 (l0_0.length : Int) x4_3 x6_3 true l0_0 a0_1 l0_2 l0_3 ((rd_T69 l0_2 x6_3).f0) ((rd_T69 l0_2 x6_3).f1) ((rd_T69 l0_2 x6_3).f2))) = some r := H
            have A31 := Aside0.mk A310
            clear A310
            by_cases c32 : t269 = true
            ·subst c32
             have H1 : ((spec_l01In.f ((rd_T69 l0_2 x6_3).f1) 0 40).bind fun t270 => (if t270 = true then (spec_LoopOk.j3 k3 (l0_0.length : Int) x4_3 x6_3 (decide ((((rd_T69 l0_2 x6_3).f2).length : Int) > ((rd_T69 l0_2 x6_3).f1))) l0_0 a0_1 l0_2 l0_3 ((rd_T69 l0_2 x6_3).f0) ((rd_T69 l0_2 x6_3).f1) ((rd_T69 l0_2 x6_3).f2)) else (spec_LoopOk.j3 k3 (l0_0.length : Int) x4_3 x6_3 true l0_0 a0_1 l0_2 l0_3 ((rd_T69 l0_2 x6_3).f0) ((rd_T69 l0_2 x6_3).f1) ((rd_T69 l0_2 x6_3).f2)))) = some r := by rw [if_pos rfl] at H; exact H
             clear H
             have H := H1
             clear H1
             replace H := Option.bind_eq_some_iff.mp H
             obtain ⟨t270, A330, H⟩ := H
             replace H : (if t270 = true then (spec_LoopOk.j3 k3 (l0_0.length : Int) x4_3 x6_3 (decide ((((rd_T69 l0_2 x6_3).f2).length : Int) > ((rd_T69 l0_2 x6_3).f1))) l0_0 a0_1 l0_2 l0_3 ((rd_T69 l0_2 x6_3).f0) ((rd_T69 l0_2 x6_3).f1) ((rd_T69 l0_2 x6_3).f2)) else (spec_LoopOk.j3 k3 (l0_0.length : Int) x4_3 x6_3 true l0_0 a0_1 l0_2 l0_3 ((rd_T69 l0_2 x6_3).f0) ((rd_T69 l0_2 x6_3).f1) ((rd_T69 l0_2 x6_3).f2))) = some r := H
             have A33 := Aside0.mk A330
             clear A330
             by_cases c34 : t270 = true
             ·subst c34
              have H1 : (spec_LoopOk.j3 k3 (l0_0.length : Int) x4_3 x6_3 (decide ((((rd_T69 l0_2 x6_3).f2).length : Int) > ((rd_T69 l0_2 x6_3).f1))) l0_0 a0_1 l0_2 l0_3 ((rd_T69 l0_2 x6_3).f0) ((rd_T69 l0_2 x6_3).f1) ((rd_T69 l0_2 x6_3).f2)) = some r := by rw [if_pos rfl] at H; exact H
              clear H
              have H := H1
              clear H1
              have H' := Aside0.mk H
              clear H
              have hnb35 := NB268_256.out
              have hnc35 := NB256_268.out
              have hcz36_0 : w28.cell? ⟨gb268, 0, none⟩ = some (.int .i64 0) := (blk_cell BK268.out 0).trans rfl
              have hcz36_1 : w28.cell? ⟨gb268, 1, none⟩ = some (.int .i64 0) := (blk_cell BK268.out 1).trans rfl
              have hcz36_2 : w28.cell? ⟨gb268, 2, none⟩ = some (.slice none 0 0) := (blk_cell BK268.out 2).trans rfl
              have hfz36_0 := blk_frozen BK268.out 0
              have hfz36_1 := blk_frozen BK268.out 1
              have hfz36_2 := blk_frozen BK268.out 2
              go_wp2_with (first | (go_at_call 62; (with_reducible refine (spec_l01In.calls ((rd_T69 l0_2 x6_3).f0) 0 (wrap64 ((l0_0.length : Int) - 1)) true _ A31.out).mono ?_); rintro e w' ⟨rfl, ⟨nd, rfl⟩⟩; (try first | exact ⟨rfl, _, World.drewN_drewN _ _ _⟩ | exact ⟨rfl, _, Eq.trans (World.drewN_drewN _ _ _) (congrArg (World.drewN _) (Nat.add_assoc _ _ _))⟩)) | (go_at_call 62; (with_reducible refine (spec_l01In.calls ((rd_T69 l0_2 x6_3).f1) 0 40 true _ A33.out).mono ?_); rintro e w' ⟨rfl, ⟨nd, rfl⟩⟩; (try first | exact ⟨rfl, _, World.drewN_drewN _ _ _⟩ | exact ⟨rfl, _, Eq.trans (World.drewN_drewN _ _ _) (congrArg (World.drewN _) (Nat.add_assoc _ _ _))⟩)))
              repeat (go_quiet (first | (go_at_call 62; (with_reducible refine (spec_l01In.calls ((rd_T69 l0_2 x6_3).f0) 0 (wrap64 ((l0_0.length : Int) - 1)) true _ A31.out).mono ?_); rintro e w' ⟨rfl, ⟨nd, rfl⟩⟩; (try first | exact ⟨rfl, _, World.drewN_drewN _ _ _⟩ | exact ⟨rfl, _, Eq.trans (World.drewN_drewN _ _ _) (congrArg (World.drewN _) (Nat.add_assoc _ _ _))⟩)) | (go_at_call 62; (with_reducible refine (spec_l01In.calls ((rd_T69 l0_2 x6_3).f1) 0 40 true _ A33.out).mono ?_); rintro e w' ⟨rfl, ⟨nd, rfl⟩⟩; (try first | exact ⟨rfl, _, World.drewN_drewN _ _ _⟩ | exact ⟨rfl, _, Eq.trans (World.drewN_drewN _ _ _) (congrArg (World.drewN _) (Nat.add_assoc _ _ _))⟩))); try go_wp2_with (first | (go_at_call 62; (with_reducible refine (spec_l01In.calls ((rd_T69 l0_2 x6_3).f0) 0 (wrap64 ((l0_0.length : Int) - 1)) true _ A31.out).mono ?_); rintro e w' ⟨rfl, ⟨nd, rfl⟩⟩; (try first | exact ⟨rfl, _, World.drewN_drewN _ _ _⟩ | exact ⟨rfl, _, Eq.trans (World.drewN_drewN _ _ _) (congrArg (World.drewN _) (Nat.add_assoc _ _ _))⟩)) | (go_at_call 62; (with_reducible refine (spec_l01In.calls ((rd_T69 l0_2 x6_3).f1) 0 40 true _ A33.out).mono ?_); rintro e w' ⟨rfl, ⟨nd, rfl⟩⟩; (try first | exact ⟨rfl, _, World.drewN_drewN _ _ _⟩ | exact ⟨rfl, _, Eq.trans (World.drewN_drewN _ _ _) (congrArg (World.drewN _) (Nat.add_assoc _ _ _))⟩))))
              go_meet
              case rel => exact ⟨_, (decide ((((rd_T69 l0_2 x6_3).f2).length : Int) > ((rd_T69 l0_2 x6_3).f1))), (by first | rfl | (simp; done) | (simp [*]; done)), H', ⟨by have := HJ1.out; have := HK2.out; have := HK3.out; first | omega | exact Nat.le_refl _⟩, ⟨by (with_reducible repeat (first | apply Kd.R_alloc | apply Kd.R_drewN | apply Kd.R_drew)); exact Kd.R_mono (Kd.R_far (p := ⟨gb268, 2, none⟩) (Kd.R_far (p := ⟨gb268, 1, none⟩) (Kd.R_far (p := ⟨gb268, 0, none⟩) (Kd.R_types HO_4.out BK268.out (by decide)) (fun _ hk => hk.2) (.int .i64 ((rd_T69 l0_2 x6_3).f0))) (fun _ hk => hk.2) (.int .i64 ((rd_T69 l0_2 x6_3).f1))) (fun _ hk => hk.2) (.slice A267_2 ((rd_T69 l0_2 x6_3).f2).length c267_2)) (fun _ hk => trivial)⟩, ⟨by (with_reducible repeat (first | refine blk_drewN ?_ _ | refine blk_drew ?_ | refine blk_alloc ?_ _)); refine blk_far ?_ NB256_268.out _; (with_reducible repeat (first | refine blk_drewN ?_ _ | refine blk_drew ?_ | refine blk_alloc ?_ _)); refine blk_far ?_ NB256_268.out _; (with_reducible repeat (first | refine blk_drewN ?_ _ | refine blk_drew ?_ | refine blk_alloc ?_ _)); refine blk_far ?_ NB256_268.out _; (with_reducible repeat (first | refine blk_drewN ?_ _ | refine blk_drew ?_ | refine blk_alloc ?_ _)); exact BK256.out⟩, ⟨by (with_reducible repeat (first | refine blk_drewN ?_ _ | refine blk_drew ?_ | refine blk_alloc ?_ _)); refine blk_put (cs := #[.int .i64 ((rd_T69 l0_2 x6_3).f0), .int .i64 ((rd_T69 l0_2 x6_3).f1), .slice none 0 0]) ?_ 2 _ rfl; (with_reducible repeat (first | refine blk_drewN ?_ _ | refine blk_drew ?_ | refine blk_alloc ?_ _)); refine blk_put (cs := #[.int .i64 ((rd_T69 l0_2 x6_3).f0), .int .i64 0, .slice none 0 0]) ?_ 1 _ rfl; (with_reducible repeat (first | refine blk_drewN ?_ _ | refine blk_drew ?_ | refine blk_alloc ?_ _)); refine blk_put (cs := #[.int .i64 0, .int .i64 0, .slice none 0 0]) ?_ 0 _ rfl; (with_reducible repeat (first | refine blk_drewN ?_ _ | refine blk_drew ?_ | refine blk_alloc ?_ _)); exact BK268.out⟩, ⟨by repeat (first | (with_reducible first | exact HB.out | apply below_alloc | apply pw_below_drewN | apply below_drew1 | refine below_set ?_ GE256.out | refine below_set ?_ GE268.out) | exact HB.out)⟩⟩
             ·replace c34 := Bool.eq_false_iff.mpr c34
              subst c34
              have H1 : (spec_LoopOk.j3 k3 (l0_0.length : Int) x4_3 x6_3 true l0_0 a0_1 l0_2 l0_3 ((rd_T69 l0_2 x6_3).f0) ((rd_T69 l0_2 x6_3).f1) ((rd_T69 l0_2 x6_3).f2)) = some r := by rw [if_neg (show ¬ (false = true) by decide)] at H; exact H
              clear H
              have H := H1
              clear H1
              have H' := Aside0.mk H
              clear H
              have hnb37 := NB268_256.out
              have hnc37 := NB256_268.out
              have hcz38_0 : w28.cell? ⟨gb268, 0, none⟩ = some (.int .i64 0) := (blk_cell BK268.out 0).trans rfl
              have hcz38_1 : w28.cell? ⟨gb268, 1, none⟩ = some (.int .i64 0) := (blk_cell BK268.out 1).trans rfl
              have hcz38_2 : w28.cell? ⟨gb268, 2, none⟩ = some (.slice none 0 0) := (blk_cell BK268.out 2).trans rfl
              have hfz38_0 := blk_frozen BK268.out 0
              have hfz38_1 := blk_frozen BK268.out 1
              have hfz38_2 := blk_frozen BK268.out 2
              go_wp2_with (first | (go_at_call 62; (with_reducible refine (spec_l01In.calls ((rd_T69 l0_2 x6_3).f0) 0 (wrap64 ((l0_0.length : Int) - 1)) true _ A31.out).mono ?_); rintro e w' ⟨rfl, ⟨nd, rfl⟩⟩; (try first | exact ⟨rfl, _, World.drewN_drewN _ _ _⟩ | exact ⟨rfl, _, Eq.trans (World.drewN_drewN _ _ _) (congrArg (World.drewN _) (Nat.add_assoc _ _ _))⟩)) | (go_at_call 62; (with_reducible refine (spec_l01In.calls ((rd_T69 l0_2 x6_3).f1) 0 40 false _ A33.out).mono ?_); rintro e w' ⟨rfl, ⟨nd, rfl⟩⟩; (try first | exact ⟨rfl, _, World.drewN_drewN _ _ _⟩ | exact ⟨rfl, _, Eq.trans (World.drewN_drewN _ _ _) (congrArg (World.drewN _) (Nat.add_assoc _ _ _))⟩)))
              repeat (go_quiet (first | (go_at_call 62; (with_reducible refine (spec_l01In.calls ((rd_T69 l0_2 x6_3).f0) 0 (wrap64 ((l0_0.length : Int) - 1)) true _ A31.out).mono ?_); rintro e w' ⟨rfl, ⟨nd, rfl⟩⟩; (try first | exact ⟨rfl, _, World.drewN_drewN _ _ _⟩ | exact ⟨rfl, _, Eq.trans (World.drewN_drewN _ _ _) (congrArg (World.drewN _) (Nat.add_assoc _ _ _))⟩)) | (go_at_call 62; (with_reducible refine (spec_l01In.calls ((rd_T69 l0_2 x6_3).f1) 0 40 false _ A33.out).mono ?_); rintro e w' ⟨rfl, ⟨nd, rfl⟩⟩; (try first | exact ⟨rfl, _, World.drewN_drewN _ _ _⟩ | exact ⟨rfl, _, Eq.trans (World.drewN_drewN _ _ _) (congrArg (World.drewN _) (Nat.add_assoc _ _ _))⟩))); try go_wp2_with (first | (go_at_call 62; (with_reducible refine (spec_l01In.calls ((rd_T69 l0_2 x6_3).f0) 0 (wrap64 ((l0_0.length : Int) - 1)) true _ A31.out).mono ?_); rintro e w' ⟨rfl, ⟨nd, rfl⟩⟩; (try first | exact ⟨rfl, _, World.drewN_drewN _ _ _⟩ | exact ⟨rfl, _, Eq.trans (World.drewN_drewN _ _ _) (congrArg (World.drewN _) (Nat.add_assoc _ _ _))⟩)) | (go_at_call 62; (with_reducible refine (spec_l01In.calls ((rd_T69 l0_2 x6_3).f1) 0 40 false _ A33.out).mono ?_); rintro e w' ⟨rfl, ⟨nd, rfl⟩⟩; (try first | exact ⟨rfl, _, World.drewN_drewN _ _ _⟩ | exact ⟨rfl, _, Eq.trans (World.drewN_drewN _ _ _) (congrArg (World.drewN _) (Nat.add_assoc _ _ _))⟩))))
              go_meet
              case rel => exact ⟨_, (true), (by first | rfl | (simp; done) | (simp [*]; done)), H', ⟨by have := HJ1.out; have := HK2.out; have := HK3.out; first | omega | exact Nat.le_refl _⟩, ⟨by (with_reducible repeat (first | apply Kd.R_alloc | apply Kd.R_drewN | apply Kd.R_drew)); exact Kd.R_mono (Kd.R_far (p := ⟨gb268, 2, none⟩) (Kd.R_far (p := ⟨gb268, 1, none⟩) (Kd.R_far (p := ⟨gb268, 0, none⟩) (Kd.R_types HO_4.out BK268.out (by decide)) (fun _ hk => hk.2) (.int .i64 ((rd_T69 l0_2 x6_3).f0))) (fun _ hk => hk.2) (.int .i64 ((rd_T69 l0_2 x6_3).f1))) (fun _ hk => hk.2) (.slice A267_2 ((rd_T69 l0_2 x6_3).f2).length c267_2)) (fun _ hk => trivial)⟩, ⟨by (with_reducible repeat (first | refine blk_drewN ?_ _ | refine blk_drew ?_ | refine blk_alloc ?_ _)); refine blk_far ?_ NB256_268.out _; (with_reducible repeat (first | refine blk_drewN ?_ _ | refine blk_drew ?_ | refine blk_alloc ?_ _)); refine blk_far ?_ NB256_268.out _; (with_reducible repeat (first | refine blk_drewN ?_ _ | refine blk_drew ?_ | refine blk_alloc ?_ _)); refine blk_far ?_ NB256_268.out _; (with_reducible repeat (first | refine blk_drewN ?_ _ | refine blk_drew ?_ | refine blk_alloc ?_ _)); exact BK256.out⟩, ⟨by (with_reducible repeat (first | refine blk_drewN ?_ _ | refine blk_drew ?_ | refine blk_alloc ?_ _)); refine blk_put (cs := #[.int .i64 ((rd_T69 l0_2 x6_3).f0), .int .i64 ((rd_T69 l0_2 x6_3).f1), .slice none 0 0]) ?_ 2 _ rfl; (with_reducible repeat (first | refine blk_drewN ?_ _ | refine blk_drew ?_ | refine blk_alloc ?_ _)); refine blk_put (cs := #[.int .i64 ((rd_T69 l0_2 x6_3).f0), .int .i64 0, .slice none 0 0]) ?_ 1 _ rfl; (with_reducible repeat (first | refine blk_drewN ?_ _ | refine blk_drew ?_ | refine blk_alloc ?_ _)); refine blk_put (cs := #[.int .i64 0, .int .i64 0, .slice none 0 0]) ?_ 0 _ rfl; (with_reducible repeat (first | refine blk_drewN ?_ _ | refine blk_drew ?_ | refine blk_alloc ?_ _)); exact BK268.out⟩, ⟨by repeat (first | (with_reducible first | exact HB.out | apply below_alloc | apply pw_below_drewN | apply below_drew1 | refine below_set ?_ GE256.out | refine below_set ?_ GE268.out) | exact HB.out)⟩⟩
            ·replace c32 := Bool.eq_false_iff.mpr c32
             subst c32
             have H1 : (spec_LoopOk.j3 k3 (l0_0.length : Int) x4_3 x6_3 true l0_0 a0_1 l0_2 l0_3 ((rd_T69 l0_2 x6_3).f0) ((rd_T69 l0_2 x6_3).f1) ((rd_T69 l0_2 x6_3).f2)) = some r := by rw [if_neg (show ¬ (false = true) by decide)] at H; exact H
             clear H
             have H := H1
             clear H1
             have H' := Aside0.mk H
             clear H
             have hnb39 := NB268_256.out
             have hnc39 := NB256_268.out
             have hcz40_0 : w28.cell? ⟨gb268, 0, none⟩ = some (.int .i64 0) := (blk_cell BK268.out 0).trans rfl
             have hcz40_1 : w28.cell? ⟨gb268, 1, none⟩ = some (.int .i64 0) := (blk_cell BK268.out 1).trans rfl
             have hcz40_2 : w28.cell? ⟨gb268, 2, none⟩ = some (.slice none 0 0) := (blk_cell BK268.out 2).trans rfl
             have hfz40_0 := blk_frozen BK268.out 0
             have hfz40_1 := blk_frozen BK268.out 1
             have hfz40_2 := blk_frozen BK268.out 2
             go_wp2_with (first | (go_at_call 62; (with_reducible refine (spec_l01In.calls ((rd_T69 l0_2 x6_3).f0) 0 (wrap64 ((l0_0.length : Int) - 1)) false _ A31.out).mono ?_); rintro e w' ⟨rfl, ⟨nd, rfl⟩⟩; (try first | exact ⟨rfl, _, World.drewN_drewN _ _ _⟩ | exact ⟨rfl, _, Eq.trans (World.drewN_drewN _ _ _) (congrArg (World.drewN _) (Nat.add_assoc _ _ _))⟩)))
             repeat (go_quiet (first | (go_at_call 62; (with_reducible refine (spec_l01In.calls ((rd_T69 l0_2 x6_3).f0) 0 (wrap64 ((l0_0.length : Int) - 1)) false _ A31.out).mono ?_); rintro e w' ⟨rfl, ⟨nd, rfl⟩⟩; (try first | exact ⟨rfl, _, World.drewN_drewN _ _ _⟩ | exact ⟨rfl, _, Eq.trans (World.drewN_drewN _ _ _) (congrArg (World.drewN _) (Nat.add_assoc _ _ _))⟩))); try go_wp2_with (first | (go_at_call 62; (with_reducible refine (spec_l01In.calls ((rd_T69 l0_2 x6_3).f0) 0 (wrap64 ((l0_0.length : Int) - 1)) false _ A31.out).mono ?_); rintro e w' ⟨rfl, ⟨nd, rfl⟩⟩; (try first | exact ⟨rfl, _, World.drewN_drewN _ _ _⟩ | exact ⟨rfl, _, Eq.trans (World.drewN_drewN _ _ _) (congrArg (World.drewN _) (Nat.add_assoc _ _ _))⟩))))
             go_meet
             case rel => exact ⟨_, (true), (by first | rfl | (simp; done) | (simp [*]; done)), H', ⟨by have := HJ1.out; have := HK2.out; have := HK3.out; first | omega | exact Nat.le_refl _⟩, ⟨by (with_reducible repeat (first | apply Kd.R_alloc | apply Kd.R_drewN | apply Kd.R_drew)); exact Kd.R_mono (Kd.R_far (p := ⟨gb268, 2, none⟩) (Kd.R_far (p := ⟨gb268, 1, none⟩) (Kd.R_far (p := ⟨gb268, 0, none⟩) (Kd.R_types HO_4.out BK268.out (by decide)) (fun _ hk => hk.2) (.int .i64 ((rd_T69 l0_2 x6_3).f0))) (fun _ hk => hk.2) (.int .i64 ((rd_T69 l0_2 x6_3).f1))) (fun _ hk => hk.2) (.slice A267_2 ((rd_T69 l0_2 x6_3).f2).length c267_2)) (fun _ hk => trivial)⟩, ⟨by (with_reducible repeat (first | refine blk_drewN ?_ _ | refine blk_drew ?_ | refine blk_alloc ?_ _)); refine blk_far ?_ NB256_268.out _; (with_reducible repeat (first | refine blk_drewN ?_ _ | refine blk_drew ?_ | refine blk_alloc ?_ _)); refine blk_far ?_ NB256_268.out _; (with_reducible repeat (first | refine blk_drewN ?_ _ | refine blk_drew ?_ | refine blk_alloc ?_ _)); refine blk_far ?_ NB256_268.out _; (with_reducible repeat (first | refine blk_drewN ?_ _ | refine blk_drew ?_ | refine blk_alloc ?_ _)); exact BK256.out⟩, ⟨by (with_reducible repeat (first | refine blk_drewN ?_ _ | refine blk_drew ?_ | refine blk_alloc ?_ _)); refine blk_put (cs := #[.int .i64 ((rd_T69 l0_2 x6_3).f0), .int .i64 ((rd_T69 l0_2 x6_3).f1), .slice none 0 0]) ?_ 2 _ rfl; (with_reducible repeat (first | refine blk_drewN ?_ _ | refine blk_drew ?_ | refine blk_alloc ?_ _)); refine blk_put (cs := #[.int .i64 ((rd_T69 l0_2 x6_3).f0), .int .i64 0, .slice none 0 0]) ?_ 1 _ rfl; (with_reducible repeat (first | refine blk_drewN ?_ _ | refine blk_drew ?_ | refine blk_alloc ?_ _)); refine blk_put (cs := #[.int .i64 0, .int .i64 0, .slice none 0 0]) ?_ 0 _ rfl; (with_reducible repeat (first | refine blk_drewN ?_ _ | refine blk_drew ?_ | refine blk_alloc ?_ _)); exact BK268.out⟩, ⟨by repeat (first | (with_reducible first | exact HB.out | apply below_alloc | apply pw_below_drewN | apply below_drew1 | refine below_set ?_ GE256.out | refine below_set ?_ GE268.out) | exact HB.out)⟩⟩
           case rest =>
            clear HC26
            try clear c1
            try clear c2
            try clear p2
            try clear q2
            try clear hx2
            try clear c3
            try clear c6
            try clear p6
            try clear c8
            try clear c9
            try clear c9b0
            try clear c9b1
            try clear c13
            try clear c16
            try clear c16b0
            try clear c17
            try clear c17b0
            try clear c18
            try clear c18b0
            try clear c19
            try clear c19b0
            try clear c19b1
            try clear c21
            try clear c23
            try clear c24
            try clear c24b0
            try clear c25
            try clear c25b0
            try clear c26
            try clear p26
            try clear q26
            try clear hx26
            try clear c29
            try clear c32
            try clear c34
            try clear c35
            try clear c37
            try clear c39
            try clear hcz10_0
            try clear hcz10_1
            try clear hcz10_2
            try clear hcz10_3
            try clear hcz11_0
            try clear hcz11_1
            try clear hcz11_2
            try clear hcz11_3
            try clear hcz12_0
            try clear hcz12_1
            try clear hcz12_2
            try clear hcz12_3
            try clear hcz20_0
            try clear hcz20_1
            try clear hcz20_2
            try clear hcz20_3
            try clear hcz22_0
            try clear hcz22_1
            try clear hcz22_2
            try clear hcz22_3
            try clear hcz27_0
            try clear hcz27_1
            try clear hcz27_2
            try clear hcz27_3
            try clear hcz30_0
            try clear hcz30_1
            try clear hcz30_2
            try clear hcz36_0
            try clear hcz36_1
            try clear hcz36_2
            try clear hcz38_0
            try clear hcz38_1
            try clear hcz38_2
            try clear hcz40_0
            try clear hcz40_1
            try clear hcz40_2
            try clear hcz4_0
            try clear hcz4_1
            try clear hcz4_2
            try clear hcz4_3
            try clear hfz10_0
            try clear hfz10_1
            try clear hfz10_2
            try clear hfz10_3
            try clear hfz11_0
            try clear hfz11_1
            try clear hfz11_2
            try clear hfz11_3
            try clear hfz12_0
            try clear hfz12_1
            try clear hfz12_2
            try clear hfz12_3
            try clear hfz20_0
            try clear hfz20_1
            try clear hfz20_2
            try clear hfz20_3
            try clear hfz22_0
            try clear hfz22_1
            try clear hfz22_2
            try clear hfz22_3
            try clear hfz27_0
            try clear hfz27_1
            try clear hfz27_2
            try clear hfz27_3
            try clear hfz30_0
            try clear hfz30_1
            try clear hfz30_2
            try clear hfz36_0
            try clear hfz36_1
            try clear hfz36_2
            try clear hfz38_0
            try clear hfz38_1
            try clear hfz38_2
            try clear hfz40_0
            try clear hfz40_1
            try clear hfz40_2
            try clear hfz4_0
            try clear hfz4_1
            try clear hfz4_2
            try clear hfz4_3
            try clear hx262_0
            try clear hx263_0
            try clear hx267_0
            try clear hx267_1
            try clear hx267_2
            try clear p2
            try clear p262
            try clear p263
            try clear p267
            try clear p6
            try clear q2
            try clear q262
            try clear q263
            try clear q267
            obtain ⟨kq, x91_25, rfl, HA, HJ25, HO_4, BK256, BK268, HB⟩ := hcut
            cases kq with
            | zero => exact absurd HA.out (by simp [spec_LoopOk.j3])
            | succ kj25 =>
             have H := HA.out
             clear HA
             simp only [spec_LoopOk.j3] at H
             by_cases c41 : x91_25 = true
             ·subst c41
              have H1 : (some false) = some r := by rw [if_pos rfl] at H; exact H
              clear H
              have H := H1
              clear H1
              obtain rfl := Option.some.inj H
              go_wp2
              repeat (go_quiet (fail); try go_wp2)
              go_ret
              exact ⟨by first | rfl | (simp [errW_none, errW_some] <;> rfl) | (simp [*, errW_none, errW_some] <;> rfl), by repeat (first | (with_reducible first | exact HB.out | apply below_alloc | apply pw_below_drewN | apply below_drew1 | refine below_set ?_ GE256.out | refine below_set ?_ GE268.out) | exact HB.out)⟩
             ·replace c41 := Bool.eq_false_iff.mpr c41
              subst c41
              have H1 : (spec_LoopOk.l2 kj25 (l0_0.length : Int) x4_3 x6_3 0 l0_0 a0_1 l0_2 l0_3 ((rd_T69 l0_2 x6_3).f0) ((rd_T69 l0_2 x6_3).f1) ((rd_T69 l0_2 x6_3).f2)) = some r := by rw [if_neg (show ¬ (false = true) by decide)] at H; exact H
              clear H
              have H := H1
              clear H1
              have H' := Aside0.mk H
              clear H
              go_wp2
              repeat (go_quiet (fail); try go_wp2)
              go_loopg [8] kj25 (fun kq v8 w' => ∃ (x8_5 : Int), v8 = .int .i64 x8_5 ∧ Aside0 (spec_LoopOk.l2 kq (l0_0.length : Int) x4_3 x6_3 x8_5 l0_0 a0_1 l0_2 l0_3 ((rd_T69 l0_2 x6_3).f0) ((rd_T69 l0_2 x6_3).f1) ((rd_T69 l0_2 x6_3).f2) = some r) ∧ Aside0 (kq ≤ kj25) ∧ Aside0 (Kd.R (Kd.int .i64) 3 w' w.heap.size (fun _ => True) u4 x4_3) ∧ Aside0 (w'.heap[gb256]? = some (.cells #[(.slice A0_0 l0_0.length c0_0), .int .i64 a0_1, (.slice (some ad267) l0_2.length c0_2), (.slice A0_3 l0_3.length c0_3)] 28 (0, 0))) ∧ Aside0 (w'.heap[gb268]? = some (.cells #[.int .i64 ((rd_T69 l0_2 x6_3).f0), .int .i64 ((rd_T69 l0_2 x6_3).f1), (.slice A267_2 ((rd_T69 l0_2 x6_3).f2).length c267_2)] 69 (0, 0))) ∧ Aside0 (Below w.heap.size w w'))
              case atStart => exact ⟨(0), (by first | rfl | (simp; done) | (simp [*]; done)), H', ⟨Nat.le_refl _⟩, ⟨by (with_reducible repeat (first | apply Kd.R_alloc | apply Kd.R_drewN | apply Kd.R_drew)); exact HO_4.out⟩, ⟨by (with_reducible repeat (first | refine blk_drewN ?_ _ | refine blk_drew ?_ | refine blk_alloc ?_ _)); exact BK256.out⟩, ⟨by (with_reducible repeat (first | refine blk_drewN ?_ _ | refine blk_drew ?_ | refine blk_alloc ?_ _)); exact BK268.out⟩, ⟨by repeat (first | (with_reducible first | exact HB.out | apply below_alloc | apply pw_below_drewN | apply below_drew1 | refine below_set ?_ GE256.out | refine below_set ?_ GE268.out) | exact HB.out)⟩⟩
              case round =>
               clear H'
               try clear c1
               try clear c2
               try clear p2
               try clear q2
               try clear hx2
               try clear c3
               try clear c4
               try clear c6
               try clear p6
               try clear c8
               try clear c9
               try clear c9b0
               try clear c9b1
               try clear c13
               try clear c16
               try clear c16b0
               try clear c17
               try clear c17b0
               try clear c18
               try clear c18b0
               try clear c19
               try clear c19b0
               try clear c19b1
               try clear c21
               try clear c23
               try clear c24
               try clear c24b0
               try clear c25
               try clear c25b0
               try clear c26
               try clear p26
               try clear q26
               try clear hx26
               try clear c29
               try clear c32
               try clear c34
               try clear c35
               try clear c37
               try clear c39
               try clear c41
               try clear hcz10_0
               try clear hcz10_1
               try clear hcz10_2
               try clear hcz10_3
               try clear hcz11_0
               try clear hcz11_1
               try clear hcz11_2
               try clear hcz11_3
               try clear hcz12_0
               try clear hcz12_1
               try clear hcz12_2
               try clear hcz12_3
               try clear hcz20_0
               try clear hcz20_1
               try clear hcz20_2
               try clear hcz20_3
               try clear hcz22_0
               try clear hcz22_1
               try clear hcz22_2
               try clear hcz22_3
               try clear hcz27_0
               try clear hcz27_1
               try clear hcz27_2
               try clear hcz27_3
               try clear hcz30_0
               try clear hcz30_1
               try clear hcz30_2
               try clear hcz36_0
               try clear hcz36_1
               try clear hcz36_2
               try clear hcz38_0
               try clear hcz38_1
               try clear hcz38_2
               try clear hcz40_0
               try clear hcz40_1
               try clear hcz40_2
               try clear hcz4_0
               try clear hcz4_1
               try clear hcz4_2
               try clear hcz4_3
               try clear hfz10_0
               try clear hfz10_1
               try clear hfz10_2
               try clear hfz10_3
               try clear hfz11_0
               try clear hfz11_1
               try clear hfz11_2
               try clear hfz11_3
               try clear hfz12_0
               try clear hfz12_1
               try clear hfz12_2
               try clear hfz12_3
               try clear hfz20_0
               try clear hfz20_1
               try clear hfz20_2
               try clear hfz20_3
               try clear hfz22_0
               try clear hfz22_1
               try clear hfz22_2
               try clear hfz22_3
               try clear hfz27_0
               try clear hfz27_1
               try clear hfz27_2
               try clear hfz27_3
               try clear hfz30_0
               try clear hfz30_1
               try clear hfz30_2
               try clear hfz36_0
               try clear hfz36_1
               try clear hfz36_2
               try clear hfz38_0
               try clear hfz38_1
               try clear hfz38_2
               try clear hfz40_0
               try clear hfz40_1
               try clear hfz40_2
               try clear hfz4_0
               try clear hfz4_1
               try clear hfz4_2
               try clear hfz4_3
               try clear hx262_0
               try clear hx263_0
               try clear hx267_0
               try clear hx267_1
               try clear hx267_2
               try clear p2
               try clear p26
               try clear p262
               try clear p263
               try clear p267
               try clear p6
               try clear q2
               try clear q26
               try clear q262
               try clear q263
               try clear q267
               obtain ⟨x8_5, rfl, HA, HK5, HO_4, BK256, BK268, HB⟩ := hrel
               cases gk with
               | zero => exact absurd HA.out (by simp [spec_LoopOk.l2])
               | succ k5 =>
                have H := HA.out
                clear HA
                simp only [spec_LoopOk.l2] at H
                by_cases c42 : x8_5 < x6_3
                ·rw [if_pos c42] at H
                 have c42b0 : decide (x8_5 < x6_3) = true := decide_eq_true c42
                 clear c42
                 by_cases c43 : 0 ≤ x8_5
                 ·rw [if_pos c43] at H
                  have c43b0 : decide (0 ≤ x8_5) = true := decide_eq_true c43
                  clear c43
                  by_cases c44 : x8_5 < (l0_2.length : Int)
                  ·rw [if_pos c44] at H
                   have c44b0 : decide (x8_5 < (l0_2.length : Int)) = true := decide_eq_true c44
                   clear c44
                   by_cases c45 : ((rd_T69 l0_2 x8_5).f0) = ((rd_T69 l0_2 x6_3).f0)
                   ·rw [if_pos c45] at H
                    have c45b0 : (((rd_T69 l0_2 x8_5).f0) == ((rd_T69 l0_2 x6_3).f0)) = true := beq_iff_eq.mpr c45
                    have c45b1 : (((rd_T69 l0_2 x8_5).f0) != ((rd_T69 l0_2 x6_3).f0)) = false := bne_eq_false_iff_eq.mpr c45
                    clear c45
                    obtain rfl := Option.some.inj H
                    have hnb46 := NB256_268.out
                    have hnc46 := NB268_256.out
                    have hcz47_0 : wr.cell? ⟨gb256, 0, none⟩ = some (.slice A0_0 l0_0.length c0_0) := (blk_cell BK256.out 0).trans rfl
                    have hcz47_1 : wr.cell? ⟨gb256, 1, none⟩ = some (.int .i64 a0_1) := (blk_cell BK256.out 1).trans rfl
                    have hcz47_2 : wr.cell? ⟨gb256, 2, none⟩ = some (.slice (some ad267) l0_2.length c0_2) := (blk_cell BK256.out 2).trans rfl
                    have hcz47_3 : wr.cell? ⟨gb256, 3, none⟩ = some (.slice A0_3 l0_3.length c0_3) := (blk_cell BK256.out 3).trans rfl
                    have hfz47_0 := blk_frozen BK256.out 0
                    have hfz47_1 := blk_frozen BK256.out 1
                    have hfz47_2 := blk_frozen BK256.out 2
                    have hfz47_3 := blk_frozen BK256.out 3
                    have p274 : 0 ≤ (x8_5 : Int) := of_decide_eq_true (by first | (with_reducible assumption) | assumption)
                    have q274 : x8_5 < (l0_2.length : Int) := of_decide_eq_true (by first | (with_reducible assumption) | assumption)
                    obtain ⟨ad274, A274_2, c274_2, e274, hx274_0, hx274_1, hx274_2, hl274_2, hi274_2⟩ := at_T69 HR0_2.out x8_5 p274 q274
                    obtain rfl : ad267 = ad274 := (by injection e274)
                    replace hx274_0 := (HB.out.cell (World.block_lt_of_cell? w _ hx274_0)).trans hx274_0
                    replace hx274_1 := (HB.out.cell (World.block_lt_of_cell? w _ hx274_1)).trans hx274_1
                    replace hx274_2 := (HB.out.cell (World.block_lt_of_cell? w _ hx274_2)).trans hx274_2
                    have HR274_2 := Aside0.mk hi274_2
                    have HC274_2 := Aside0.mk hl274_2
                    clear hi274_2 hl274_2
                    replace p274 := eq_true p274
                    replace q274 := eq_true q274
                    have hcz48_0 : wr.cell? ⟨gb268, 0, none⟩ = some (.int .i64 ((rd_T69 l0_2 x6_3).f0)) := (blk_cell BK268.out 0).trans rfl
                    have hcz48_1 : wr.cell? ⟨gb268, 1, none⟩ = some (.int .i64 ((rd_T69 l0_2 x6_3).f1)) := (blk_cell BK268.out 1).trans rfl
                    have hcz48_2 : wr.cell? ⟨gb268, 2, none⟩ = some (.slice A267_2 ((rd_T69 l0_2 x6_3).f2).length c267_2) := (blk_cell BK268.out 2).trans rfl
                    have hfz48_0 := blk_frozen BK268.out 0
                    have hfz48_1 := blk_frozen BK268.out 1
                    have hfz48_2 := blk_frozen BK268.out 2
                    go_wp2
                    repeat (go_quiet (fail); try go_wp2)
                    go_ret
                    exact ⟨by first | rfl | (simp [errW_none, errW_some] <;> rfl) | (simp [*, errW_none, errW_some] <;> rfl), by repeat (first | (with_reducible first | exact HB.out | apply below_alloc | apply pw_below_drewN | apply below_drew1 | refine below_set ?_ GE256.out | refine below_set ?_ GE268.out) | exact HB.out)⟩
                   ·rw [if_neg c45] at H
                    have c45b0 : (((rd_T69 l0_2 x8_5).f0) == ((rd_T69 l0_2 x6_3).f0)) = false := beq_eq_false_iff_ne.mpr c45
                    have c45b1 : (((rd_T69 l0_2 x8_5).f0) != ((rd_T69 l0_2 x6_3).f0)) = true := bne_iff_ne.mpr c45
                    have H' := Aside0.mk H
                    clear H
                    have hnb49 := NB256_268.out
                    have hnc49 := NB268_256.out
                    have hcz50_0 : wr.cell? ⟨gb256, 0, none⟩ = some (.slice A0_0 l0_0.length c0_0) := (blk_cell BK256.out 0).trans rfl
                    have hcz50_1 : wr.cell? ⟨gb256, 1, none⟩ = some (.int .i64 a0_1) := (blk_cell BK256.out 1).trans rfl
                    have hcz50_2 : wr.cell? ⟨gb256, 2, none⟩ = some (.slice (some ad267) l0_2.length c0_2) := (blk_cell BK256.out 2).trans rfl
                    have hcz50_3 : wr.cell? ⟨gb256, 3, none⟩ = some (.slice A0_3 l0_3.length c0_3) := (blk_cell BK256.out 3).trans rfl
                    have hfz50_0 := blk_frozen BK256.out 0
                    have hfz50_1 := blk_frozen BK256.out 1
                    have hfz50_2 := blk_frozen BK256.out 2
                    have hfz50_3 := blk_frozen BK256.out 3
                    have p274 : 0 ≤ (x8_5 : Int) := of_decide_eq_true (by first | (with_reducible assumption) | assumption)
                    have q274 : x8_5 < (l0_2.length : Int) := of_decide_eq_true (by first | (with_reducible assumption) | assumption)
                    obtain ⟨ad274, A274_2, c274_2, e274, hx274_0, hx274_1, hx274_2, hl274_2, hi274_2⟩ := at_T69 HR0_2.out x8_5 p274 q274
                    obtain rfl : ad267 = ad274 := (by injection e274)
                    replace hx274_0 := (HB.out.cell (World.block_lt_of_cell? w _ hx274_0)).trans hx274_0
                    replace hx274_1 := (HB.out.cell (World.block_lt_of_cell? w _ hx274_1)).trans hx274_1
                    replace hx274_2 := (HB.out.cell (World.block_lt_of_cell? w _ hx274_2)).trans hx274_2
                    have HR274_2 := Aside0.mk hi274_2
                    have HC274_2 := Aside0.mk hl274_2
                    clear hi274_2 hl274_2
                    replace p274 := eq_true p274
                    replace q274 := eq_true q274
                    have hcz51_0 : wr.cell? ⟨gb268, 0, none⟩ = some (.int .i64 ((rd_T69 l0_2 x6_3).f0)) := (blk_cell BK268.out 0).trans rfl
                    have hcz51_1 : wr.cell? ⟨gb268, 1, none⟩ = some (.int .i64 ((rd_T69 l0_2 x6_3).f1)) := (blk_cell BK268.out 1).trans rfl
                    have hcz51_2 : wr.cell? ⟨gb268, 2, none⟩ = some (.slice A267_2 ((rd_T69 l0_2 x6_3).f2).length c267_2) := (blk_cell BK268.out 2).trans rfl
                    have hfz51_0 := blk_frozen BK268.out 0
                    have hfz51_1 := blk_frozen BK268.out 1
                    have hfz51_2 := blk_frozen BK268.out 2
                    go_wp2
                    repeat (go_quiet (fail); try go_wp2)
                    go_roundg k5
                    case measure => have := HJ1.out; have := HK2.out; have := HK3.out; have := HJ25.out; have := HK5.out; omega
                    case rel => exact ⟨(wrap64 (x8_5 + 1)), (by first | rfl | (simp; done) | (simp [*]; done)), H', ⟨by have := HJ1.out; have := HK2.out; have := HK3.out; have := HJ25.out; have := HK5.out; omega⟩, ⟨by (with_reducible repeat (first | apply Kd.R_alloc | apply Kd.R_drewN | apply Kd.R_drew)); exact HO_4.out⟩, ⟨by (with_reducible repeat (first | refine blk_drewN ?_ _ | refine blk_drew ?_ | refine blk_alloc ?_ _)); exact BK256.out⟩, ⟨by (with_reducible repeat (first | refine blk_drewN ?_ _ | refine blk_drew ?_ | refine blk_alloc ?_ _)); exact BK268.out⟩, ⟨by repeat (first | (with_reducible first | exact HB.out | apply below_alloc | apply pw_below_drewN | apply below_drew1 | refine below_set ?_ GE256.out | refine below_set ?_ GE268.out) | exact HB.out)⟩⟩
                  ·rw [if_neg c44] at H
                   exact absurd H (by simp)
                 ·rw [if_neg c43] at H
                  exact absurd H (by simp)
                ·rw [if_neg c42] at H
                 have c42b0 : decide (x8_5 < x6_3) = false := decide_eq_false c42
                 clear c42
                 by_cases c52 : x4_3.length + ((rd_T69 l0_2 x6_3).f2).length < 17592186044416
                 ·rw [if_pos c52] at H
                  have LMc52 := Aside0.mk c52
                  clear c52
                  obtain ⟨y271, hy271⟩ : ∃ y_ : List Int, y_ = (x4_3 ++ ((rd_T69 l0_2 x6_3).f2)) := ⟨_, rfl⟩
                  replace H : (spec_LoopOk.l1 k5 (l0_0.length : Int) y271 (wrap64 (x6_3 + 1)) l0_0 a0_1 l0_2 l0_3) = some r := by first | (rw [hy271]; with_reducible exact H) | (have H2_ := (Option.bind_some _ _).symm.trans H; rw [hy271]; with_reducible exact H2_) | (have H2_ := (Option.bind_some _ _).symm.trans H; with_reducible exact H2_) | with_reducible exact H | (rw [hy271]; exact H) | exact H
                  have Ny271 := Aside0.mk hy271
                  clear hy271
                  have H' := Aside0.mk H
                  clear H
                  have hnb53 := NB268_256.out
                  have hnc53 := NB256_268.out
                  have hcz54_0 : wr.cell? ⟨gb268, 0, none⟩ = some (.int .i64 ((rd_T69 l0_2 x6_3).f0)) := (blk_cell BK268.out 0).trans rfl
                  have hcz54_1 : wr.cell? ⟨gb268, 1, none⟩ = some (.int .i64 ((rd_T69 l0_2 x6_3).f1)) := (blk_cell BK268.out 1).trans rfl
                  have hcz54_2 : wr.cell? ⟨gb268, 2, none⟩ = some (.slice A267_2 ((rd_T69 l0_2 x6_3).f2).length c267_2) := (blk_cell BK268.out 2).trans rfl
                  have hfz54_0 := blk_frozen BK268.out 0
                  have hfz54_1 := blk_frozen BK268.out 1
                  have hfz54_2 := blk_frozen BK268.out 2
                  go_wp2_with (first | ((with_reducible refine gate_builtin (b := .append) (xs := #[.tmp 106, .tmp 108]) rfl ?_); (try (refine gate_guard (by rfl) ?_; dsimp only)); at_builtin; refine Kd.R_append_rows (Kd.int .i64) (w0 := w) w.heap.size rfl (.tmp 106) (.tmp 108) 24 3 (.int .i64 0) 8 rfl Try.underlying24 info3 rfl (by decide) (by omega) u4 x4_3 ((rd_T69 l0_2 x6_3).f2) _ _ _ (fun _ => True) (fun _ => False) rfl rfl ?aO ?aR (fun _ _ h => h) (fun _ h => h.elim) ?aF ?aB ?aS ?aL ?_; (case aR => repeat (first | exact (Kd.C_below HR267_2.out HB.out) | (with_reducible refine Kd.C_alloc ?_ _) | (with_reducible refine Kd.C_drewN ?_ _) | (with_reducible refine Kd.C_drew ?_))); (case aB => exact (by repeat (first | (with_reducible first | exact HB.out | apply below_alloc | apply pw_below_drewN | apply below_drew1 | refine below_set ?_ GE256.out | refine below_set ?_ GE268.out) | exact HB.out))); (case aF => exact (fun _ _ => trivial)); (case aO => exact (by (with_reducible repeat (first | apply Kd.R_alloc | apply Kd.R_drewN | apply Kd.R_drew)); exact HO_4.out)); (case aS => exact (below_size (by repeat (first | (with_reducible first | exact HB.out | apply below_alloc | apply pw_below_drewN | apply below_drew1 | refine below_set ?_ GE256.out | refine below_set ?_ GE268.out) | exact HB.out)))); (case aL => have := LMc52.out; omega); intro v272 w55 ho hb hg hat; rw [← Ny271.out] at ho; have n0_ := Aside0.mk (blk_grown (g := gb256) (o := .cells #[.slice A0_0 l0_0.length c0_0, .int .i64 a0_1, .slice (some ad267) l0_2.length c0_2, .slice A0_3 l0_3.length c0_3] 28 (0, 0)) (by (with_reducible repeat (first | refine blk_drewN ?_ _ | refine blk_drew ?_ | refine blk_alloc ?_ _)); exact BK256.out) hg (Kd.R_ne HO_4.out BK256.out (by decide))); have n1_ := Aside0.mk (blk_grown (g := gb268) (o := .cells #[.int .i64 ((rd_T69 l0_2 x6_3).f0), .int .i64 ((rd_T69 l0_2 x6_3).f1), .slice A267_2 ((rd_T69 l0_2 x6_3).f2).length c267_2] 69 (0, 0)) (by (with_reducible repeat (first | refine blk_drewN ?_ _ | refine blk_drew ?_ | refine blk_alloc ?_ _)); exact BK268.out) hg (Kd.R_ne HO_4.out BK268.out (by decide))); have n2_ := Aside0.mk (hb); have n3_ := Aside0.mk (ho); clear BK256; clear BK268; clear HB; clear HO_4; have BK256 := n0_; have BK268 := n1_; have HB := n2_; have HO273 := n3_; clear n0_ n1_ n2_ n3_; clear ho hb hg hat))
                  repeat (go_quiet (first | ((with_reducible refine gate_builtin (b := .append) (xs := #[.tmp 106, .tmp 108]) rfl ?_); (try (refine gate_guard (by rfl) ?_; dsimp only)); at_builtin; refine Kd.R_append_rows (Kd.int .i64) (w0 := w) w.heap.size rfl (.tmp 106) (.tmp 108) 24 3 (.int .i64 0) 8 rfl Try.underlying24 info3 rfl (by decide) (by omega) u4 x4_3 ((rd_T69 l0_2 x6_3).f2) _ _ _ (fun _ => True) (fun _ => False) rfl rfl ?aO ?aR (fun _ _ h => h) (fun _ h => h.elim) ?aF ?aB ?aS ?aL ?_; (case aR => repeat (first | exact (Kd.C_below HR267_2.out HB.out) | (with_reducible refine Kd.C_alloc ?_ _) | (with_reducible refine Kd.C_drewN ?_ _) | (with_reducible refine Kd.C_drew ?_))); (case aB => exact (by repeat (first | (with_reducible first | exact HB.out | apply below_alloc | apply pw_below_drewN | apply below_drew1 | refine below_set ?_ GE256.out | refine below_set ?_ GE268.out) | exact HB.out))); (case aF => exact (fun _ _ => trivial)); (case aO => exact (by (with_reducible repeat (first | apply Kd.R_alloc | apply Kd.R_drewN | apply Kd.R_drew)); exact HO_4.out)); (case aS => exact (below_size (by repeat (first | (with_reducible first | exact HB.out | apply below_alloc | apply pw_below_drewN | apply below_drew1 | refine below_set ?_ GE256.out | refine below_set ?_ GE268.out) | exact HB.out)))); (case aL => have := LMc52.out; omega); intro v272 w55 ho hb hg hat; rw [← Ny271.out] at ho; have n0_ := Aside0.mk (blk_grown (g := gb256) (o := .cells #[.slice A0_0 l0_0.length c0_0, .int .i64 a0_1, .slice (some ad267) l0_2.length c0_2, .slice A0_3 l0_3.length c0_3] 28 (0, 0)) (by (with_reducible repeat (first | refine blk_drewN ?_ _ | refine blk_drew ?_ | refine blk_alloc ?_ _)); exact BK256.out) hg (Kd.R_ne HO_4.out BK256.out (by decide))); have n1_ := Aside0.mk (blk_grown (g := gb268) (o := .cells #[.int .i64 ((rd_T69 l0_2 x6_3).f0), .int .i64 ((rd_T69 l0_2 x6_3).f1), .slice A267_2 ((rd_T69 l0_2 x6_3).f2).length c267_2] 69 (0, 0)) (by (with_reducible repeat (first | refine blk_drewN ?_ _ | refine blk_drew ?_ | refine blk_alloc ?_ _)); exact BK268.out) hg (Kd.R_ne HO_4.out BK268.out (by decide))); have n2_ := Aside0.mk (hb); have n3_ := Aside0.mk (ho); clear BK256; clear BK268; clear HB; clear HO_4; have BK256 := n0_; have BK268 := n1_; have HB := n2_; have HO273 := n3_; clear n0_ n1_ n2_ n3_; clear ho hb hg hat)); try go_wp2_with (first | ((with_reducible refine gate_builtin (b := .append) (xs := #[.tmp 106, .tmp 108]) rfl ?_); (try (refine gate_guard (by rfl) ?_; dsimp only)); at_builtin; refine Kd.R_append_rows (Kd.int .i64) (w0 := w) w.heap.size rfl (.tmp 106) (.tmp 108) 24 3 (.int .i64 0) 8 rfl Try.underlying24 info3 rfl (by decide) (by omega) u4 x4_3 ((rd_T69 l0_2 x6_3).f2) _ _ _ (fun _ => True) (fun _ => False) rfl rfl ?aO ?aR (fun _ _ h => h) (fun _ h => h.elim) ?aF ?aB ?aS ?aL ?_; (case aR => repeat (first | exact (Kd.C_below HR267_2.out HB.out) | (with_reducible refine Kd.C_alloc ?_ _) | (with_reducible refine Kd.C_drewN ?_ _) | (with_reducible refine Kd.C_drew ?_))); (case aB => exact (by repeat (first | (with_reducible first | exact HB.out | apply below_alloc | apply pw_below_drewN | apply below_drew1 | refine below_set ?_ GE256.out | refine below_set ?_ GE268.out) | exact HB.out))); (case aF => exact (fun _ _ => trivial)); (case aO => exact (by (with_reducible repeat (first | apply Kd.R_alloc | apply Kd.R_drewN | apply Kd.R_drew)); exact HO_4.out)); (case aS => exact (below_size (by repeat (first | (with_reducible first | exact HB.out | apply below_alloc | apply pw_below_drewN | apply below_drew1 | refine below_set ?_ GE256.out | refine below_set ?_ GE268.out) | exact HB.out)))); (case aL => have := LMc52.out; omega); intro v272 w55 ho hb hg hat; rw [← Ny271.out] at ho; have n0_ := Aside0.mk (blk_grown (g := gb256) (o := .cells #[.slice A0_0 l0_0.length c0_0, .int .i64 a0_1, .slice (some ad267) l0_2.length c0_2, .slice A0_3 l0_3.length c0_3] 28 (0, 0)) (by (with_reducible repeat (first | refine blk_drewN ?_ _ | refine blk_drew ?_ | refine blk_alloc ?_ _)); exact BK256.out) hg (Kd.R_ne HO_4.out BK256.out (by decide))); have n1_ := Aside0.mk (blk_grown (g := gb268) (o := .cells #[.int .i64 ((rd_T69 l0_2 x6_3).f0), .int .i64 ((rd_T69 l0_2 x6_3).f1), .slice A267_2 ((rd_T69 l0_2 x6_3).f2).length c267_2] 69 (0, 0)) (by (with_reducible repeat (first | refine blk_drewN ?_ _ | refine blk_drew ?_ | refine blk_alloc ?_ _)); exact BK268.out) hg (Kd.R_ne HO_4.out BK268.out (by decide))); have n2_ := Aside0.mk (hb); have n3_ := Aside0.mk (ho); clear BK256; clear BK268; clear HB; clear HO_4; have BK256 := n0_; have BK268 := n1_; have HB := n2_; have HO273 := n3_; clear n0_ n1_ n2_ n3_; clear ho hb hg hat)))
                  go_roundg k5
                  case measure => have := HJ1.out; have := HK2.out; have := HK3.out; have := HJ25.out; have := HK5.out; omega
                  case rel => exact ⟨(y271), (wrap64 (x6_3 + 1)), (by first | rfl | (simp; done) | (simp [*]; done)), H', ⟨by have := HJ1.out; have := HK2.out; have := HK3.out; have := HJ25.out; have := HK5.out; omega⟩, ⟨by (with_reducible repeat (first | apply Kd.R_alloc | apply Kd.R_drewN | apply Kd.R_drew)); exact HO273.out⟩, ⟨by (with_reducible repeat (first | refine blk_drewN ?_ _ | refine blk_drew ?_ | refine blk_alloc ?_ _)); exact BK256.out⟩, ⟨by repeat (first | (with_reducible first | exact HB.out | apply below_alloc | apply pw_below_drewN | apply below_drew1 | refine below_set ?_ GE256.out | refine below_set ?_ GE268.out) | exact HB.out)⟩⟩
                 ·rw [if_neg c52] at H
                  exact absurd H (by simp)
          ·rw [if_neg c25] at H
           exact absurd H (by simp)
         ·rw [if_neg c24] at H
          have c24b0 : decide (x6_3 < (l0_2.length : Int)) = false := decide_eq_false c24
          clear c24
          have H' := Aside0.mk H
          clear H
          have hcz56_0 : wr.cell? ⟨gb256, 0, none⟩ = some (.slice A0_0 l0_0.length c0_0) := (blk_cell BK256.out 0).trans rfl
          have hcz56_1 : wr.cell? ⟨gb256, 1, none⟩ = some (.int .i64 a0_1) := (blk_cell BK256.out 1).trans rfl
          have hcz56_2 : wr.cell? ⟨gb256, 2, none⟩ = some (.slice A0_2 l0_2.length c0_2) := (blk_cell BK256.out 2).trans rfl
          have hcz56_3 : wr.cell? ⟨gb256, 3, none⟩ = some (.slice A0_3 l0_3.length c0_3) := (blk_cell BK256.out 3).trans rfl
          have hfz56_0 := blk_frozen BK256.out 0
          have hfz56_1 := blk_frozen BK256.out 1
          have hfz56_2 := blk_frozen BK256.out 2
          have hfz56_3 := blk_frozen BK256.out 3
          go_wp2
          repeat (go_quiet (fail); try go_wp2)
          go_loopg [9] k3 (fun kq v9 w' => ∃ (x9_4 : Int), v9 = .int .i64 x9_4 ∧ Aside0 (spec_LoopOk.l3 kq x4_3 x9_4 l0_0 a0_1 l0_2 l0_3 = some r) ∧ Aside0 (kq ≤ k3) ∧ Aside0 (Kd.R (Kd.int .i64) 3 w' w.heap.size (fun _ => True) u4 x4_3) ∧ Aside0 (w'.heap[gb256]? = some (.cells #[(.slice A0_0 l0_0.length c0_0), .int .i64 a0_1, (.slice A0_2 l0_2.length c0_2), (.slice A0_3 l0_3.length c0_3)] 28 (0, 0))) ∧ Aside0 (Below w.heap.size w w'))
          case atStart => exact ⟨(0), (by first | rfl | (simp; done) | (simp [*]; done)), H', ⟨Nat.le_refl _⟩, ⟨by (with_reducible repeat (first | apply Kd.R_alloc | apply Kd.R_drewN | apply Kd.R_drew)); exact HO_4.out⟩, ⟨by (with_reducible repeat (first | refine blk_drewN ?_ _ | refine blk_drew ?_ | refine blk_alloc ?_ _)); exact BK256.out⟩, ⟨by repeat (first | (with_reducible first | exact HB.out | apply below_alloc | apply pw_below_drewN | apply below_drew1 | refine below_set ?_ GE256.out) | exact HB.out)⟩⟩
          case round =>
           clear H'
           try clear c1
           try clear c2
           try clear p2
           try clear q2
           try clear hx2
           try clear c3
           try clear c4
           try clear c5
           try clear c6
           try clear p6
           try clear c8
           try clear c9
           try clear c9b0
           try clear c9b1
           try clear c13
           try clear c16
           try clear c16b0
           try clear c17
           try clear c17b0
           try clear c18
           try clear c18b0
           try clear c19
           try clear c19b0
           try clear c19b1
           try clear c21
           try clear c23
           try clear c24
           try clear c24b0
           try clear c25
           try clear c25b0
           try clear c26
           try clear p26
           try clear q26
           try clear hx26
           try clear c27
           try clear p27
           try clear q27
           try clear hx27
           try clear c29
           try clear c32
           try clear c34
           try clear c35
           try clear c37
           try clear c39
           try clear c41
           try clear c42
           try clear c42b0
           try clear c43
           try clear c43b0
           try clear c44
           try clear c44b0
           try clear c45
           try clear c45b0
           try clear c45b1
           try clear c46
           try clear c49
           try clear c52
           try clear c53
           try clear hcz10_0
           try clear hcz10_1
           try clear hcz10_2
           try clear hcz10_3
           try clear hcz11_0
           try clear hcz11_1
           try clear hcz11_2
           try clear hcz11_3
           try clear hcz12_0
           try clear hcz12_1
           try clear hcz12_2
           try clear hcz12_3
           try clear hcz20_0
           try clear hcz20_1
           try clear hcz20_2
           try clear hcz20_3
           try clear hcz22_0
           try clear hcz22_1
           try clear hcz22_2
           try clear hcz22_3
           try clear hcz27_0
           try clear hcz27_1
           try clear hcz27_2
           try clear hcz27_3
           try clear hcz30_0
           try clear hcz30_1
           try clear hcz30_2
           try clear hcz36_0
           try clear hcz36_1
           try clear hcz36_2
           try clear hcz38_0
           try clear hcz38_1
           try clear hcz38_2
           try clear hcz40_0
           try clear hcz40_1
           try clear hcz40_2
           try clear hcz47_0
           try clear hcz47_1
           try clear hcz47_2
           try clear hcz47_3
           try clear hcz48_0
           try clear hcz48_1
           try clear hcz48_2
           try clear hcz4_0
           try clear hcz4_1
           try clear hcz4_2
           try clear hcz4_3
           try clear hcz50_0
           try clear hcz50_1
           try clear hcz50_2
           try clear hcz50_3
           try clear hcz51_0
           try clear hcz51_1
           try clear hcz51_2
           try clear hcz54_0
           try clear hcz54_1
           try clear hcz54_2
           try clear hcz56_0
           try clear hcz56_1
           try clear hcz56_2
           try clear hcz56_3
           try clear hfz10_0
           try clear hfz10_1
           try clear hfz10_2
           try clear hfz10_3
           try clear hfz11_0
           try clear hfz11_1
           try clear hfz11_2
           try clear hfz11_3
           try clear hfz12_0
           try clear hfz12_1
           try clear hfz12_2
           try clear hfz12_3
           try clear hfz20_0
           try clear hfz20_1
           try clear hfz20_2
           try clear hfz20_3
           try clear hfz22_0
           try clear hfz22_1
           try clear hfz22_2
           try clear hfz22_3
           try clear hfz27_0
           try clear hfz27_1
           try clear hfz27_2
           try clear hfz27_3
           try clear hfz30_0
           try clear hfz30_1
           try clear hfz30_2
           try clear hfz36_0
           try clear hfz36_1
           try clear hfz36_2
           try clear hfz38_0
           try clear hfz38_1
           try clear hfz38_2
           try clear hfz40_0
           try clear hfz40_1
           try clear hfz40_2
           try clear hfz47_0
           try clear hfz47_1
           try clear hfz47_2
           try clear hfz47_3
           try clear hfz48_0
           try clear hfz48_1
           try clear hfz48_2
           try clear hfz4_0
           try clear hfz4_1
           try clear hfz4_2
           try clear hfz4_3
           try clear hfz50_0
           try clear hfz50_1
           try clear hfz50_2
           try clear hfz50_3
           try clear hfz51_0
           try clear hfz51_1
           try clear hfz51_2
           try clear hfz54_0
           try clear hfz54_1
           try clear hfz54_2
           try clear hfz56_0
           try clear hfz56_1
           try clear hfz56_2
           try clear hfz56_3
           try clear hx262_0
           try clear hx263_0
           try clear hx267_0
           try clear hx267_1
           try clear hx267_2
           try clear hx274_0
           try clear hx274_1
           try clear hx274_2
           try clear p2
           try clear p26
           try clear p262
           try clear p263
           try clear p267
           try clear p274
           try clear p6
           try clear q2
           try clear q26
           try clear q262
           try clear q263
           try clear q267
           try clear q274
           obtain ⟨x9_4, rfl, HA, HK4, HO_4, BK256, HB⟩ := hrel
           cases gk with
           | zero => exact absurd HA.out (by simp [spec_LoopOk.l3])
           | succ k4 =>
            have H := HA.out
            clear HA
            simp only [spec_LoopOk.l3] at H
            by_cases c57 : x9_4 < (x4_3.length : Int)
            ·rw [if_pos c57] at H
             have c57b0 : decide (x9_4 < (x4_3.length : Int)) = true := decide_eq_true c57
             clear c57
             by_cases c58 : 0 ≤ x9_4
             ·rw [if_pos c58] at H
              have c58b0 : decide (0 ≤ x9_4) = true := decide_eq_true c58
              clear c58
              by_cases c59 : (rd x4_3 x9_4) < 1
              ·rw [if_pos c59] at H
               have c59b0 : decide ((rd x4_3 x9_4) < 1) = true := decide_eq_true c59
               clear c59
               obtain rfl := Option.some.inj H
               obtain ⟨Ao60, co60, eo60⟩ := Kd.R_slice HO_4.out
               subst eo60
               have p275 : 0 ≤ (x9_4 : Int) := of_decide_eq_true (by first | (with_reducible assumption) | assumption)
               have q275 : x9_4 < (x4_3.length : Int) := of_decide_eq_true (by first | (with_reducible assumption) | assumption)
               obtain ⟨ad275, e275, hx275_0⟩ := Kd.at_int (Kd.R_reads' HO_4.out).2.2 x9_4 p275 q275
               cases e275
               replace p275 := eq_true p275
               replace q275 := eq_true q275
               go_wp2
               repeat (go_quiet (fail); try go_wp2)
               go_ret
               exact ⟨by first | rfl | (simp [errW_none, errW_some] <;> rfl) | (simp [*, errW_none, errW_some] <;> rfl), by repeat (first | (with_reducible first | exact HB.out | apply below_alloc | apply pw_below_drewN | apply below_drew1 | refine below_set ?_ GE256.out) | exact HB.out)⟩
              ·rw [if_neg c59] at H
               have c59b0 : decide ((rd x4_3 x9_4) < 1) = false := decide_eq_false c59
               clear c59
               have c61b0 := eq_true (of_decide_eq_true (by first | (with_reducible assumption) | assumption) : 0 ≤ x9_4)
               by_cases c62 : x9_4 ≤ (x4_3.length : Int)
               ·rw [if_pos c62] at H
                have c62b0 := eq_true c62
                have c62b1 : decide (x9_4 ≤ (x4_3.length : Int)) = true := decide_eq_true c62
                clear c62
                obtain ⟨y276, hy276⟩ : ∃ y_ : List Int, y_ = (x4_3.take (x9_4 : Int).toNat) := ⟨_, rfl⟩
                replace H : ((spec_l03Has.f k4 y276 (rd x4_3 x9_4)).bind fun t281 => (if t281 = true then (some false) else (spec_LoopOk.l3 k4 x4_3 (wrap64 (x9_4 + 1)) l0_0 a0_1 l0_2 l0_3))) = some r := by first | (rw [hy276]; with_reducible exact H) | (have H2_ := (Option.bind_some _ _).symm.trans H; rw [hy276]; with_reducible exact H2_) | (have H2_ := (Option.bind_some _ _).symm.trans H; with_reducible exact H2_) | with_reducible exact H | (rw [hy276]; exact H) | exact H
                have Ny276 := Aside0.mk hy276
                clear hy276
                replace H := Option.bind_eq_some_iff.mp H
                obtain ⟨t281, A630, H⟩ := H
                replace H : (if t281 = true then (some false) else (spec_LoopOk.l3 k4 x4_3 (wrap64 (x9_4 + 1)) l0_0 a0_1 l0_2 l0_3)) = some r := H
                have A63 := Aside0.mk A630
                clear A630
                by_cases c64 : t281 = true
                ·subst c64
                 have H1 : (some false) = some r := by rw [if_pos rfl] at H; exact H
                 clear H
                 have H := H1
                 clear H1
                 obtain rfl := Option.some.inj H
                 obtain ⟨Ao65, co65, eo65⟩ := Kd.R_slice HO_4.out
                 subst eo65
                 have p275 : 0 ≤ (x9_4 : Int) := of_decide_eq_true (by first | (with_reducible assumption) | assumption)
                 have q275 : x9_4 < (x4_3.length : Int) := of_decide_eq_true (by first | (with_reducible assumption) | assumption)
                 obtain ⟨ad275, e275, hx275_0⟩ := Kd.at_int (Kd.R_reads' HO_4.out).2.2 x9_4 p275 q275
                 cases e275
                 replace p275 := eq_true p275
                 replace q275 := eq_true q275
                 have q66 : (x9_4 : Int) ≤ ((x4_3.length : Int) : Int) := of_decide_eq_true (by first | (with_reducible assumption) | assumption)
                 obtain ⟨i066, hi066, _, hsz66, _⟩ := info_parts info3
                 have hroom66 : x4_3.length ≤ co65 := (Kd.R_reads' HO_4.out).2.1
                 have hC66 : Kd.C (Kd.int .i64) _ (some ad275) x4_3.length x4_3 := (Kd.R_reads' HO_4.out).2.2
                 have hcut66 := cut_to (P := Try.prog) 24 3 .i64 Try.underlying24 hi066 (some ad275) x4_3.length co65 x9_4 (of_decide_eq_true (by first | (with_reducible assumption) | assumption)) q66 hroom66
                 have hr66 := Kd.C_take (m := (x9_4 : Int).toNat) hC66 (by omega)
                 have hy66 : y276.length = (x9_4 : Int).toNat := (by rw [Ny276.out, List.length_take]; omega)
                 rw [← Ny276.out] at hr66
                 rw [← hy66] at hcut66
                 have HR279 := Aside0.mk hr66
                 have HC279 := Aside0.mk (show y276.length ≤ co65 from by omega)
                 clear hr66 hC66 hroom66 hi066 hsz66
                 have KY66 := Aside0.mk hy66
                 clear hy66
                 have KL66 := Aside0.mk (show (x9_4 : Int).toNat ≤ x4_3.length from by omega)
                 replace q66 := eq_true q66
                 have p280 : 0 ≤ (x9_4 : Int) := of_decide_eq_true (by first | (with_reducible assumption) | assumption)
                 have q280 : x9_4 < (x4_3.length : Int) := of_decide_eq_true (by first | (with_reducible assumption) | assumption)
                 obtain ⟨ad280, e280, hx280_0⟩ := Kd.at_int (Kd.R_reads' HO_4.out).2.2 x9_4 p280 q280
                 obtain rfl : ad275 = ad280 := (by injection e280)
                 replace p280 := eq_true p280
                 replace q280 := eq_true q280
                 go_wp2_with (first | (go_at_call 55; (with_reducible refine (spec_l03Has.calls k4 _ _ y276 (rd x4_3 x9_4) true _ ?side1 ?side2 A63.out).mono ?_); (case side1 => repeat (first | exact (by repeat (first | (with_reducible exact HR279.out) | (with_reducible refine Kd.C_alloc ?_ _) | (with_reducible refine Kd.C_drewN ?_ _) | (with_reducible refine Kd.C_drew ?_) | exact HR279.out)) | (with_reducible refine Kd.C_alloc ?_ _) | (with_reducible refine Kd.C_drewN ?_ _) | (with_reducible refine Kd.C_drew ?_))); (case side2 => exact HC279.out); rintro e w' ⟨rfl, ⟨nd, rfl⟩⟩; (try first | exact ⟨rfl, _, World.drewN_drewN _ _ _⟩ | exact ⟨rfl, _, Eq.trans (World.drewN_drewN _ _ _) (congrArg (World.drewN _) (Nat.add_assoc _ _ _))⟩)))
                 repeat (go_quiet (first | (go_at_call 55; (with_reducible refine (spec_l03Has.calls k4 _ _ y276 (rd x4_3 x9_4) true _ ?side1 ?side2 A63.out).mono ?_); (case side1 => repeat (first | exact (by repeat (first | (with_reducible exact HR279.out) | (with_reducible refine Kd.C_alloc ?_ _) | (with_reducible refine Kd.C_drewN ?_ _) | (with_reducible refine Kd.C_drew ?_) | exact HR279.out)) | (with_reducible refine Kd.C_alloc ?_ _) | (with_reducible refine Kd.C_drewN ?_ _) | (with_reducible refine Kd.C_drew ?_))); (case side2 => exact HC279.out); rintro e w' ⟨rfl, ⟨nd, rfl⟩⟩; (try first | exact ⟨rfl, _, World.drewN_drewN _ _ _⟩ | exact ⟨rfl, _, Eq.trans (World.drewN_drewN _ _ _) (congrArg (World.drewN _) (Nat.add_assoc _ _ _))⟩))); try go_wp2_with (first | (go_at_call 55; (with_reducible refine (spec_l03Has.calls k4 _ _ y276 (rd x4_3 x9_4) true _ ?side1 ?side2 A63.out).mono ?_); (case side1 => repeat (first | exact (by repeat (first | (with_reducible exact HR279.out) | (with_reducible refine Kd.C_alloc ?_ _) | (with_reducible refine Kd.C_drewN ?_ _) | (with_reducible refine Kd.C_drew ?_) | exact HR279.out)) | (with_reducible refine Kd.C_alloc ?_ _) | (with_reducible refine Kd.C_drewN ?_ _) | (with_reducible refine Kd.C_drew ?_))); (case side2 => exact HC279.out); rintro e w' ⟨rfl, ⟨nd, rfl⟩⟩; (try first | exact ⟨rfl, _, World.drewN_drewN _ _ _⟩ | exact ⟨rfl, _, Eq.trans (World.drewN_drewN _ _ _) (congrArg (World.drewN _) (Nat.add_assoc _ _ _))⟩))))
                 go_ret
                 exact ⟨by first | rfl | (simp [errW_none, errW_some] <;> rfl) | (simp [*, errW_none, errW_some] <;> rfl), by repeat (first | (with_reducible first | exact HB.out | apply below_alloc | apply pw_below_drewN | apply below_drew1 | refine below_set ?_ GE256.out) | exact HB.out)⟩
                ·replace c64 := Bool.eq_false_iff.mpr c64
                 subst c64
                 have H1 : (spec_LoopOk.l3 k4 x4_3 (wrap64 (x9_4 + 1)) l0_0 a0_1 l0_2 l0_3) = some r := by rw [if_neg (show ¬ (false = true) by decide)] at H; exact H
                 clear H
                 have H := H1
                 clear H1
                 have H' := Aside0.mk H
                 clear H
                 obtain ⟨Ao67, co67, eo67⟩ := Kd.R_slice HO_4.out
                 subst eo67
                 have p275 : 0 ≤ (x9_4 : Int) := of_decide_eq_true (by first | (with_reducible assumption) | assumption)
                 have q275 : x9_4 < (x4_3.length : Int) := of_decide_eq_true (by first | (with_reducible assumption) | assumption)
                 obtain ⟨ad275, e275, hx275_0⟩ := Kd.at_int (Kd.R_reads' HO_4.out).2.2 x9_4 p275 q275
                 cases e275
                 replace p275 := eq_true p275
                 replace q275 := eq_true q275
                 have q68 : (x9_4 : Int) ≤ ((x4_3.length : Int) : Int) := of_decide_eq_true (by first | (with_reducible assumption) | assumption)
                 obtain ⟨i068, hi068, _, hsz68, _⟩ := info_parts info3
                 have hroom68 : x4_3.length ≤ co67 := (Kd.R_reads' HO_4.out).2.1
                 have hC68 : Kd.C (Kd.int .i64) _ (some ad275) x4_3.length x4_3 := (Kd.R_reads' HO_4.out).2.2
                 have hcut68 := cut_to (P := Try.prog) 24 3 .i64 Try.underlying24 hi068 (some ad275) x4_3.length co67 x9_4 (of_decide_eq_true (by first | (with_reducible assumption) | assumption)) q68 hroom68
                 have hr68 := Kd.C_take (m := (x9_4 : Int).toNat) hC68 (by omega)
                 have hy68 : y276.length = (x9_4 : Int).toNat := (by rw [Ny276.out, List.length_take]; omega)
                 rw [← Ny276.out] at hr68
                 rw [← hy68] at hcut68
                 have HR279 := Aside0.mk hr68
                 have HC279 := Aside0.mk (show y276.length ≤ co67 from by omega)
                 clear hr68 hC68 hroom68 hi068 hsz68
                 have KY68 := Aside0.mk hy68
                 clear hy68
                 have KL68 := Aside0.mk (show (x9_4 : Int).toNat ≤ x4_3.length from by omega)
                 replace q68 := eq_true q68
                 have p280 : 0 ≤ (x9_4 : Int) := of_decide_eq_true (by first | (with_reducible assumption) | assumption)
                 have q280 : x9_4 < (x4_3.length : Int) := of_decide_eq_true (by first | (with_reducible assumption) | assumption)
                 obtain ⟨ad280, e280, hx280_0⟩ := Kd.at_int (Kd.R_reads' HO_4.out).2.2 x9_4 p280 q280
                 obtain rfl : ad275 = ad280 := (by injection e280)
                 replace p280 := eq_true p280
                 replace q280 := eq_true q280
                 go_wp2_with (first | (go_at_call 55; (with_reducible refine (spec_l03Has.calls k4 _ _ y276 (rd x4_3 x9_4) false _ ?side1 ?side2 A63.out).mono ?_); (case side1 => repeat (first | exact (by repeat (first | (with_reducible exact HR279.out) | (with_reducible refine Kd.C_alloc ?_ _) | (with_reducible refine Kd.C_drewN ?_ _) | (with_reducible refine Kd.C_drew ?_) | exact HR279.out)) | (with_reducible refine Kd.C_alloc ?_ _) | (with_reducible refine Kd.C_drewN ?_ _) | (with_reducible refine Kd.C_drew ?_))); (case side2 => exact HC279.out); rintro e w' ⟨rfl, ⟨nd, rfl⟩⟩; (try first | exact ⟨rfl, _, World.drewN_drewN _ _ _⟩ | exact ⟨rfl, _, Eq.trans (World.drewN_drewN _ _ _) (congrArg (World.drewN _) (Nat.add_assoc _ _ _))⟩)))
                 repeat (go_quiet (first | (go_at_call 55; (with_reducible refine (spec_l03Has.calls k4 _ _ y276 (rd x4_3 x9_4) false _ ?side1 ?side2 A63.out).mono ?_); (case side1 => repeat (first | exact (by repeat (first | (with_reducible exact HR279.out) | (with_reducible refine Kd.C_alloc ?_ _) | (with_reducible refine Kd.C_drewN ?_ _) | (with_reducible refine Kd.C_drew ?_) | exact HR279.out)) | (with_reducible refine Kd.C_alloc ?_ _) | (with_reducible refine Kd.C_drewN ?_ _) | (with_reducible refine Kd.C_drew ?_))); (case side2 => exact HC279.out); rintro e w' ⟨rfl, ⟨nd, rfl⟩⟩; (try first | exact ⟨rfl, _, World.drewN_drewN _ _ _⟩ | exact ⟨rfl, _, Eq.trans (World.drewN_drewN _ _ _) (congrArg (World.drewN _) (Nat.add_assoc _ _ _))⟩))); try go_wp2_with (first | (go_at_call 55; (with_reducible refine (spec_l03Has.calls k4 _ _ y276 (rd x4_3 x9_4) false _ ?side1 ?side2 A63.out).mono ?_); (case side1 => repeat (first | exact (by repeat (first | (with_reducible exact HR279.out) | (with_reducible refine Kd.C_alloc ?_ _) | (with_reducible refine Kd.C_drewN ?_ _) | (with_reducible refine Kd.C_drew ?_) | exact HR279.out)) | (with_reducible refine Kd.C_alloc ?_ _) | (with_reducible refine Kd.C_drewN ?_ _) | (with_reducible refine Kd.C_drew ?_))); (case side2 => exact HC279.out); rintro e w' ⟨rfl, ⟨nd, rfl⟩⟩; (try first | exact ⟨rfl, _, World.drewN_drewN _ _ _⟩ | exact ⟨rfl, _, Eq.trans (World.drewN_drewN _ _ _) (congrArg (World.drewN _) (Nat.add_assoc _ _ _))⟩))))
                 go_roundg k4
                 case measure => have := HJ1.out; have := HK2.out; have := HK3.out; have := HK4.out; omega
                 case rel => exact ⟨(wrap64 (x9_4 + 1)), (by first | rfl | (simp; done) | (simp [*]; done)), H', ⟨by have := HJ1.out; have := HK2.out; have := HK3.out; have := HK4.out; omega⟩, ⟨by (with_reducible repeat (first | apply Kd.R_alloc | apply Kd.R_drewN | apply Kd.R_drew)); exact HO_4.out⟩, ⟨by (with_reducible repeat (first | refine blk_drewN ?_ _ | refine blk_drew ?_ | refine blk_alloc ?_ _)); exact BK256.out⟩, ⟨by repeat (first | (with_reducible first | exact HB.out | apply below_alloc | apply pw_below_drewN | apply below_drew1 | refine below_set ?_ GE256.out) | exact HB.out)⟩⟩
               ·rw [if_neg c62] at H
                exact absurd H (by simp)
             ·rw [if_neg c58] at H
              exact absurd H (by simp)
            ·rw [if_neg c57] at H
             have c57b0 : decide (x9_4 < (x4_3.length : Int)) = false := decide_eq_false c57
             clear c57
             have H' := Aside0.mk H
             clear H
             obtain ⟨Ao69, co69, eo69⟩ := Kd.R_slice HO_4.out
             subst eo69
             go_wp2
             repeat (go_quiet (fail); try go_wp2)
             go_loopg [10] k4 (fun kq v10 w' => ∃ (x10_5 : Int), v10 = .int .i64 x10_5 ∧ Aside0 (spec_LoopOk.l4 kq x10_5 l0_0 a0_1 l0_2 l0_3 = some r) ∧ Aside0 (kq ≤ k4) ∧ Aside0 (w'.heap[gb256]? = some (.cells #[(.slice A0_0 l0_0.length c0_0), .int .i64 a0_1, (.slice A0_2 l0_2.length c0_2), (.slice A0_3 l0_3.length c0_3)] 28 (0, 0))) ∧ Aside0 (Below w.heap.size w w'))
             case atStart => exact ⟨(0), (by first | rfl | (simp; done) | (simp [*]; done)), H', ⟨Nat.le_refl _⟩, ⟨by (with_reducible repeat (first | refine blk_drewN ?_ _ | refine blk_drew ?_ | refine blk_alloc ?_ _)); exact BK256.out⟩, ⟨by repeat (first | (with_reducible first | exact HB.out | apply below_alloc | apply pw_below_drewN | apply below_drew1 | refine below_set ?_ GE256.out) | exact HB.out)⟩⟩
             case round =>
              clear H'
              try clear c1
              try clear c2
              try clear p2
              try clear q2
              try clear hx2
              try clear c3
              try clear c4
              try clear c5
              try clear c6
              try clear p6
              try clear q6
              try clear c8
              try clear c9
              try clear c9b0
              try clear c9b1
              try clear c13
              try clear c16
              try clear c16b0
              try clear c17
              try clear c17b0
              try clear c18
              try clear c18b0
              try clear c19
              try clear c19b0
              try clear c19b1
              try clear c21
              try clear c23
              try clear c24
              try clear c24b0
              try clear c25
              try clear c25b0
              try clear c26
              try clear p26
              try clear q26
              try clear hx26
              try clear c27
              try clear p27
              try clear q27
              try clear hx27
              try clear p28
              try clear q28
              try clear hx28
              try clear c29
              try clear c32
              try clear c34
              try clear c35
              try clear c37
              try clear c39
              try clear c41
              try clear c42
              try clear c42b0
              try clear c43
              try clear c43b0
              try clear c44
              try clear c44b0
              try clear c45
              try clear c45b0
              try clear c45b1
              try clear c46
              try clear c49
              try clear c52
              try clear c53
              try clear c57
              try clear c57b0
              try clear c58
              try clear c58b0
              try clear c59
              try clear c59b0
              try clear c61
              try clear c61b0
              try clear c62
              try clear c62b0
              try clear c62b1
              try clear c64
              try clear p64
              try clear q66
              try clear q68
              try clear hcz10_0
              try clear hcz10_1
              try clear hcz10_2
              try clear hcz10_3
              try clear hcz11_0
              try clear hcz11_1
              try clear hcz11_2
              try clear hcz11_3
              try clear hcz12_0
              try clear hcz12_1
              try clear hcz12_2
              try clear hcz12_3
              try clear hcz20_0
              try clear hcz20_1
              try clear hcz20_2
              try clear hcz20_3
              try clear hcz22_0
              try clear hcz22_1
              try clear hcz22_2
              try clear hcz22_3
              try clear hcz27_0
              try clear hcz27_1
              try clear hcz27_2
              try clear hcz27_3
              try clear hcz30_0
              try clear hcz30_1
              try clear hcz30_2
              try clear hcz36_0
              try clear hcz36_1
              try clear hcz36_2
              try clear hcz38_0
              try clear hcz38_1
              try clear hcz38_2
              try clear hcz40_0
              try clear hcz40_1
              try clear hcz40_2
              try clear hcz47_0
              try clear hcz47_1
              try clear hcz47_2
              try clear hcz47_3
              try clear hcz48_0
              try clear hcz48_1
              try clear hcz48_2
              try clear hcz4_0
              try clear hcz4_1
              try clear hcz4_2
              try clear hcz4_3
              try clear hcz50_0
              try clear hcz50_1
              try clear hcz50_2
              try clear hcz50_3
              try clear hcz51_0
              try clear hcz51_1
              try clear hcz51_2
              try clear hcz54_0
              try clear hcz54_1
              try clear hcz54_2
              try clear hcz56_0
              try clear hcz56_1
              try clear hcz56_2
              try clear hcz56_3
              try clear hfz10_0
              try clear hfz10_1
              try clear hfz10_2
              try clear hfz10_3
              try clear hfz11_0
              try clear hfz11_1
              try clear hfz11_2
              try clear hfz11_3
              try clear hfz12_0
              try clear hfz12_1
              try clear hfz12_2
              try clear hfz12_3
              try clear hfz20_0
              try clear hfz20_1
              try clear hfz20_2
              try clear hfz20_3
              try clear hfz22_0
              try clear hfz22_1
              try clear hfz22_2
              try clear hfz22_3
              try clear hfz27_0
              try clear hfz27_1
              try clear hfz27_2
              try clear hfz27_3
              try clear hfz30_0
              try clear hfz30_1
              try clear hfz30_2
              try clear hfz36_0
              try clear hfz36_1
              try clear hfz36_2
              try clear hfz38_0
              try clear hfz38_1
              try clear hfz38_2
              try clear hfz40_0
              try clear hfz40_1
              try clear hfz40_2
              try clear hfz47_0
              try clear hfz47_1
              try clear hfz47_2
              try clear hfz47_3
              try clear hfz48_0
              try clear hfz48_1
              try clear hfz48_2
              try clear hfz4_0
              try clear hfz4_1
              try clear hfz4_2
              try clear hfz4_3
              try clear hfz50_0
              try clear hfz50_1
              try clear hfz50_2
              try clear hfz50_3
              try clear hfz51_0
              try clear hfz51_1
              try clear hfz51_2
              try clear hfz54_0
              try clear hfz54_1
              try clear hfz54_2
              try clear hfz56_0
              try clear hfz56_1
              try clear hfz56_2
              try clear hfz56_3
              try clear hx262_0
              try clear hx263_0
              try clear hx267_0
              try clear hx267_1
              try clear hx267_2
              try clear hx274_0
              try clear hx274_1
              try clear hx274_2
              try clear hx275_0
              try clear hx280_0
              try clear p2
              try clear p26
              try clear p262
              try clear p263
              try clear p267
              try clear p27
              try clear p274
              try clear p275
              try clear p280
              try clear p6
              try clear q2
              try clear q26
              try clear q262
              try clear q263
              try clear q267
              try clear q27
              try clear q274
              try clear q275
              try clear q280
              try clear q66
              try clear q68
              obtain ⟨x10_5, rfl, HA, HK5, BK256, HB⟩ := hrel
              cases gk with
              | zero => exact absurd HA.out (by simp [spec_LoopOk.l4])
              | succ k5 =>
               have H := HA.out
               clear HA
               simp only [spec_LoopOk.l4] at H
               by_cases c70 : x10_5 < (l0_3.length : Int)
               ·rw [if_pos c70] at H
                have c70b0 : decide (x10_5 < (l0_3.length : Int)) = true := decide_eq_true c70
                clear c70
                by_cases c71 : 0 ≤ x10_5
                ·rw [if_pos c71] at H
                 have c71b0 : decide (0 ≤ x10_5) = true := decide_eq_true c71
                 clear c71
                 by_cases c72 : ((rd_T74 l0_3 x10_5).f0) < 1
                 ·rw [if_pos c72] at H
                  have c72b0 : decide (((rd_T74 l0_3 x10_5).f0) < 1) = true := decide_eq_true c72
                  clear c72
                  obtain rfl := Option.some.inj H
                  have hcz73_0 : wr.cell? ⟨gb256, 0, none⟩ = some (.slice A0_0 l0_0.length c0_0) := (blk_cell BK256.out 0).trans rfl
                  have hcz73_1 : wr.cell? ⟨gb256, 1, none⟩ = some (.int .i64 a0_1) := (blk_cell BK256.out 1).trans rfl
                  have hcz73_2 : wr.cell? ⟨gb256, 2, none⟩ = some (.slice A0_2 l0_2.length c0_2) := (blk_cell BK256.out 2).trans rfl
                  have hcz73_3 : wr.cell? ⟨gb256, 3, none⟩ = some (.slice A0_3 l0_3.length c0_3) := (blk_cell BK256.out 3).trans rfl
                  have hfz73_0 := blk_frozen BK256.out 0
                  have hfz73_1 := blk_frozen BK256.out 1
                  have hfz73_2 := blk_frozen BK256.out 2
                  have hfz73_3 := blk_frozen BK256.out 3
                  have p282 : 0 ≤ (x10_5 : Int) := of_decide_eq_true (by first | (with_reducible assumption) | assumption)
                  have q282 : x10_5 < (l0_3.length : Int) := of_decide_eq_true (by first | (with_reducible assumption) | assumption)
                  obtain ⟨ad282, A282_1, c282_1, e282, hx282_0, hx282_1, hl282_1, hi282_1⟩ := at_T74 HR0_3.out x10_5 p282 q282
                  cases e282
                  replace hx282_0 := (HB.out.cell (World.block_lt_of_cell? w _ hx282_0)).trans hx282_0
                  replace hx282_1 := (HB.out.cell (World.block_lt_of_cell? w _ hx282_1)).trans hx282_1
                  have HR282_1 := Aside0.mk hi282_1
                  have HC282_1 := Aside0.mk hl282_1
                  clear hi282_1 hl282_1
                  replace p282 := eq_true p282
                  replace q282 := eq_true q282
                  go_wp2_with (first | ((with_reducible refine gate_dst (N := 11) rfl ?_); (try (refine gate_guard (by rfl) ?_; dsimp only)); refine box_event ?hg (N := 11) ?hd (cs := #[.int .i64 0, .slice none 0 0]) (t := 74) ?hr ?_; (case hd => rfl); (case hg => rfl); (case hr => first | (go_simp; done) | (go_simp; rfl)); intro gb283 hg w74 hbox hb; have n0_ := Aside0.mk (blk_below (g := gb256) (o := .cells #[.slice A0_0 l0_0.length c0_0, .int .i64 a0_1, .slice A0_2 l0_2.length c0_2, .slice (some ad282) l0_3.length c0_3] 28 (0, 0)) (by (with_reducible repeat (first | refine blk_drewN ?_ _ | refine blk_drew ?_ | refine blk_alloc ?_ _)); exact BK256.out) hb); have n1_ := Aside0.mk (below_step (by repeat (first | (with_reducible first | exact HB.out | apply below_alloc | apply pw_below_drewN | apply below_drew1 | refine below_set ?_ GE256.out) | exact HB.out)) hb); have n2_ := Aside0.mk (hbox); have n3_ := Aside0.mk ((by rw [hg]; exact (below_size (by repeat (first | (with_reducible first | exact HB.out | apply below_alloc | apply pw_below_drewN | apply below_drew1 | refine below_set ?_ GE256.out) | exact HB.out))) : w.heap.size ≤ gb283)); have n4_ := Aside0.mk ((by rw [hg]; exact (below_size (by repeat (first | (with_reducible first | exact HB.out | apply below_alloc | apply pw_below_drewN | apply below_drew1 | refine below_set ?_ GE256.out) | exact HB.out))) : w.heap.size ≤ gb283)); have n5_ := Aside0.mk ((by rw [hg]; exact Nat.ne_of_lt (blk_lt (g := gb256) (o := .cells #[.slice A0_0 l0_0.length c0_0, .int .i64 a0_1, .slice A0_2 l0_2.length c0_2, .slice (some ad282) l0_3.length c0_3] 28 (0, 0)) (by (with_reducible repeat (first | refine blk_drewN ?_ _ | refine blk_drew ?_ | refine blk_alloc ?_ _)); exact BK256.out)) : gb256 ≠ gb283)); have n6_ := Aside0.mk ((by rw [hg]; exact Nat.ne_of_gt (blk_lt (g := gb256) (o := .cells #[.slice A0_0 l0_0.length c0_0, .int .i64 a0_1, .slice A0_2 l0_2.length c0_2, .slice (some ad282) l0_3.length c0_3] 28 (0, 0)) (by (with_reducible repeat (first | refine blk_drewN ?_ _ | refine blk_drew ?_ | refine blk_alloc ?_ _)); exact BK256.out)) : gb283 ≠ gb256)); clear BK256; clear HB; have BK256 := n0_; have HB := n1_; have BK283 := n2_; have GW283 := n3_; have GE283 := n4_; have NB256_283 := n5_; have NB283_256 := n6_; clear n0_ n1_ n2_ n3_ n4_ n5_ n6_; clear hb hbox hg; have hnb75 := NB283_256.out; have hnc75 := NB256_283.out; have hcz76_0 : w74.cell? ⟨gb283, 0, none⟩ = some (.int .i64 0) := (blk_cell BK283.out 0).trans rfl; have hcz76_1 : w74.cell? ⟨gb283, 1, none⟩ = some (.slice none 0 0) := (blk_cell BK283.out 1).trans rfl; have hfz76_0 := blk_frozen BK283.out 0; have hfz76_1 := blk_frozen BK283.out 1))
                  repeat (go_quiet (first | ((with_reducible refine gate_dst (N := 11) rfl ?_); (try (refine gate_guard (by rfl) ?_; dsimp only)); refine box_event ?hg (N := 11) ?hd (cs := #[.int .i64 0, .slice none 0 0]) (t := 74) ?hr ?_; (case hd => rfl); (case hg => rfl); (case hr => first | (go_simp; done) | (go_simp; rfl)); intro gb283 hg w74 hbox hb; have n0_ := Aside0.mk (blk_below (g := gb256) (o := .cells #[.slice A0_0 l0_0.length c0_0, .int .i64 a0_1, .slice A0_2 l0_2.length c0_2, .slice (some ad282) l0_3.length c0_3] 28 (0, 0)) (by (with_reducible repeat (first | refine blk_drewN ?_ _ | refine blk_drew ?_ | refine blk_alloc ?_ _)); exact BK256.out) hb); have n1_ := Aside0.mk (below_step (by repeat (first | (with_reducible first | exact HB.out | apply below_alloc | apply pw_below_drewN | apply below_drew1 | refine below_set ?_ GE256.out) | exact HB.out)) hb); have n2_ := Aside0.mk (hbox); have n3_ := Aside0.mk ((by rw [hg]; exact (below_size (by repeat (first | (with_reducible first | exact HB.out | apply below_alloc | apply pw_below_drewN | apply below_drew1 | refine below_set ?_ GE256.out) | exact HB.out))) : w.heap.size ≤ gb283)); have n4_ := Aside0.mk ((by rw [hg]; exact (below_size (by repeat (first | (with_reducible first | exact HB.out | apply below_alloc | apply pw_below_drewN | apply below_drew1 | refine below_set ?_ GE256.out) | exact HB.out))) : w.heap.size ≤ gb283)); have n5_ := Aside0.mk ((by rw [hg]; exact Nat.ne_of_lt (blk_lt (g := gb256) (o := .cells #[.slice A0_0 l0_0.length c0_0, .int .i64 a0_1, .slice A0_2 l0_2.length c0_2, .slice (some ad282) l0_3.length c0_3] 28 (0, 0)) (by (with_reducible repeat (first | refine blk_drewN ?_ _ | refine blk_drew ?_ | refine blk_alloc ?_ _)); exact BK256.out)) : gb256 ≠ gb283)); have n6_ := Aside0.mk ((by rw [hg]; exact Nat.ne_of_gt (blk_lt (g := gb256) (o := .cells #[.slice A0_0 l0_0.length c0_0, .int .i64 a0_1, .slice A0_2 l0_2.length c0_2, .slice (some ad282) l0_3.length c0_3] 28 (0, 0)) (by (with_reducible repeat (first | refine blk_drewN ?_ _ | refine blk_drew ?_ | refine blk_alloc ?_ _)); exact BK256.out)) : gb283 ≠ gb256)); clear BK256; clear HB; have BK256 := n0_; have HB := n1_; have BK283 := n2_; have GW283 := n3_; have GE283 := n4_; have NB256_283 := n5_; have NB283_256 := n6_; clear n0_ n1_ n2_ n3_ n4_ n5_ n6_; clear hb hbox hg; have hnb75 := NB283_256.out; have hnc75 := NB256_283.out; have hcz76_0 : w74.cell? ⟨gb283, 0, none⟩ = some (.int .i64 0) := (blk_cell BK283.out 0).trans rfl; have hcz76_1 : w74.cell? ⟨gb283, 1, none⟩ = some (.slice none 0 0) := (blk_cell BK283.out 1).trans rfl; have hfz76_0 := blk_frozen BK283.out 0; have hfz76_1 := blk_frozen BK283.out 1)); try go_wp2_with (first | ((with_reducible refine gate_dst (N := 11) rfl ?_); (try (refine gate_guard (by rfl) ?_; dsimp only)); refine box_event ?hg (N := 11) ?hd (cs := #[.int .i64 0, .slice none 0 0]) (t := 74) ?hr ?_; (case hd => rfl); (case hg => rfl); (case hr => first | (go_simp; done) | (go_simp; rfl)); intro gb283 hg w74 hbox hb; have n0_ := Aside0.mk (blk_below (g := gb256) (o := .cells #[.slice A0_0 l0_0.length c0_0, .int .i64 a0_1, .slice A0_2 l0_2.length c0_2, .slice (some ad282) l0_3.length c0_3] 28 (0, 0)) (by (with_reducible repeat (first | refine blk_drewN ?_ _ | refine blk_drew ?_ | refine blk_alloc ?_ _)); exact BK256.out) hb); have n1_ := Aside0.mk (below_step (by repeat (first | (with_reducible first | exact HB.out | apply below_alloc | apply pw_below_drewN | apply below_drew1 | refine below_set ?_ GE256.out) | exact HB.out)) hb); have n2_ := Aside0.mk (hbox); have n3_ := Aside0.mk ((by rw [hg]; exact (below_size (by repeat (first | (with_reducible first | exact HB.out | apply below_alloc | apply pw_below_drewN | apply below_drew1 | refine below_set ?_ GE256.out) | exact HB.out))) : w.heap.size ≤ gb283)); have n4_ := Aside0.mk ((by rw [hg]; exact (below_size (by repeat (first | (with_reducible first | exact HB.out | apply below_alloc | apply pw_below_drewN | apply below_drew1 | refine below_set ?_ GE256.out) | exact HB.out))) : w.heap.size ≤ gb283)); have n5_ := Aside0.mk ((by rw [hg]; exact Nat.ne_of_lt (blk_lt (g := gb256) (o := .cells #[.slice A0_0 l0_0.length c0_0, .int .i64 a0_1, .slice A0_2 l0_2.length c0_2, .slice (some ad282) l0_3.length c0_3] 28 (0, 0)) (by (with_reducible repeat (first | refine blk_drewN ?_ _ | refine blk_drew ?_ | refine blk_alloc ?_ _)); exact BK256.out)) : gb256 ≠ gb283)); have n6_ := Aside0.mk ((by rw [hg]; exact Nat.ne_of_gt (blk_lt (g := gb256) (o := .cells #[.slice A0_0 l0_0.length c0_0, .int .i64 a0_1, .slice A0_2 l0_2.length c0_2, .slice (some ad282) l0_3.length c0_3] 28 (0, 0)) (by (with_reducible repeat (first | refine blk_drewN ?_ _ | refine blk_drew ?_ | refine blk_alloc ?_ _)); exact BK256.out)) : gb283 ≠ gb256)); clear BK256; clear HB; have BK256 := n0_; have HB := n1_; have BK283 := n2_; have GW283 := n3_; have GE283 := n4_; have NB256_283 := n5_; have NB283_256 := n6_; clear n0_ n1_ n2_ n3_ n4_ n5_ n6_; clear hb hbox hg; have hnb75 := NB283_256.out; have hnc75 := NB256_283.out; have hcz76_0 : w74.cell? ⟨gb283, 0, none⟩ = some (.int .i64 0) := (blk_cell BK283.out 0).trans rfl; have hcz76_1 : w74.cell? ⟨gb283, 1, none⟩ = some (.slice none 0 0) := (blk_cell BK283.out 1).trans rfl; have hfz76_0 := blk_frozen BK283.out 0; have hfz76_1 := blk_frozen BK283.out 1)))
                  go_ret
                  exact ⟨by first | rfl | (simp [errW_none, errW_some] <;> rfl) | (simp [*, errW_none, errW_some] <;> rfl), by repeat (first | (with_reducible first | exact HB.out | apply below_alloc | apply pw_below_drewN | apply below_drew1 | refine below_set ?_ GE256.out | refine below_set ?_ GE283.out) | exact HB.out)⟩
                 ·rw [if_neg c72] at H
                  have c72b0 : decide (((rd_T74 l0_3 x10_5).f0) < 1) = false := decide_eq_false c72
                  clear c72
                  have H' := Aside0.mk H
                  clear H
                  have hcz77_0 : wr.cell? ⟨gb256, 0, none⟩ = some (.slice A0_0 l0_0.length c0_0) := (blk_cell BK256.out 0).trans rfl
                  have hcz77_1 : wr.cell? ⟨gb256, 1, none⟩ = some (.int .i64 a0_1) := (blk_cell BK256.out 1).trans rfl
                  have hcz77_2 : wr.cell? ⟨gb256, 2, none⟩ = some (.slice A0_2 l0_2.length c0_2) := (blk_cell BK256.out 2).trans rfl
                  have hcz77_3 : wr.cell? ⟨gb256, 3, none⟩ = some (.slice A0_3 l0_3.length c0_3) := (blk_cell BK256.out 3).trans rfl
                  have hfz77_0 := blk_frozen BK256.out 0
                  have hfz77_1 := blk_frozen BK256.out 1
                  have hfz77_2 := blk_frozen BK256.out 2
                  have hfz77_3 := blk_frozen BK256.out 3
                  have p282 : 0 ≤ (x10_5 : Int) := of_decide_eq_true (by first | (with_reducible assumption) | assumption)
                  have q282 : x10_5 < (l0_3.length : Int) := of_decide_eq_true (by first | (with_reducible assumption) | assumption)
                  obtain ⟨ad282, A282_1, c282_1, e282, hx282_0, hx282_1, hl282_1, hi282_1⟩ := at_T74 HR0_3.out x10_5 p282 q282
                  cases e282
                  replace hx282_0 := (HB.out.cell (World.block_lt_of_cell? w _ hx282_0)).trans hx282_0
                  replace hx282_1 := (HB.out.cell (World.block_lt_of_cell? w _ hx282_1)).trans hx282_1
                  have HR282_1 := Aside0.mk hi282_1
                  have HC282_1 := Aside0.mk hl282_1
                  clear hi282_1 hl282_1
                  replace p282 := eq_true p282
                  replace q282 := eq_true q282
                  go_wp2_with (first | ((with_reducible refine gate_dst (N := 11) rfl ?_); (try (refine gate_guard (by rfl) ?_; dsimp only)); refine box_event ?hg (N := 11) ?hd (cs := #[.int .i64 0, .slice none 0 0]) (t := 74) ?hr ?_; (case hd => rfl); (case hg => rfl); (case hr => first | (go_simp; done) | (go_simp; rfl)); intro gb283 hg w78 hbox hb; have n0_ := Aside0.mk (blk_below (g := gb256) (o := .cells #[.slice A0_0 l0_0.length c0_0, .int .i64 a0_1, .slice A0_2 l0_2.length c0_2, .slice (some ad282) l0_3.length c0_3] 28 (0, 0)) (by (with_reducible repeat (first | refine blk_drewN ?_ _ | refine blk_drew ?_ | refine blk_alloc ?_ _)); exact BK256.out) hb); have n1_ := Aside0.mk (below_step (by repeat (first | (with_reducible first | exact HB.out | apply below_alloc | apply pw_below_drewN | apply below_drew1 | refine below_set ?_ GE256.out) | exact HB.out)) hb); have n2_ := Aside0.mk (hbox); have n3_ := Aside0.mk ((by rw [hg]; exact (below_size (by repeat (first | (with_reducible first | exact HB.out | apply below_alloc | apply pw_below_drewN | apply below_drew1 | refine below_set ?_ GE256.out) | exact HB.out))) : w.heap.size ≤ gb283)); have n4_ := Aside0.mk ((by rw [hg]; exact (below_size (by repeat (first | (with_reducible first | exact HB.out | apply below_alloc | apply pw_below_drewN | apply below_drew1 | refine below_set ?_ GE256.out) | exact HB.out))) : w.heap.size ≤ gb283)); have n5_ := Aside0.mk ((by rw [hg]; exact Nat.ne_of_lt (blk_lt (g := gb256) (o := .cells #[.slice A0_0 l0_0.length c0_0, .int .i64 a0_1, .slice A0_2 l0_2.length c0_2, .slice (some ad282) l0_3.length c0_3] 28 (0, 0)) (by (with_reducible repeat (first | refine blk_drewN ?_ _ | refine blk_drew ?_ | refine blk_alloc ?_ _)); exact BK256.out)) : gb256 ≠ gb283)); have n6_ := Aside0.mk ((by rw [hg]; exact Nat.ne_of_gt (blk_lt (g := gb256) (o := .cells #[.slice A0_0 l0_0.length c0_0, .int .i64 a0_1, .slice A0_2 l0_2.length c0_2, .slice (some ad282) l0_3.length c0_3] 28 (0, 0)) (by (with_reducible repeat (first | refine blk_drewN ?_ _ | refine blk_drew ?_ | refine blk_alloc ?_ _)); exact BK256.out)) : gb283 ≠ gb256)); clear BK256; clear HB; have BK256 := n0_; have HB := n1_; have BK283 := n2_; have GW283 := n3_; have GE283 := n4_; have NB256_283 := n5_; have NB283_256 := n6_; clear n0_ n1_ n2_ n3_ n4_ n5_ n6_; clear hb hbox hg; have hnb79 := NB283_256.out; have hnc79 := NB256_283.out; have hcz80_0 : w78.cell? ⟨gb283, 0, none⟩ = some (.int .i64 0) := (blk_cell BK283.out 0).trans rfl; have hcz80_1 : w78.cell? ⟨gb283, 1, none⟩ = some (.slice none 0 0) := (blk_cell BK283.out 1).trans rfl; have hfz80_0 := blk_frozen BK283.out 0; have hfz80_1 := blk_frozen BK283.out 1))
                  repeat (go_quiet (first | ((with_reducible refine gate_dst (N := 11) rfl ?_); (try (refine gate_guard (by rfl) ?_; dsimp only)); refine box_event ?hg (N := 11) ?hd (cs := #[.int .i64 0, .slice none 0 0]) (t := 74) ?hr ?_; (case hd => rfl); (case hg => rfl); (case hr => first | (go_simp; done) | (go_simp; rfl)); intro gb283 hg w78 hbox hb; have n0_ := Aside0.mk (blk_below (g := gb256) (o := .cells #[.slice A0_0 l0_0.length c0_0, .int .i64 a0_1, .slice A0_2 l0_2.length c0_2, .slice (some ad282) l0_3.length c0_3] 28 (0, 0)) (by (with_reducible repeat (first | refine blk_drewN ?_ _ | refine blk_drew ?_ | refine blk_alloc ?_ _)); exact BK256.out) hb); have n1_ := Aside0.mk (below_step (by repeat (first | (with_reducible first | exact HB.out | apply below_alloc | apply pw_below_drewN | apply below_drew1 | refine below_set ?_ GE256.out) | exact HB.out)) hb); have n2_ := Aside0.mk (hbox); have n3_ := Aside0.mk ((by rw [hg]; exact (below_size (by repeat (first | (with_reducible first | exact HB.out | apply below_alloc | apply pw_below_drewN | apply below_drew1 | refine below_set ?_ GE256.out) | exact HB.out))) : w.heap.size ≤ gb283)); have n4_ := Aside0.mk ((by rw [hg]; exact (below_size (by repeat (first | (with_reducible first | exact HB.out | apply below_alloc | apply pw_below_drewN | apply below_drew1 | refine below_set ?_ GE256.out) | exact HB.out))) : w.heap.size ≤ gb283)); have n5_ := Aside0.mk ((by rw [hg]; exact Nat.ne_of_lt (blk_lt (g := gb256) (o := .cells #[.slice A0_0 l0_0.length c0_0, .int .i64 a0_1, .slice A0_2 l0_2.length c0_2, .slice (some ad282) l0_3.length c0_3] 28 (0, 0)) (by (with_reducible repeat (first | refine blk_drewN ?_ _ | refine blk_drew ?_ | refine blk_alloc ?_ _)); exact BK256.out)) : gb256 ≠ gb283)); have n6_ := Aside0.mk ((by rw [hg]; exact Nat.ne_of_gt (blk_lt (g := gb256) (o := .cells #[.slice A0_0 l0_0.length c0_0, .int .i64 a0_1, .slice A0_2 l0_2.length c0_2, .slice (some ad282) l0_3.length c0_3] 28 (0, 0)) (by (with_reducible repeat (first | refine blk_drewN ?_ _ | refine blk_drew ?_ | refine blk_alloc ?_ _)); exact BK256.out)) : gb283 ≠ gb256)); clear BK256; clear HB; have BK256 := n0_; have HB := n1_; have BK283 := n2_; have GW283 := n3_; have GE283 := n4_; have NB256_283 := n5_; have NB283_256 := n6_; clear n0_ n1_ n2_ n3_ n4_ n5_ n6_; clear hb hbox hg; have hnb79 := NB283_256.out; have hnc79 := NB256_283.out; have hcz80_0 : w78.cell? ⟨gb283, 0, none⟩ = some (.int .i64 0) := (blk_cell BK283.out 0).trans rfl; have hcz80_1 : w78.cell? ⟨gb283, 1, none⟩ = some (.slice none 0 0) := (blk_cell BK283.out 1).trans rfl; have hfz80_0 := blk_frozen BK283.out 0; have hfz80_1 := blk_frozen BK283.out 1)); try go_wp2_with (first | ((with_reducible refine gate_dst (N := 11) rfl ?_); (try (refine gate_guard (by rfl) ?_; dsimp only)); refine box_event ?hg (N := 11) ?hd (cs := #[.int .i64 0, .slice none 0 0]) (t := 74) ?hr ?_; (case hd => rfl); (case hg => rfl); (case hr => first | (go_simp; done) | (go_simp; rfl)); intro gb283 hg w78 hbox hb; have n0_ := Aside0.mk (blk_below (g := gb256) (o := .cells #[.slice A0_0 l0_0.length c0_0, .int .i64 a0_1, .slice A0_2 l0_2.length c0_2, .slice (some ad282) l0_3.length c0_3] 28 (0, 0)) (by (with_reducible repeat (first | refine blk_drewN ?_ _ | refine blk_drew ?_ | refine blk_alloc ?_ _)); exact BK256.out) hb); have n1_ := Aside0.mk (below_step (by repeat (first | (with_reducible first | exact HB.out | apply below_alloc | apply pw_below_drewN | apply below_drew1 | refine below_set ?_ GE256.out) | exact HB.out)) hb); have n2_ := Aside0.mk (hbox); have n3_ := Aside0.mk ((by rw [hg]; exact (below_size (by repeat (first | (with_reducible first | exact HB.out | apply below_alloc | apply pw_below_drewN | apply below_drew1 | refine below_set ?_ GE256.out) | exact HB.out))) : w.heap.size ≤ gb283)); have n4_ := Aside0.mk ((by rw [hg]; exact (below_size (by repeat (first | (with_reducible first | exact HB.out | apply below_alloc | apply pw_below_drewN | apply below_drew1 | refine below_set ?_ GE256.out) | exact HB.out))) : w.heap.size ≤ gb283)); have n5_ := Aside0.mk ((by rw [hg]; exact Nat.ne_of_lt (blk_lt (g := gb256) (o := .cells #[.slice A0_0 l0_0.length c0_0, .int .i64 a0_1, .slice A0_2 l0_2.length c0_2, .slice (some ad282) l0_3.length c0_3] 28 (0, 0)) (by (with_reducible repeat (first | refine blk_drewN ?_ _ | refine blk_drew ?_ | refine blk_alloc ?_ _)); exact BK256.out)) : gb256 ≠ gb283)); have n6_ := Aside0.mk ((by rw [hg]; exact Nat.ne_of_gt (blk_lt (g := gb256) (o := .cells #[.slice A0_0 l0_0.length c0_0, .int .i64 a0_1, .slice A0_2 l0_2.length c0_2, .slice (some ad282) l0_3.length c0_3] 28 (0, 0)) (by (with_reducible repeat (first | refine blk_drewN ?_ _ | refine blk_drew ?_ | refine blk_alloc ?_ _)); exact BK256.out)) : gb283 ≠ gb256)); clear BK256; clear HB; have BK256 := n0_; have HB := n1_; have BK283 := n2_; have GW283 := n3_; have GE283 := n4_; have NB256_283 := n5_; have NB283_256 := n6_; clear n0_ n1_ n2_ n3_ n4_ n5_ n6_; clear hb hbox hg; have hnb79 := NB283_256.out; have hnc79 := NB256_283.out; have hcz80_0 : w78.cell? ⟨gb283, 0, none⟩ = some (.int .i64 0) := (blk_cell BK283.out 0).trans rfl; have hcz80_1 : w78.cell? ⟨gb283, 1, none⟩ = some (.slice none 0 0) := (blk_cell BK283.out 1).trans rfl; have hfz80_0 := blk_frozen BK283.out 0; have hfz80_1 := blk_frozen BK283.out 1)))
                  go_loopg [12] k5 (fun kq v12 w' => ∃ (x12_6 : Int), v12 = .int .i64 x12_6 ∧ Aside0 (spec_LoopOk.l5 kq x10_5 x12_6 l0_0 a0_1 l0_2 l0_3 ((rd_T74 l0_3 x10_5).f0) ((rd_T74 l0_3 x10_5).f1) = some r) ∧ Aside0 (kq ≤ k5) ∧ Aside0 (w'.heap[gb256]? = some (.cells #[(.slice A0_0 l0_0.length c0_0), .int .i64 a0_1, (.slice A0_2 l0_2.length c0_2), (.slice (some ad282) l0_3.length c0_3)] 28 (0, 0))) ∧ Aside0 (w'.heap[gb283]? = some (.cells #[.int .i64 ((rd_T74 l0_3 x10_5).f0), (.slice A282_1 ((rd_T74 l0_3 x10_5).f1).length c282_1)] 74 (0, 0))) ∧ Aside0 (Below w.heap.size w w'))
                  case atStart => exact ⟨(0), (by first | rfl | (simp; done) | (simp [*]; done)), H', ⟨Nat.le_refl _⟩, ⟨by (with_reducible repeat (first | refine blk_drewN ?_ _ | refine blk_drew ?_ | refine blk_alloc ?_ _)); refine blk_far ?_ NB256_283.out _; (with_reducible repeat (first | refine blk_drewN ?_ _ | refine blk_drew ?_ | refine blk_alloc ?_ _)); refine blk_far ?_ NB256_283.out _; (with_reducible repeat (first | refine blk_drewN ?_ _ | refine blk_drew ?_ | refine blk_alloc ?_ _)); exact BK256.out⟩, ⟨by (with_reducible repeat (first | refine blk_drewN ?_ _ | refine blk_drew ?_ | refine blk_alloc ?_ _)); refine blk_put (cs := #[.int .i64 ((rd_T74 l0_3 x10_5).f0), .slice none 0 0]) ?_ 1 _ rfl; (with_reducible repeat (first | refine blk_drewN ?_ _ | refine blk_drew ?_ | refine blk_alloc ?_ _)); refine blk_put (cs := #[.int .i64 0, .slice none 0 0]) ?_ 0 _ rfl; (with_reducible repeat (first | refine blk_drewN ?_ _ | refine blk_drew ?_ | refine blk_alloc ?_ _)); exact BK283.out⟩, ⟨by repeat (first | (with_reducible first | exact HB.out | apply below_alloc | apply pw_below_drewN | apply below_drew1 | refine below_set ?_ GE256.out | refine below_set ?_ GE283.out) | exact HB.out)⟩⟩
                  case round =>
                   clear H'
                   try clear c1
                   try clear c2
                   try clear p2
                   try clear q2
                   try clear hx2
                   try clear c3
                   try clear c4
                   try clear c5
                   try clear c6
                   try clear p6
                   try clear q6
                   try clear c7
                   try clear c8
                   try clear c9
                   try clear c9b0
                   try clear c9b1
                   try clear c13
                   try clear c16
                   try clear c16b0
                   try clear c17
                   try clear c17b0
                   try clear c18
                   try clear c18b0
                   try clear c19
                   try clear c19b0
                   try clear c19b1
                   try clear c21
                   try clear c23
                   try clear c24
                   try clear c24b0
                   try clear c25
                   try clear c25b0
                   try clear c26
                   try clear p26
                   try clear q26
                   try clear hx26
                   try clear c27
                   try clear p27
                   try clear q27
                   try clear hx27
                   try clear c28
                   try clear p28
                   try clear q28
                   try clear hx28
                   try clear c29
                   try clear c32
                   try clear c34
                   try clear c35
                   try clear c37
                   try clear c39
                   try clear c41
                   try clear c42
                   try clear c42b0
                   try clear c43
                   try clear c43b0
                   try clear c44
                   try clear c44b0
                   try clear c45
                   try clear c45b0
                   try clear c45b1
                   try clear c46
                   try clear c49
                   try clear c52
                   try clear c53
                   try clear c57
                   try clear c57b0
                   try clear c58
                   try clear c58b0
                   try clear c59
                   try clear c59b0
                   try clear c61
                   try clear c61b0
                   try clear c62
                   try clear c62b0
                   try clear c62b1
                   try clear c64
                   try clear p64
                   try clear q66
                   try clear q68
                   try clear c70
                   try clear c70b0
                   try clear c71
                   try clear c71b0
                   try clear c72
                   try clear c72b0
                   try clear c75
                   try clear c79
                   try clear hcz10_0
                   try clear hcz10_1
                   try clear hcz10_2
                   try clear hcz10_3
                   try clear hcz11_0
                   try clear hcz11_1
                   try clear hcz11_2
                   try clear hcz11_3
                   try clear hcz12_0
                   try clear hcz12_1
                   try clear hcz12_2
                   try clear hcz12_3
                   try clear hcz20_0
                   try clear hcz20_1
                   try clear hcz20_2
                   try clear hcz20_3
                   try clear hcz22_0
                   try clear hcz22_1
                   try clear hcz22_2
                   try clear hcz22_3
                   try clear hcz27_0
                   try clear hcz27_1
                   try clear hcz27_2
                   try clear hcz27_3
                   try clear hcz30_0
                   try clear hcz30_1
                   try clear hcz30_2
                   try clear hcz36_0
                   try clear hcz36_1
                   try clear hcz36_2
                   try clear hcz38_0
                   try clear hcz38_1
                   try clear hcz38_2
                   try clear hcz40_0
                   try clear hcz40_1
                   try clear hcz40_2
                   try clear hcz47_0
                   try clear hcz47_1
                   try clear hcz47_2
                   try clear hcz47_3
                   try clear hcz48_0
                   try clear hcz48_1
                   try clear hcz48_2
                   try clear hcz4_0
                   try clear hcz4_1
                   try clear hcz4_2
                   try clear hcz4_3
                   try clear hcz50_0
                   try clear hcz50_1
                   try clear hcz50_2
                   try clear hcz50_3
                   try clear hcz51_0
                   try clear hcz51_1
                   try clear hcz51_2
                   try clear hcz54_0
                   try clear hcz54_1
                   try clear hcz54_2
                   try clear hcz56_0
                   try clear hcz56_1
                   try clear hcz56_2
                   try clear hcz56_3
                   try clear hcz73_0
                   try clear hcz73_1
                   try clear hcz73_2
                   try clear hcz73_3
                   try clear hcz76_0
                   try clear hcz76_1
                   try clear hcz77_0
                   try clear hcz77_1
                   try clear hcz77_2
                   try clear hcz77_3
                   try clear hcz80_0
                   try clear hcz80_1
                   try clear hfz10_0
                   try clear hfz10_1
                   try clear hfz10_2
                   try clear hfz10_3
                   try clear hfz11_0
                   try clear hfz11_1
                   try clear hfz11_2
                   try clear hfz11_3
                   try clear hfz12_0
                   try clear hfz12_1
                   try clear hfz12_2
                   try clear hfz12_3
                   try clear hfz20_0
                   try clear hfz20_1
                   try clear hfz20_2
                   try clear hfz20_3
                   try clear hfz22_0
                   try clear hfz22_1
                   try clear hfz22_2
                   try clear hfz22_3
                   try clear hfz27_0
                   try clear hfz27_1
                   try clear hfz27_2
                   try clear hfz27_3
                   try clear hfz30_0
                   try clear hfz30_1
                   try clear hfz30_2
                   try clear hfz36_0
                   try clear hfz36_1
                   try clear hfz36_2
                   try clear hfz38_0
                   try clear hfz38_1
                   try clear hfz38_2
                   try clear hfz40_0
                   try clear hfz40_1
                   try clear hfz40_2
                   try clear hfz47_0
                   try clear hfz47_1
                   try clear hfz47_2
                   try clear hfz47_3
                   try clear hfz48_0
                   try clear hfz48_1
                   try clear hfz48_2
                   try clear hfz4_0
                   try clear hfz4_1
                   try clear hfz4_2
                   try clear hfz4_3
                   try clear hfz50_0
                   try clear hfz50_1
                   try clear hfz50_2
                   try clear hfz50_3
                   try clear hfz51_0
                   try clear hfz51_1
                   try clear hfz51_2
                   try clear hfz54_0
                   try clear hfz54_1
                   try clear hfz54_2
                   try clear hfz56_0
                   try clear hfz56_1
                   try clear hfz56_2
                   try clear hfz56_3
                   try clear hfz73_0
                   try clear hfz73_1
                   try clear hfz73_2
                   try clear hfz73_3
                   try clear hfz76_0
                   try clear hfz76_1
                   try clear hfz77_0
                   try clear hfz77_1
                   try clear hfz77_2
                   try clear hfz77_3
                   try clear hfz80_0
                   try clear hfz80_1
                   try clear hx262_0
                   try clear hx263_0
                   try clear hx267_0
                   try clear hx267_1
                   try clear hx267_2
                   try clear hx274_0
                   try clear hx274_1
                   try clear hx274_2
                   try clear hx275_0
                   try clear hx280_0
                   try clear hx282_0
                   try clear hx282_1
                   try clear p2
                   try clear p26
                   try clear p262
                   try clear p263
                   try clear p267
                   try clear p27
                   try clear p274
                   try clear p275
                   try clear p28
                   try clear p280
                   try clear p282
                   try clear p6
                   try clear p64
                   try clear q2
                   try clear q26
                   try clear q262
                   try clear q263
                   try clear q267
                   try clear q27
                   try clear q274
                   try clear q275
                   try clear q28
                   try clear q280
                   try clear q282
                   try clear q6
                   try clear q66
                   try clear q68
                   obtain ⟨x12_6, rfl, HA, HK6, BK256, BK283, HB⟩ := hrel
                   cases gk with
                   | zero => exact absurd HA.out (by simp [spec_LoopOk.l5])
                   | succ k6 =>
                    have H := HA.out
                    clear HA
                    simp only [spec_LoopOk.l5] at H
                    by_cases c81 : x12_6 < x10_5
                    ·rw [if_pos c81] at H
                     have c81b0 : decide (x12_6 < x10_5) = true := decide_eq_true c81
                     clear c81
                     by_cases c82 : 0 ≤ x12_6
                     ·rw [if_pos c82] at H
                      have c82b0 : decide (0 ≤ x12_6) = true := decide_eq_true c82
                      clear c82
                      by_cases c83 : x12_6 < (l0_3.length : Int)
                      ·rw [if_pos c83] at H
                       have c83b0 : decide (x12_6 < (l0_3.length : Int)) = true := decide_eq_true c83
                       clear c83
                       by_cases c84 : ((rd_T74 l0_3 x12_6).f0) = ((rd_T74 l0_3 x10_5).f0)
                       ·rw [if_pos c84] at H
                        have c84b0 : (((rd_T74 l0_3 x12_6).f0) == ((rd_T74 l0_3 x10_5).f0)) = true := beq_iff_eq.mpr c84
                        have c84b1 : (((rd_T74 l0_3 x12_6).f0) != ((rd_T74 l0_3 x10_5).f0)) = false := bne_eq_false_iff_eq.mpr c84
                        clear c84
                        obtain rfl := Option.some.inj H
                        have hnb85 := NB256_283.out
                        have hnc85 := NB283_256.out
                        have hcz86_0 : wr.cell? ⟨gb256, 0, none⟩ = some (.slice A0_0 l0_0.length c0_0) := (blk_cell BK256.out 0).trans rfl
                        have hcz86_1 : wr.cell? ⟨gb256, 1, none⟩ = some (.int .i64 a0_1) := (blk_cell BK256.out 1).trans rfl
                        have hcz86_2 : wr.cell? ⟨gb256, 2, none⟩ = some (.slice A0_2 l0_2.length c0_2) := (blk_cell BK256.out 2).trans rfl
                        have hcz86_3 : wr.cell? ⟨gb256, 3, none⟩ = some (.slice (some ad282) l0_3.length c0_3) := (blk_cell BK256.out 3).trans rfl
                        have hfz86_0 := blk_frozen BK256.out 0
                        have hfz86_1 := blk_frozen BK256.out 1
                        have hfz86_2 := blk_frozen BK256.out 2
                        have hfz86_3 := blk_frozen BK256.out 3
                        have p284 : 0 ≤ (x12_6 : Int) := of_decide_eq_true (by first | (with_reducible assumption) | assumption)
                        have q284 : x12_6 < (l0_3.length : Int) := of_decide_eq_true (by first | (with_reducible assumption) | assumption)
                        obtain ⟨ad284, A284_1, c284_1, e284, hx284_0, hx284_1, hl284_1, hi284_1⟩ := at_T74 HR0_3.out x12_6 p284 q284
                        obtain rfl : ad282 = ad284 := (by injection e284)
                        replace hx284_0 := (HB.out.cell (World.block_lt_of_cell? w _ hx284_0)).trans hx284_0
                        replace hx284_1 := (HB.out.cell (World.block_lt_of_cell? w _ hx284_1)).trans hx284_1
                        have HR284_1 := Aside0.mk hi284_1
                        have HC284_1 := Aside0.mk hl284_1
                        clear hi284_1 hl284_1
                        replace p284 := eq_true p284
                        replace q284 := eq_true q284
                        have hcz87_0 : wr.cell? ⟨gb283, 0, none⟩ = some (.int .i64 ((rd_T74 l0_3 x10_5).f0)) := (blk_cell BK283.out 0).trans rfl
                        have hcz87_1 : wr.cell? ⟨gb283, 1, none⟩ = some (.slice A282_1 ((rd_T74 l0_3 x10_5).f1).length c282_1) := (blk_cell BK283.out 1).trans rfl
                        have hfz87_0 := blk_frozen BK283.out 0
                        have hfz87_1 := blk_frozen BK283.out 1
                        go_wp2
                        repeat (go_quiet (fail); try go_wp2)
                        go_ret
                        exact ⟨by first | rfl | (simp [errW_none, errW_some] <;> rfl) | (simp [*, errW_none, errW_some] <;> rfl), by repeat (first | (with_reducible first | exact HB.out | apply below_alloc | apply pw_below_drewN | apply below_drew1 | refine below_set ?_ GE256.out | refine below_set ?_ GE283.out) | exact HB.out)⟩
                       ·rw [if_neg c84] at H
                        have c84b0 : (((rd_T74 l0_3 x12_6).f0) == ((rd_T74 l0_3 x10_5).f0)) = false := beq_eq_false_iff_ne.mpr c84
                        have c84b1 : (((rd_T74 l0_3 x12_6).f0) != ((rd_T74 l0_3 x10_5).f0)) = true := bne_iff_ne.mpr c84
                        have H' := Aside0.mk H
                        clear H
                        have hnb88 := NB256_283.out
                        have hnc88 := NB283_256.out
                        have hcz89_0 : wr.cell? ⟨gb256, 0, none⟩ = some (.slice A0_0 l0_0.length c0_0) := (blk_cell BK256.out 0).trans rfl
                        have hcz89_1 : wr.cell? ⟨gb256, 1, none⟩ = some (.int .i64 a0_1) := (blk_cell BK256.out 1).trans rfl
                        have hcz89_2 : wr.cell? ⟨gb256, 2, none⟩ = some (.slice A0_2 l0_2.length c0_2) := (blk_cell BK256.out 2).trans rfl
                        have hcz89_3 : wr.cell? ⟨gb256, 3, none⟩ = some (.slice (some ad282) l0_3.length c0_3) := (blk_cell BK256.out 3).trans rfl
                        have hfz89_0 := blk_frozen BK256.out 0
                        have hfz89_1 := blk_frozen BK256.out 1
                        have hfz89_2 := blk_frozen BK256.out 2
                        have hfz89_3 := blk_frozen BK256.out 3
                        have p284 : 0 ≤ (x12_6 : Int) := of_decide_eq_true (by first | (with_reducible assumption) | assumption)
                        have q284 : x12_6 < (l0_3.length : Int) := of_decide_eq_true (by first | (with_reducible assumption) | assumption)
                        obtain ⟨ad284, A284_1, c284_1, e284, hx284_0, hx284_1, hl284_1, hi284_1⟩ := at_T74 HR0_3.out x12_6 p284 q284
                        obtain rfl : ad282 = ad284 := (by injection e284)
                        replace hx284_0 := (HB.out.cell (World.block_lt_of_cell? w _ hx284_0)).trans hx284_0
                        replace hx284_1 := (HB.out.cell (World.block_lt_of_cell? w _ hx284_1)).trans hx284_1
                        have HR284_1 := Aside0.mk hi284_1
                        have HC284_1 := Aside0.mk hl284_1
                        clear hi284_1 hl284_1
                        replace p284 := eq_true p284
                        replace q284 := eq_true q284
                        have hcz90_0 : wr.cell? ⟨gb283, 0, none⟩ = some (.int .i64 ((rd_T74 l0_3 x10_5).f0)) := (blk_cell BK283.out 0).trans rfl
                        have hcz90_1 : wr.cell? ⟨gb283, 1, none⟩ = some (.slice A282_1 ((rd_T74 l0_3 x10_5).f1).length c282_1) := (blk_cell BK283.out 1).trans rfl
                        have hfz90_0 := blk_frozen BK283.out 0
                        have hfz90_1 := blk_frozen BK283.out 1
                        go_wp2
                        repeat (go_quiet (fail); try go_wp2)
                        go_roundg k6
                        case measure => have := HJ1.out; have := HK2.out; have := HK3.out; have := HK4.out; have := HK5.out; have := HK6.out; omega
                        case rel => exact ⟨(wrap64 (x12_6 + 1)), (by first | rfl | (simp; done) | (simp [*]; done)), H', ⟨by have := HJ1.out; have := HK2.out; have := HK3.out; have := HK4.out; have := HK5.out; have := HK6.out; omega⟩, ⟨by (with_reducible repeat (first | refine blk_drewN ?_ _ | refine blk_drew ?_ | refine blk_alloc ?_ _)); exact BK256.out⟩, ⟨by (with_reducible repeat (first | refine blk_drewN ?_ _ | refine blk_drew ?_ | refine blk_alloc ?_ _)); exact BK283.out⟩, ⟨by repeat (first | (with_reducible first | exact HB.out | apply below_alloc | apply pw_below_drewN | apply below_drew1 | refine below_set ?_ GE256.out | refine below_set ?_ GE283.out) | exact HB.out)⟩⟩
                      ·rw [if_neg c83] at H
                       exact absurd H (by simp)
                     ·rw [if_neg c82] at H
                      exact absurd H (by simp)
                    ·rw [if_neg c81] at H
                     have c81b0 : decide (x12_6 < x10_5) = false := decide_eq_false c81
                     clear c81
                     have H' := Aside0.mk H
                     clear H
                     go_wp2
                     repeat (go_quiet (fail); try go_wp2)
                     go_loopg [13] k6 (fun kq v13 w' => ∃ (x13_7 : Int), v13 = .int .i64 x13_7 ∧ Aside0 (spec_LoopOk.l6 kq x10_5 x13_7 l0_0 a0_1 l0_2 l0_3 ((rd_T74 l0_3 x10_5).f0) ((rd_T74 l0_3 x10_5).f1) = some r) ∧ Aside0 (kq ≤ k6) ∧ Aside0 (w'.heap[gb256]? = some (.cells #[(.slice A0_0 l0_0.length c0_0), .int .i64 a0_1, (.slice A0_2 l0_2.length c0_2), (.slice (some ad282) l0_3.length c0_3)] 28 (0, 0))) ∧ Aside0 (w'.heap[gb283]? = some (.cells #[.int .i64 ((rd_T74 l0_3 x10_5).f0), (.slice A282_1 ((rd_T74 l0_3 x10_5).f1).length c282_1)] 74 (0, 0))) ∧ Aside0 (Below w.heap.size w w'))
                     case atStart => exact ⟨(0), (by first | rfl | (simp; done) | (simp [*]; done)), H', ⟨Nat.le_refl _⟩, ⟨by (with_reducible repeat (first | refine blk_drewN ?_ _ | refine blk_drew ?_ | refine blk_alloc ?_ _)); exact BK256.out⟩, ⟨by (with_reducible repeat (first | refine blk_drewN ?_ _ | refine blk_drew ?_ | refine blk_alloc ?_ _)); exact BK283.out⟩, ⟨by repeat (first | (with_reducible first | exact HB.out | apply below_alloc | apply pw_below_drewN | apply below_drew1 | refine below_set ?_ GE256.out | refine below_set ?_ GE283.out) | exact HB.out)⟩⟩
                     case round =>
                      clear H'
                      try clear c1
                      try clear c2
                      try clear p2
                      try clear q2
                      try clear hx2
                      try clear c3
                      try clear c4
                      try clear c5
                      try clear c6
                      try clear p6
                      try clear q6
                      try clear c7
                      try clear c8
                      try clear c9
                      try clear c9b0
                      try clear c9b1
                      try clear c13
                      try clear c16
                      try clear c16b0
                      try clear c17
                      try clear c17b0
                      try clear c18
                      try clear c18b0
                      try clear c19
                      try clear c19b0
                      try clear c19b1
                      try clear c21
                      try clear c23
                      try clear c24
                      try clear c24b0
                      try clear c25
                      try clear c25b0
                      try clear c26
                      try clear p26
                      try clear q26
                      try clear hx26
                      try clear c27
                      try clear p27
                      try clear q27
                      try clear hx27
                      try clear c28
                      try clear p28
                      try clear q28
                      try clear hx28
                      try clear c29
                      try clear c32
                      try clear c34
                      try clear c35
                      try clear c37
                      try clear c39
                      try clear c41
                      try clear c42
                      try clear c42b0
                      try clear c43
                      try clear c43b0
                      try clear c44
                      try clear c44b0
                      try clear c45
                      try clear c45b0
                      try clear c45b1
                      try clear c46
                      try clear c49
                      try clear c52
                      try clear c53
                      try clear c57
                      try clear c57b0
                      try clear c58
                      try clear c58b0
                      try clear c59
                      try clear c59b0
                      try clear c61
                      try clear c61b0
                      try clear c62
                      try clear c62b0
                      try clear c62b1
                      try clear c64
                      try clear p64
                      try clear q66
                      try clear q68
                      try clear c70
                      try clear c70b0
                      try clear c71
                      try clear c71b0
                      try clear c72
                      try clear c72b0
                      try clear c75
                      try clear c79
                      try clear c81
                      try clear c81b0
                      try clear c82
                      try clear c82b0
                      try clear c83
                      try clear c83b0
                      try clear c84
                      try clear c84b0
                      try clear c84b1
                      try clear c85
                      try clear c88
                      try clear hcz10_0
                      try clear hcz10_1
                      try clear hcz10_2
                      try clear hcz10_3
                      try clear hcz11_0
                      try clear hcz11_1
                      try clear hcz11_2
                      try clear hcz11_3
                      try clear hcz12_0
                      try clear hcz12_1
                      try clear hcz12_2
                      try clear hcz12_3
                      try clear hcz20_0
                      try clear hcz20_1
                      try clear hcz20_2
                      try clear hcz20_3
                      try clear hcz22_0
                      try clear hcz22_1
                      try clear hcz22_2
                      try clear hcz22_3
                      try clear hcz27_0
                      try clear hcz27_1
                      try clear hcz27_2
                      try clear hcz27_3
                      try clear hcz30_0
                      try clear hcz30_1
                      try clear hcz30_2
                      try clear hcz36_0
                      try clear hcz36_1
                      try clear hcz36_2
                      try clear hcz38_0
                      try clear hcz38_1
                      try clear hcz38_2
                      try clear hcz40_0
                      try clear hcz40_1
                      try clear hcz40_2
                      try clear hcz47_0
                      try clear hcz47_1
                      try clear hcz47_2
                      try clear hcz47_3
                      try clear hcz48_0
                      try clear hcz48_1
                      try clear hcz48_2
                      try clear hcz4_0
                      try clear hcz4_1
                      try clear hcz4_2
                      try clear hcz4_3
                      try clear hcz50_0
                      try clear hcz50_1
                      try clear hcz50_2
                      try clear hcz50_3
                      try clear hcz51_0
                      try clear hcz51_1
                      try clear hcz51_2
                      try clear hcz54_0
                      try clear hcz54_1
                      try clear hcz54_2
                      try clear hcz56_0
                      try clear hcz56_1
                      try clear hcz56_2
                      try clear hcz56_3
                      try clear hcz73_0
                      try clear hcz73_1
                      try clear hcz73_2
                      try clear hcz73_3
                      try clear hcz76_0
                      try clear hcz76_1
                      try clear hcz77_0
                      try clear hcz77_1
                      try clear hcz77_2
                      try clear hcz77_3
                      try clear hcz80_0
                      try clear hcz80_1
                      try clear hcz86_0
                      try clear hcz86_1
                      try clear hcz86_2
                      try clear hcz86_3
                      try clear hcz87_0
                      try clear hcz87_1
                      try clear hcz89_0
                      try clear hcz89_1
                      try clear hcz89_2
                      try clear hcz89_3
                      try clear hcz90_0
                      try clear hcz90_1
                      try clear hfz10_0
                      try clear hfz10_1
                      try clear hfz10_2
                      try clear hfz10_3
                      try clear hfz11_0
                      try clear hfz11_1
                      try clear hfz11_2
                      try clear hfz11_3
                      try clear hfz12_0
                      try clear hfz12_1
                      try clear hfz12_2
                      try clear hfz12_3
                      try clear hfz20_0
                      try clear hfz20_1
                      try clear hfz20_2
                      try clear hfz20_3
                      try clear hfz22_0
                      try clear hfz22_1
                      try clear hfz22_2
                      try clear hfz22_3
                      try clear hfz27_0
                      try clear hfz27_1
                      try clear hfz27_2
                      try clear hfz27_3
                      try clear hfz30_0
                      try clear hfz30_1
                      try clear hfz30_2
                      try clear hfz36_0
                      try clear hfz36_1
                      try clear hfz36_2
                      try clear hfz38_0
                      try clear hfz38_1
                      try clear hfz38_2
                      try clear hfz40_0
                      try clear hfz40_1
                      try clear hfz40_2
                      try clear hfz47_0
                      try clear hfz47_1
                      try clear hfz47_2
                      try clear hfz47_3
                      try clear hfz48_0
                      try clear hfz48_1
                      try clear hfz48_2
                      try clear hfz4_0
                      try clear hfz4_1
                      try clear hfz4_2
                      try clear hfz4_3
                      try clear hfz50_0
                      try clear hfz50_1
                      try clear hfz50_2
                      try clear hfz50_3
                      try clear hfz51_0
                      try clear hfz51_1
                      try clear hfz51_2
                      try clear hfz54_0
                      try clear hfz54_1
                      try clear hfz54_2
                      try clear hfz56_0
                      try clear hfz56_1
                      try clear hfz56_2
                      try clear hfz56_3
                      try clear hfz73_0
                      try clear hfz73_1
                      try clear hfz73_2
                      try clear hfz73_3
                      try clear hfz76_0
                      try clear hfz76_1
                      try clear hfz77_0
                      try clear hfz77_1
                      try clear hfz77_2
                      try clear hfz77_3
                      try clear hfz80_0
                      try clear hfz80_1
                      try clear hfz86_0
                      try clear hfz86_1
                      try clear hfz86_2
                      try clear hfz86_3
                      try clear hfz87_0
                      try clear hfz87_1
                      try clear hfz89_0
                      try clear hfz89_1
                      try clear hfz89_2
                      try clear hfz89_3
                      try clear hfz90_0
                      try clear hfz90_1
                      try clear hx262_0
                      try clear hx263_0
                      try clear hx267_0
                      try clear hx267_1
                      try clear hx267_2
                      try clear hx274_0
                      try clear hx274_1
                      try clear hx274_2
                      try clear hx275_0
                      try clear hx280_0
                      try clear hx282_0
                      try clear hx282_1
                      try clear hx284_0
                      try clear hx284_1
                      try clear p2
                      try clear p26
                      try clear p262
                      try clear p263
                      try clear p267
                      try clear p27
                      try clear p274
                      try clear p275
                      try clear p28
                      try clear p280
                      try clear p282
                      try clear p284
                      try clear p6
                      try clear p64
                      try clear q2
                      try clear q26
                      try clear q262
                      try clear q263
                      try clear q267
                      try clear q27
                      try clear q274
                      try clear q275
                      try clear q28
                      try clear q280
                      try clear q282
                      try clear q284
                      try clear q6
                      try clear q66
                      try clear q68
                      obtain ⟨x13_7, rfl, HA, HK7, BK256, BK283, HB⟩ := hrel
                      cases gk with
                      | zero => exact absurd HA.out (by simp [spec_LoopOk.l6])
                      | succ k7 =>
                       have H := HA.out
                       clear HA
                       simp only [spec_LoopOk.l6] at H
                       by_cases c91 : x13_7 < (((rd_T74 l0_3 x10_5).f1).length : Int)
                       ·rw [if_pos c91] at H
                        have c91b0 : decide (x13_7 < (((rd_T74 l0_3 x10_5).f1).length : Int)) = true := decide_eq_true c91
                        clear c91
                        have HC92 := Aside0.mk H
                        clear H
                        have hnb93 := NB283_256.out
                        have hnc93 := NB256_283.out
                        have hcz94_0 : wr.cell? ⟨gb283, 0, none⟩ = some (.int .i64 ((rd_T74 l0_3 x10_5).f0)) := (blk_cell BK283.out 0).trans rfl
                        have hcz94_1 : wr.cell? ⟨gb283, 1, none⟩ = some (.slice A282_1 ((rd_T74 l0_3 x10_5).f1).length c282_1) := (blk_cell BK283.out 1).trans rfl
                        have hfz94_0 := blk_frozen BK283.out 0
                        have hfz94_1 := blk_frozen BK283.out 1
                        go_upto_region 41 with (fail)
                        repeat (go_quiet (fail); go_upto_region 41 with (fail))
                        go_cut [195] (fun v195 wc => ∃ (kq : Nat) (x195_91 : Bool), v195 = .bool x195_91 ∧ Aside0 (spec_LoopOk.j9 kq x10_5 x13_7 x195_91 l0_0 a0_1 l0_2 l0_3 ((rd_T74 l0_3 x10_5).f0) ((rd_T74 l0_3 x10_5).f1) = some r) ∧ Aside0 (kq ≤ k7) ∧ Aside0 (wc.heap[gb256]? = some (.cells #[(.slice A0_0 l0_0.length c0_0), .int .i64 a0_1, (.slice A0_2 l0_2.length c0_2), (.slice (some ad282) l0_3.length c0_3)] 28 (0, 0))) ∧ Aside0 (wc.heap[gb283]? = some (.cells #[.int .i64 ((rd_T74 l0_3 x10_5).f0), (.slice A282_1 ((rd_T74 l0_3 x10_5).f1).length c282_1)] 74 (0, 0))) ∧ Aside0 (Below w.heap.size w wc))
                        case first =>
                         have H := HC92.out
                         clear HC92
                         by_cases c95 : 0 ≤ x13_7
                         ·rw [if_pos c95] at H
                          have c95b0 : decide (0 ≤ x13_7) = true := decide_eq_true c95
                          clear c95
                          (first | rw [c95b0] | (simp only [i64_w, i32_w]; rw [c95b0]) | skip)
                          replace H := Option.bind_eq_some_iff.mp H
                          obtain ⟨t286, A960, H⟩ := H
                          replace H : (if t286 = true then (if x13_7 > 0 then (if 0 ≤ (wrap64 (x13_7 - 1)) then (if (wrap64 (x13_7 - 1)) < (((rd_T74 l0_3 x10_5).f1).length : Int) then (spec_LoopOk.j9 k7 x10_5 x13_7 (decide ((rd ((rd_T74 l0_3 x10_5).f1) x13_7) ≤ (rd ((rd_T74 l0_3 x10_5).f1) (wrap64 (x13_7 - 1))))) l0_0 a0_1 l0_2 l0_3 ((rd_T74 l0_3 x10_5).f0) ((rd_T74 l0_3 x10_5).f1)) else (none)) else (none)) else (spec_LoopOk.j9 k7 x10_5 x13_7 false l0_0 a0_1 l0_2 l0_3 ((rd_T74 l0_3 x10_5).f0) ((rd_T74 l0_3 x10_5).f1))) else (spec_LoopOk.j9 k7 x10_5 x13_7 true l0_0 a0_1 l0_2 l0_3 ((rd_T74 l0_3 x10_5).f0) ((rd_T74 l0_3 x10_5).f1))) = some r := H
                          have A96 := Aside0.mk A960
                          clear A960
                          by_cases c97 : t286 = true
                          ·subst c97
                           have H1 : (if x13_7 > 0 then (if 0 ≤ (wrap64 (x13_7 - 1)) then (if (wrap64 (x13_7 - 1)) < (((rd_T74 l0_3 x10_5).f1).length : Int) then (spec_LoopOk.j9 k7 x10_5 x13_7 (decide ((rd ((rd_T74 l0_3 x10_5).f1) x13_7) ≤ (rd ((rd_T74 l0_3 x10_5).f1) (wrap64 (x13_7 - 1))))) l0_0 a0_1 l0_2 l0_3 ((rd_T74 l0_3 x10_5).f0) ((rd_T74 l0_3 x10_5).f1)) else (none)) else (none)) else (spec_LoopOk.j9 k7 x10_5 x13_7 false l0_0 a0_1 l0_2 l0_3 ((rd_T74 l0_3 x10_5).f0) ((rd_T74 l0_3 x10_5).f1))) = some r := by rw [if_pos rfl] at H; exact H
                           clear H
                           have H := H1
                           clear H1
                           by_cases c98 : x13_7 > 0
                           ·rw [if_pos c98] at H
                            have c98b0 : decide (0 < x13_7) = true := decide_eq_true c98
                            clear c98
                            obtain ⟨ji99, hji99⟩ : ∃ j_ : Int, (wrap64 (x13_7 - 1)) = j_ := ⟨_, rfl⟩
                            replace H : (if 0 ≤ (ji99) then (if (ji99) < (((rd_T74 l0_3 x10_5).f1).length : Int) then (spec_LoopOk.j9 k7 x10_5 x13_7 (decide ((rd ((rd_T74 l0_3 x10_5).f1) x13_7) ≤ (rd ((rd_T74 l0_3 x10_5).f1) (ji99)))) l0_0 a0_1 l0_2 l0_3 ((rd_T74 l0_3 x10_5).f0) ((rd_T74 l0_3 x10_5).f1)) else (none)) else (none)) = some r := by first | (rw [hji99] at H; exact H) | (simp only [hji99] at H ⊢; exact H)
                            (try rw [hji99] at A96)
                            have hji99w : (IntKind.i64.wrap (x13_7 - 1)) = ji99 := (i64_w _).trans hji99
                            by_cases c100 : 0 ≤ (ji99)
                            ·rw [if_pos c100] at H
                             have c100b0 : decide (0 ≤ (ji99)) = true := decide_eq_true c100
                             clear c100
                             by_cases c101 : (ji99) < (((rd_T74 l0_3 x10_5).f1).length : Int)
                             ·rw [if_pos c101] at H
                              have c101b0 : decide ((ji99) < (((rd_T74 l0_3 x10_5).f1).length : Int)) = true := decide_eq_true c101
                              clear c101
                              have H' := Aside0.mk H
                              clear H
                              have hnb102 := NB283_256.out
                              have hnc102 := NB256_283.out
                              have hcz103_0 : wr.cell? ⟨gb283, 0, none⟩ = some (.int .i64 ((rd_T74 l0_3 x10_5).f0)) := (blk_cell BK283.out 0).trans rfl
                              have hcz103_1 : wr.cell? ⟨gb283, 1, none⟩ = some (.slice A282_1 ((rd_T74 l0_3 x10_5).f1).length c282_1) := (blk_cell BK283.out 1).trans rfl
                              have hfz103_0 := blk_frozen BK283.out 0
                              have hfz103_1 := blk_frozen BK283.out 1
                              have p285 : 0 ≤ (x13_7 : Int) := of_decide_eq_true (by first | (with_reducible assumption) | assumption)
                              have q285 : x13_7 < (((rd_T74 l0_3 x10_5).f1).length : Int) := of_decide_eq_true (by first | (with_reducible assumption) | assumption)
                              obtain ⟨ad285, e285, hx285_0⟩ := Kd.at_int HR282_1.out x13_7 p285 q285
                              cases e285
                              replace hx285_0 := (HB.out.cell (World.block_lt_of_cell? w _ hx285_0)).trans hx285_0
                              replace p285 := eq_true p285
                              replace q285 := eq_true q285
                              have hcz104_0 : wr.cell? ⟨gb256, 0, none⟩ = some (.slice A0_0 l0_0.length c0_0) := (blk_cell BK256.out 0).trans rfl
                              have hcz104_1 : wr.cell? ⟨gb256, 1, none⟩ = some (.int .i64 a0_1) := (blk_cell BK256.out 1).trans rfl
                              have hcz104_2 : wr.cell? ⟨gb256, 2, none⟩ = some (.slice A0_2 l0_2.length c0_2) := (blk_cell BK256.out 2).trans rfl
                              have hcz104_3 : wr.cell? ⟨gb256, 3, none⟩ = some (.slice (some ad282) l0_3.length c0_3) := (blk_cell BK256.out 3).trans rfl
                              have hfz104_0 := blk_frozen BK256.out 0
                              have hfz104_1 := blk_frozen BK256.out 1
                              have hfz104_2 := blk_frozen BK256.out 2
                              have hfz104_3 := blk_frozen BK256.out 3
                              have p287 : 0 ≤ (x13_7 : Int) := of_decide_eq_true (by first | (with_reducible assumption) | assumption); have q287 : x13_7 < (((rd_T74 l0_3 x10_5).f1).length : Int) := of_decide_eq_true (by first | (with_reducible assumption) | assumption); obtain ⟨ad287, e287, hx287_0⟩ := Kd.at_int HR282_1.out x13_7 p287 q287; obtain rfl : ad285 = ad287 := (by injection e287); replace hx287_0 := (HB.out.cell (World.block_lt_of_cell? w _ hx287_0)).trans hx287_0; replace p287 := eq_true p287; replace q287 := eq_true q287; have p288 : 0 ≤ ((ji99) : Int) := of_decide_eq_true (by first | (with_reducible assumption) | assumption); have q288 : (ji99) < (((rd_T74 l0_3 x10_5).f1).length : Int) := of_decide_eq_true (by first | (with_reducible assumption) | assumption); obtain ⟨ad288, e288, hx288_0⟩ := Kd.at_int HR282_1.out (ji99) p288 q288; obtain rfl : ad285 = ad288 := (by injection e288); replace hx288_0 := (HB.out.cell (World.block_lt_of_cell? w _ hx288_0)).trans hx288_0; replace p288 := eq_true p288; replace q288 := eq_true q288
                              go_wp2_with (first | (go_at_call 62; (with_reducible refine (spec_l01In.calls (rd ((rd_T74 l0_3 x10_5).f1) x13_7) 0 (wrap64 ((l0_2.length : Int) - 1)) true _ A96.out).mono ?_); rintro e w' ⟨rfl, ⟨nd, rfl⟩⟩; (try first | exact ⟨rfl, _, World.drewN_drewN _ _ _⟩ | exact ⟨rfl, _, Eq.trans (World.drewN_drewN _ _ _) (congrArg (World.drewN _) (Nat.add_assoc _ _ _))⟩)))
                              repeat (go_quiet (first | (go_at_call 62; (with_reducible refine (spec_l01In.calls (rd ((rd_T74 l0_3 x10_5).f1) x13_7) 0 (wrap64 ((l0_2.length : Int) - 1)) true _ A96.out).mono ?_); rintro e w' ⟨rfl, ⟨nd, rfl⟩⟩; (try first | exact ⟨rfl, _, World.drewN_drewN _ _ _⟩ | exact ⟨rfl, _, Eq.trans (World.drewN_drewN _ _ _) (congrArg (World.drewN _) (Nat.add_assoc _ _ _))⟩))); try go_wp2_with (first | (go_at_call 62; (with_reducible refine (spec_l01In.calls (rd ((rd_T74 l0_3 x10_5).f1) x13_7) 0 (wrap64 ((l0_2.length : Int) - 1)) true _ A96.out).mono ?_); rintro e w' ⟨rfl, ⟨nd, rfl⟩⟩; (try first | exact ⟨rfl, _, World.drewN_drewN _ _ _⟩ | exact ⟨rfl, _, Eq.trans (World.drewN_drewN _ _ _) (congrArg (World.drewN _) (Nat.add_assoc _ _ _))⟩))))
                              go_meet
                              case rel => exact ⟨_, (decide ((rd ((rd_T74 l0_3 x10_5).f1) x13_7) ≤ (rd ((rd_T74 l0_3 x10_5).f1) (ji99)))), (by first | rfl | (simp; done) | (simp only [← hji99] <;> (first | rfl | simp)) | (simp [*]; done)), H', ⟨by have := HJ1.out; have := HK2.out; have := HK3.out; have := HK4.out; have := HK5.out; have := HK6.out; have := HK7.out; first | omega | exact Nat.le_refl _⟩, ⟨by (with_reducible repeat (first | refine blk_drewN ?_ _ | refine blk_drew ?_ | refine blk_alloc ?_ _)); exact BK256.out⟩, ⟨by (with_reducible repeat (first | refine blk_drewN ?_ _ | refine blk_drew ?_ | refine blk_alloc ?_ _)); exact BK283.out⟩, ⟨by repeat (first | (with_reducible first | exact HB.out | apply below_alloc | apply pw_below_drewN | apply below_drew1 | refine below_set ?_ GE256.out | refine below_set ?_ GE283.out) | exact HB.out)⟩⟩
                             ·rw [if_neg c101] at H
                              exact absurd H (by simp)
                            ·rw [if_neg c100] at H
                             exact absurd H (by simp)
                           ·rw [if_neg c98] at H
                            have c98b0 : decide (0 < x13_7) = false := decide_eq_false c98
                            clear c98
                            have H' := Aside0.mk H
                            clear H
                            have hnb105 := NB283_256.out
                            have hnc105 := NB256_283.out
                            have hcz106_0 : wr.cell? ⟨gb283, 0, none⟩ = some (.int .i64 ((rd_T74 l0_3 x10_5).f0)) := (blk_cell BK283.out 0).trans rfl
                            have hcz106_1 : wr.cell? ⟨gb283, 1, none⟩ = some (.slice A282_1 ((rd_T74 l0_3 x10_5).f1).length c282_1) := (blk_cell BK283.out 1).trans rfl
                            have hfz106_0 := blk_frozen BK283.out 0
                            have hfz106_1 := blk_frozen BK283.out 1
                            have p285 : 0 ≤ (x13_7 : Int) := of_decide_eq_true (by first | (with_reducible assumption) | assumption)
                            have q285 : x13_7 < (((rd_T74 l0_3 x10_5).f1).length : Int) := of_decide_eq_true (by first | (with_reducible assumption) | assumption)
                            obtain ⟨ad285, e285, hx285_0⟩ := Kd.at_int HR282_1.out x13_7 p285 q285
                            cases e285
                            replace hx285_0 := (HB.out.cell (World.block_lt_of_cell? w _ hx285_0)).trans hx285_0
                            replace p285 := eq_true p285
                            replace q285 := eq_true q285
                            have hcz107_0 : wr.cell? ⟨gb256, 0, none⟩ = some (.slice A0_0 l0_0.length c0_0) := (blk_cell BK256.out 0).trans rfl
                            have hcz107_1 : wr.cell? ⟨gb256, 1, none⟩ = some (.int .i64 a0_1) := (blk_cell BK256.out 1).trans rfl
                            have hcz107_2 : wr.cell? ⟨gb256, 2, none⟩ = some (.slice A0_2 l0_2.length c0_2) := (blk_cell BK256.out 2).trans rfl
                            have hcz107_3 : wr.cell? ⟨gb256, 3, none⟩ = some (.slice (some ad282) l0_3.length c0_3) := (blk_cell BK256.out 3).trans rfl
                            have hfz107_0 := blk_frozen BK256.out 0
                            have hfz107_1 := blk_frozen BK256.out 1
                            have hfz107_2 := blk_frozen BK256.out 2
                            have hfz107_3 := blk_frozen BK256.out 3
                            go_wp2_with (first | (go_at_call 62; (with_reducible refine (spec_l01In.calls (rd ((rd_T74 l0_3 x10_5).f1) x13_7) 0 (wrap64 ((l0_2.length : Int) - 1)) true _ A96.out).mono ?_); rintro e w' ⟨rfl, ⟨nd, rfl⟩⟩; (try first | exact ⟨rfl, _, World.drewN_drewN _ _ _⟩ | exact ⟨rfl, _, Eq.trans (World.drewN_drewN _ _ _) (congrArg (World.drewN _) (Nat.add_assoc _ _ _))⟩)))
                            repeat (go_quiet (first | (go_at_call 62; (with_reducible refine (spec_l01In.calls (rd ((rd_T74 l0_3 x10_5).f1) x13_7) 0 (wrap64 ((l0_2.length : Int) - 1)) true _ A96.out).mono ?_); rintro e w' ⟨rfl, ⟨nd, rfl⟩⟩; (try first | exact ⟨rfl, _, World.drewN_drewN _ _ _⟩ | exact ⟨rfl, _, Eq.trans (World.drewN_drewN _ _ _) (congrArg (World.drewN _) (Nat.add_assoc _ _ _))⟩))); try go_wp2_with (first | (go_at_call 62; (with_reducible refine (spec_l01In.calls (rd ((rd_T74 l0_3 x10_5).f1) x13_7) 0 (wrap64 ((l0_2.length : Int) - 1)) true _ A96.out).mono ?_); rintro e w' ⟨rfl, ⟨nd, rfl⟩⟩; (try first | exact ⟨rfl, _, World.drewN_drewN _ _ _⟩ | exact ⟨rfl, _, Eq.trans (World.drewN_drewN _ _ _) (congrArg (World.drewN _) (Nat.add_assoc _ _ _))⟩))))
                            go_meet
                            case rel => exact ⟨_, (false), (by first | rfl | (simp; done) | (simp [*]; done)), H', ⟨by have := HJ1.out; have := HK2.out; have := HK3.out; have := HK4.out; have := HK5.out; have := HK6.out; have := HK7.out; first | omega | exact Nat.le_refl _⟩, ⟨by (with_reducible repeat (first | refine blk_drewN ?_ _ | refine blk_drew ?_ | refine blk_alloc ?_ _)); exact BK256.out⟩, ⟨by (with_reducible repeat (first | refine blk_drewN ?_ _ | refine blk_drew ?_ | refine blk_alloc ?_ _)); exact BK283.out⟩, ⟨by repeat (first | (with_reducible first | exact HB.out | apply below_alloc | apply pw_below_drewN | apply below_drew1 | refine below_set ?_ GE256.out | refine below_set ?_ GE283.out) | exact HB.out)⟩⟩
                          ·replace c97 := Bool.eq_false_iff.mpr c97
                           subst c97
                           have H1 : (spec_LoopOk.j9 k7 x10_5 x13_7 true l0_0 a0_1 l0_2 l0_3 ((rd_T74 l0_3 x10_5).f0) ((rd_T74 l0_3 x10_5).f1)) = some r := by rw [if_neg (show ¬ (false = true) by decide)] at H; exact H
                           clear H
                           have H := H1
                           clear H1
                           have H' := Aside0.mk H
                           clear H
                           have hnb108 := NB283_256.out
                           have hnc108 := NB256_283.out
                           have hcz109_0 : wr.cell? ⟨gb283, 0, none⟩ = some (.int .i64 ((rd_T74 l0_3 x10_5).f0)) := (blk_cell BK283.out 0).trans rfl
                           have hcz109_1 : wr.cell? ⟨gb283, 1, none⟩ = some (.slice A282_1 ((rd_T74 l0_3 x10_5).f1).length c282_1) := (blk_cell BK283.out 1).trans rfl
                           have hfz109_0 := blk_frozen BK283.out 0
                           have hfz109_1 := blk_frozen BK283.out 1
                           have p285 : 0 ≤ (x13_7 : Int) := of_decide_eq_true (by first | (with_reducible assumption) | assumption)
                           have q285 : x13_7 < (((rd_T74 l0_3 x10_5).f1).length : Int) := of_decide_eq_true (by first | (with_reducible assumption) | assumption)
                           obtain ⟨ad285, e285, hx285_0⟩ := Kd.at_int HR282_1.out x13_7 p285 q285
                           cases e285
                           replace hx285_0 := (HB.out.cell (World.block_lt_of_cell? w _ hx285_0)).trans hx285_0
                           replace p285 := eq_true p285
                           replace q285 := eq_true q285
                           have hcz110_0 : wr.cell? ⟨gb256, 0, none⟩ = some (.slice A0_0 l0_0.length c0_0) := (blk_cell BK256.out 0).trans rfl
                           have hcz110_1 : wr.cell? ⟨gb256, 1, none⟩ = some (.int .i64 a0_1) := (blk_cell BK256.out 1).trans rfl
                           have hcz110_2 : wr.cell? ⟨gb256, 2, none⟩ = some (.slice A0_2 l0_2.length c0_2) := (blk_cell BK256.out 2).trans rfl
                           have hcz110_3 : wr.cell? ⟨gb256, 3, none⟩ = some (.slice (some ad282) l0_3.length c0_3) := (blk_cell BK256.out 3).trans rfl
                           have hfz110_0 := blk_frozen BK256.out 0
                           have hfz110_1 := blk_frozen BK256.out 1
                           have hfz110_2 := blk_frozen BK256.out 2
                           have hfz110_3 := blk_frozen BK256.out 3
                           go_wp2_with (first | (go_at_call 62; (with_reducible refine (spec_l01In.calls (rd ((rd_T74 l0_3 x10_5).f1) x13_7) 0 (wrap64 ((l0_2.length : Int) - 1)) false _ A96.out).mono ?_); rintro e w' ⟨rfl, ⟨nd, rfl⟩⟩; (try first | exact ⟨rfl, _, World.drewN_drewN _ _ _⟩ | exact ⟨rfl, _, Eq.trans (World.drewN_drewN _ _ _) (congrArg (World.drewN _) (Nat.add_assoc _ _ _))⟩)))
                           repeat (go_quiet (first | (go_at_call 62; (with_reducible refine (spec_l01In.calls (rd ((rd_T74 l0_3 x10_5).f1) x13_7) 0 (wrap64 ((l0_2.length : Int) - 1)) false _ A96.out).mono ?_); rintro e w' ⟨rfl, ⟨nd, rfl⟩⟩; (try first | exact ⟨rfl, _, World.drewN_drewN _ _ _⟩ | exact ⟨rfl, _, Eq.trans (World.drewN_drewN _ _ _) (congrArg (World.drewN _) (Nat.add_assoc _ _ _))⟩))); try go_wp2_with (first | (go_at_call 62; (with_reducible refine (spec_l01In.calls (rd ((rd_T74 l0_3 x10_5).f1) x13_7) 0 (wrap64 ((l0_2.length : Int) - 1)) false _ A96.out).mono ?_); rintro e w' ⟨rfl, ⟨nd, rfl⟩⟩; (try first | exact ⟨rfl, _, World.drewN_drewN _ _ _⟩ | exact ⟨rfl, _, Eq.trans (World.drewN_drewN _ _ _) (congrArg (World.drewN _) (Nat.add_assoc _ _ _))⟩))))
                           go_meet
                           case rel => exact ⟨_, (true), (by first | rfl | (simp; done) | (simp [*]; done)), H', ⟨by have := HJ1.out; have := HK2.out; have := HK3.out; have := HK4.out; have := HK5.out; have := HK6.out; have := HK7.out; first | omega | exact Nat.le_refl _⟩, ⟨by (with_reducible repeat (first | refine blk_drewN ?_ _ | refine blk_drew ?_ | refine blk_alloc ?_ _)); exact BK256.out⟩, ⟨by (with_reducible repeat (first | refine blk_drewN ?_ _ | refine blk_drew ?_ | refine blk_alloc ?_ _)); exact BK283.out⟩, ⟨by repeat (first | (with_reducible first | exact HB.out | apply below_alloc | apply pw_below_drewN | apply below_drew1 | refine below_set ?_ GE256.out | refine below_set ?_ GE283.out) | exact HB.out)⟩⟩
                         ·rw [if_neg c95] at H
                          exact absurd H (by simp)
                        case rest =>
                         clear HC92
                         try clear c1
                         try clear c2
                         try clear p2
                         try clear q2
                         try clear hx2
                         try clear c3
                         try clear c4
                         try clear c5
                         try clear c6
                         try clear p6
                         try clear q6
                         try clear c7
                         try clear c8
                         try clear c9
                         try clear c9b0
                         try clear c9b1
                         try clear c10
                         try clear c13
                         try clear c16
                         try clear c16b0
                         try clear c17
                         try clear c17b0
                         try clear c18
                         try clear c18b0
                         try clear c19
                         try clear c19b0
                         try clear c19b1
                         try clear c21
                         try clear c23
                         try clear c24
                         try clear c24b0
                         try clear c25
                         try clear c25b0
                         try clear c26
                         try clear p26
                         try clear q26
                         try clear hx26
                         try clear c27
                         try clear p27
                         try clear q27
                         try clear hx27
                         try clear c28
                         try clear p28
                         try clear q28
                         try clear hx28
                         try clear c29
                         try clear c32
                         try clear c34
                         try clear c35
                         try clear c37
                         try clear c39
                         try clear c41
                         try clear c42
                         try clear c42b0
                         try clear c43
                         try clear c43b0
                         try clear c44
                         try clear c44b0
                         try clear c45
                         try clear c45b0
                         try clear c45b1
                         try clear c46
                         try clear c49
                         try clear c52
                         try clear c53
                         try clear c57
                         try clear c57b0
                         try clear c58
                         try clear c58b0
                         try clear c59
                         try clear c59b0
                         try clear c61
                         try clear c61b0
                         try clear c62
                         try clear c62b0
                         try clear c62b1
                         try clear c64
                         try clear p64
                         try clear q66
                         try clear q68
                         try clear c70
                         try clear c70b0
                         try clear c71
                         try clear c71b0
                         try clear c72
                         try clear c72b0
                         try clear c75
                         try clear c79
                         try clear c81
                         try clear c81b0
                         try clear c82
                         try clear c82b0
                         try clear c83
                         try clear c83b0
                         try clear c84
                         try clear c84b0
                         try clear c84b1
                         try clear c85
                         try clear c88
                         try clear c91
                         try clear c91b0
                         try clear c93
                         try clear c95
                         try clear c95b0
                         try clear c97
                         try clear c98
                         try clear c98b0
                         try clear c100
                         try clear c100b0
                         try clear c101
                         try clear c101b0
                         try clear c102
                         try clear c105
                         try clear c108
                         try clear hcz103_0
                         try clear hcz103_1
                         try clear hcz104_0
                         try clear hcz104_1
                         try clear hcz104_2
                         try clear hcz104_3
                         try clear hcz106_0
                         try clear hcz106_1
                         try clear hcz107_0
                         try clear hcz107_1
                         try clear hcz107_2
                         try clear hcz107_3
                         try clear hcz109_0
                         try clear hcz109_1
                         try clear hcz10_0
                         try clear hcz10_1
                         try clear hcz10_2
                         try clear hcz10_3
                         try clear hcz110_0
                         try clear hcz110_1
                         try clear hcz110_2
                         try clear hcz110_3
                         try clear hcz11_0
                         try clear hcz11_1
                         try clear hcz11_2
                         try clear hcz11_3
                         try clear hcz12_0
                         try clear hcz12_1
                         try clear hcz12_2
                         try clear hcz12_3
                         try clear hcz20_0
                         try clear hcz20_1
                         try clear hcz20_2
                         try clear hcz20_3
                         try clear hcz22_0
                         try clear hcz22_1
                         try clear hcz22_2
                         try clear hcz22_3
                         try clear hcz27_0
                         try clear hcz27_1
                         try clear hcz27_2
                         try clear hcz27_3
                         try clear hcz30_0
                         try clear hcz30_1
                         try clear hcz30_2
                         try clear hcz36_0
                         try clear hcz36_1
                         try clear hcz36_2
                         try clear hcz38_0
                         try clear hcz38_1
                         try clear hcz38_2
                         try clear hcz40_0
                         try clear hcz40_1
                         try clear hcz40_2
                         try clear hcz47_0
                         try clear hcz47_1
                         try clear hcz47_2
                         try clear hcz47_3
                         try clear hcz48_0
                         try clear hcz48_1
                         try clear hcz48_2
                         try clear hcz4_0
                         try clear hcz4_1
                         try clear hcz4_2
                         try clear hcz4_3
                         try clear hcz50_0
                         try clear hcz50_1
                         try clear hcz50_2
                         try clear hcz50_3
                         try clear hcz51_0
                         try clear hcz51_1
                         try clear hcz51_2
                         try clear hcz54_0
                         try clear hcz54_1
                         try clear hcz54_2
                         try clear hcz56_0
                         try clear hcz56_1
                         try clear hcz56_2
                         try clear hcz56_3
                         try clear hcz73_0
                         try clear hcz73_1
                         try clear hcz73_2
                         try clear hcz73_3
                         try clear hcz76_0
                         try clear hcz76_1
                         try clear hcz77_0
                         try clear hcz77_1
                         try clear hcz77_2
                         try clear hcz77_3
                         try clear hcz80_0
                         try clear hcz80_1
                         try clear hcz86_0
                         try clear hcz86_1
                         try clear hcz86_2
                         try clear hcz86_3
                         try clear hcz87_0
                         try clear hcz87_1
                         try clear hcz89_0
                         try clear hcz89_1
                         try clear hcz89_2
                         try clear hcz89_3
                         try clear hcz90_0
                         try clear hcz90_1
                         try clear hcz94_0
                         try clear hcz94_1
                         try clear hfz103_0
                         try clear hfz103_1
                         try clear hfz104_0
                         try clear hfz104_1
                         try clear hfz104_2
                         try clear hfz104_3
                         try clear hfz106_0
                         try clear hfz106_1
                         try clear hfz107_0
                         try clear hfz107_1
                         try clear hfz107_2
                         try clear hfz107_3
                         try clear hfz109_0
                         try clear hfz109_1
                         try clear hfz10_0
                         try clear hfz10_1
                         try clear hfz10_2
                         try clear hfz10_3
                         try clear hfz110_0
                         try clear hfz110_1
                         try clear hfz110_2
                         try clear hfz110_3
                         try clear hfz11_0
                         try clear hfz11_1
                         try clear hfz11_2
                         try clear hfz11_3
                         try clear hfz12_0
                         try clear hfz12_1
                         try clear hfz12_2
                         try clear hfz12_3
                         try clear hfz20_0
                         try clear hfz20_1
                         try clear hfz20_2
                         try clear hfz20_3
                         try clear hfz22_0
                         try clear hfz22_1
                         try clear hfz22_2
                         try clear hfz22_3
                         try clear hfz27_0
                         try clear hfz27_1
                         try clear hfz27_2
                         try clear hfz27_3
                         try clear hfz30_0
                         try clear hfz30_1
                         try clear hfz30_2
                         try clear hfz36_0
                         try clear hfz36_1
                         try clear hfz36_2
                         try clear hfz38_0
                         try clear hfz38_1
                         try clear hfz38_2
                         try clear hfz40_0
                         try clear hfz40_1
                         try clear hfz40_2
                         try clear hfz47_0
                         try clear hfz47_1
                         try clear hfz47_2
                         try clear hfz47_3
                         try clear hfz48_0
                         try clear hfz48_1
                         try clear hfz48_2
                         try clear hfz4_0
                         try clear hfz4_1
                         try clear hfz4_2
                         try clear hfz4_3
                         try clear hfz50_0
                         try clear hfz50_1
                         try clear hfz50_2
                         try clear hfz50_3
                         try clear hfz51_0
                         try clear hfz51_1
                         try clear hfz51_2
                         try clear hfz54_0
                         try clear hfz54_1
                         try clear hfz54_2
                         try clear hfz56_0
                         try clear hfz56_1
                         try clear hfz56_2
                         try clear hfz56_3
                         try clear hfz73_0
                         try clear hfz73_1
                         try clear hfz73_2
                         try clear hfz73_3
                         try clear hfz76_0
                         try clear hfz76_1
                         try clear hfz77_0
                         try clear hfz77_1
                         try clear hfz77_2
                         try clear hfz77_3
                         try clear hfz80_0
                         try clear hfz80_1
                         try clear hfz86_0
                         try clear hfz86_1
                         try clear hfz86_2
                         try clear hfz86_3
                         try clear hfz87_0
                         try clear hfz87_1
                         try clear hfz89_0
                         try clear hfz89_1
                         try clear hfz89_2
                         try clear hfz89_3
                         try clear hfz90_0
                         try clear hfz90_1
                         try clear hfz94_0
                         try clear hfz94_1
                         try clear hx262_0
                         try clear hx263_0
                         try clear hx267_0
                         try clear hx267_1
                         try clear hx267_2
                         try clear hx274_0
                         try clear hx274_1
                         try clear hx274_2
                         try clear hx275_0
                         try clear hx280_0
                         try clear hx282_0
                         try clear hx282_1
                         try clear hx284_0
                         try clear hx284_1
                         try clear hx285_0
                         try clear hx287_0
                         try clear hx288_0
                         try clear p2
                         try clear p26
                         try clear p262
                         try clear p263
                         try clear p267
                         try clear p27
                         try clear p274
                         try clear p275
                         try clear p28
                         try clear p280
                         try clear p282
                         try clear p284
                         try clear p285
                         try clear p287
                         try clear p288
                         try clear p6
                         try clear p64
                         try clear q2
                         try clear q26
                         try clear q262
                         try clear q263
                         try clear q267
                         try clear q27
                         try clear q274
                         try clear q275
                         try clear q28
                         try clear q280
                         try clear q282
                         try clear q284
                         try clear q285
                         try clear q287
                         try clear q288
                         try clear q6
                         try clear q66
                         try clear q68
                         obtain ⟨kq, x195_91, rfl, HA, HJ91, BK256, BK283, HB⟩ := hcut
                         cases kq with
                         | zero => exact absurd HA.out (by simp [spec_LoopOk.j9])
                         | succ kj91 =>
                          have H := HA.out
                          clear HA
                          simp only [spec_LoopOk.j9] at H
                          by_cases c111 : x195_91 = true
                          ·subst c111
                           have H1 : (some false) = some r := by rw [if_pos rfl] at H; exact H
                           clear H
                           have H := H1
                           clear H1
                           obtain rfl := Option.some.inj H
                           go_wp2
                           repeat (go_quiet (fail); try go_wp2)
                           go_ret
                           exact ⟨by first | rfl | (simp [errW_none, errW_some] <;> rfl) | (simp [*, errW_none, errW_some] <;> rfl), by repeat (first | (with_reducible first | exact HB.out | apply below_alloc | apply pw_below_drewN | apply below_drew1 | refine below_set ?_ GE256.out | refine below_set ?_ GE283.out) | exact HB.out)⟩
                          ·replace c111 := Bool.eq_false_iff.mpr c111
                           subst c111
                           have H1 : (spec_LoopOk.l6 kj91 x10_5 (wrap64 (x13_7 + 1)) l0_0 a0_1 l0_2 l0_3 ((rd_T74 l0_3 x10_5).f0) ((rd_T74 l0_3 x10_5).f1)) = some r := by rw [if_neg (show ¬ (false = true) by decide)] at H; exact H
                           clear H
                           have H := H1
                           clear H1
                           have H' := Aside0.mk H
                           clear H
                           go_wp2
                           repeat (go_quiet (fail); try go_wp2)
                           go_roundg kj91
                           case measure => have := HJ1.out; have := HK2.out; have := HK3.out; have := HK4.out; have := HK5.out; have := HK6.out; have := HK7.out; have := HJ91.out; omega
                           case rel => exact ⟨(wrap64 (x13_7 + 1)), (by first | rfl | (simp; done) | (simp [*]; done)), H', ⟨by have := HJ1.out; have := HK2.out; have := HK3.out; have := HK4.out; have := HK5.out; have := HK6.out; have := HK7.out; have := HJ91.out; omega⟩, ⟨by (with_reducible repeat (first | refine blk_drewN ?_ _ | refine blk_drew ?_ | refine blk_alloc ?_ _)); exact BK256.out⟩, ⟨by (with_reducible repeat (first | refine blk_drewN ?_ _ | refine blk_drew ?_ | refine blk_alloc ?_ _)); exact BK283.out⟩, ⟨by repeat (first | (with_reducible first | exact HB.out | apply below_alloc | apply pw_below_drewN | apply below_drew1 | refine below_set ?_ GE256.out | refine below_set ?_ GE283.out) | exact HB.out)⟩⟩
                       ·rw [if_neg c91] at H
                        have c91b0 : decide (x13_7 < (((rd_T74 l0_3 x10_5).f1).length : Int)) = false := decide_eq_false c91
                        clear c91
                        have H' := Aside0.mk H
                        clear H
                        have hnb112 := NB283_256.out
                        have hnc112 := NB256_283.out
                        have hcz113_0 : wr.cell? ⟨gb283, 0, none⟩ = some (.int .i64 ((rd_T74 l0_3 x10_5).f0)) := (blk_cell BK283.out 0).trans rfl
                        have hcz113_1 : wr.cell? ⟨gb283, 1, none⟩ = some (.slice A282_1 ((rd_T74 l0_3 x10_5).f1).length c282_1) := (blk_cell BK283.out 1).trans rfl
                        have hfz113_0 := blk_frozen BK283.out 0
                        have hfz113_1 := blk_frozen BK283.out 1
                        go_wp2
                        repeat (go_quiet (fail); try go_wp2)
                        go_roundg k7
                        case measure => have := HJ1.out; have := HK2.out; have := HK3.out; have := HK4.out; have := HK5.out; have := HK6.out; have := HK7.out; omega
                        case rel => exact ⟨(wrap64 (x10_5 + 1)), (by first | rfl | (simp; done) | (simp [*]; done)), H', ⟨by have := HJ1.out; have := HK2.out; have := HK3.out; have := HK4.out; have := HK5.out; have := HK6.out; have := HK7.out; omega⟩, ⟨by (with_reducible repeat (first | refine blk_drewN ?_ _ | refine blk_drew ?_ | refine blk_alloc ?_ _)); exact BK256.out⟩, ⟨by repeat (first | (with_reducible first | exact HB.out | apply below_alloc | apply pw_below_drewN | apply below_drew1 | refine below_set ?_ GE256.out | refine below_set ?_ GE283.out) | exact HB.out)⟩⟩
                ·rw [if_neg c71] at H
                 exact absurd H (by simp)
               ·rw [if_neg c70] at H
                have c70b0 : decide (x10_5 < (l0_3.length : Int)) = false := decide_eq_false c70
                clear c70
                obtain rfl := Option.some.inj H
                have hcz114_0 : wr.cell? ⟨gb256, 0, none⟩ = some (.slice A0_0 l0_0.length c0_0) := (blk_cell BK256.out 0).trans rfl
                have hcz114_1 : wr.cell? ⟨gb256, 1, none⟩ = some (.int .i64 a0_1) := (blk_cell BK256.out 1).trans rfl
                have hcz114_2 : wr.cell? ⟨gb256, 2, none⟩ = some (.slice A0_2 l0_2.length c0_2) := (blk_cell BK256.out 2).trans rfl
                have hcz114_3 : wr.cell? ⟨gb256, 3, none⟩ = some (.slice A0_3 l0_3.length c0_3) := (blk_cell BK256.out 3).trans rfl
                have hfz114_0 := blk_frozen BK256.out 0
                have hfz114_1 := blk_frozen BK256.out 1
                have hfz114_2 := blk_frozen BK256.out 2
                have hfz114_3 := blk_frozen BK256.out 3
                go_wp2
                repeat (go_quiet (fail); try go_wp2)
                go_ret
                exact ⟨by first | rfl | (simp [errW_none, errW_some] <;> rfl) | (simp [*, errW_none, errW_some] <;> rfl), by repeat (first | (with_reducible first | exact HB.out | apply below_alloc | apply pw_below_drewN | apply below_drew1 | refine below_set ?_ GE256.out) | exact HB.out)⟩

end Go.Proofs.Ytmjhbdmicejppaa.Px
