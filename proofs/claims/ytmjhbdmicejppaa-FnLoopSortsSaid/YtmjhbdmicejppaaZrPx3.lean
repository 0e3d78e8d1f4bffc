import Derived.Test.YtmjhbdmicejppaaZrPx0
namespace Go.Proofs.Ytmjhbdmicejppaa.Px
open Go.RowKit Go.Proofs.YtmjhbdmicejppaaW.PrintWords Go.Proofs.YtmjhbdmicejppaaW.PrintLast Go.Proofs.YtmjhbdmicejppaaW.PrintMore
attribute [local go_sem] max2_int min2_int max_two min_two max_three min_three max_four min_four   
set_option linter.unusedVariables false
set_option linter.unusedSimpArgs false
def impl_trayAt.f (l0_0 : List Int) (a0_1 : Int) (l0_2 : List (S69)) (l0_3 : List (S74)) (a1 : Int) : Option (Int) := if (l0_0.length : Int) = 0 then (none) else (some (Int.tmod (wrap64 ((wrap64 (a1 - a0_1)) + (l0_0.length : Int))) (l0_0.length : Int)))
set_option maxHeartbeats 8000000 in
set_option maxRecDepth 100000 in
theorem impl_trayAt.calls (af : Option Addr) (ag : Nat) (aa : List Int) (a0_1 : Int) (ah : Option Addr) (ai : Nat) (ad : List (S69)) (aj : Option Addr) (ak : Nat) (ae : List (S74)) (a1 : Int) (r : Int) (w : World) (al : Kd.C (Kd.int .i64) w af aa.length aa) (hc0_0 : aa.length ≤ ag) (am : Kd.C k69 w ah ad.length ad) (hc0_2 : ad.length ≤ ai) (an : Kd.C k74 w aj ae.length ae) (hc0_3 : ae.length ≤ ak) (h : impl_trayAt.f aa a0_1 ad ae a1 = some r) :
  Calls Try.prog 78 #[.agg #[.slice af aa.length ag, .int .i64 a0_1, .slice ah ad.length ai, .slice aj ae.length ak], .int .i64 a1] w fun e w' => e = .returned (.int .i64 r) ∧ Below w.heap.size w w' := by
 have hu28 := Try.underlying28; have HR0_0 := zK al; have HC0_0 := zK hc0_0; clear al hc0_0; have HR0_2 := zK am; have HC0_2 := zK hc0_2; clear am hc0_2; have HR0_3 := zK an; have HC0_3 := zK hc0_3; clear an hc0_3
 have HB := zK (Below.refl w.heap.size w)
 have H : (if (aa.length : Int) = 0 then (none) else (some (Int.tmod (wrap64 ((wrap64 (a1 - a0_1)) + (aa.length : Int))) (aa.length : Int)))) = some r := h
 clear h
 by_cases c3 : (aa.length : Int) = 0
 ·rw [if_pos c3] at H
  exact absurd H (by simp)
 ·rw [if_neg c3] at H
  have c3b0 : ((aa.length : Int) == 0) = false := beq_eq_false_iff_ne.mpr c3
  have c3b1 : ((aa.length : Int) != 0) = true := bne_iff_ne.mpr c3
  have c3b2 : ¬ (aa = []) := fun h_ => c3 (by rw [h_]; rfl)
  obtain rfl := Option.some.inj H
  go_enter Try.func78, Try.ntmps78
  go_wp2_with (first | ((with_reducible refine gate_dst (N := 2) rfl ?_); refine zX 2 #[.slice af aa.length ag, .int .i64 a0_1, .slice ah ad.length ai, .slice aj ae.length ak] 28 ?_; intro ac hg w4 hbox hb; have n0_ := zK (below_step (zb HB) hb); have n1_ := zK (hbox); have n2_ := zK ((by rw [hg]; exact (below_size (zb HB)) : w.heap.size ≤ ac)); have n3_ := zK ((by rw [hg]; exact (below_size (zb HB)) : w.heap.size ≤ ac)); clear HB; have HB := n0_; have ab := n1_; have GW249 := n2_; have ao := n3_; clear n0_ n1_ n2_ n3_; clear hb hbox hg; have hcz5_0 : w4.cell? ⟨ac, 0, none⟩ = some (.slice af aa.length ag) := (blk_cell ab.out 0).trans rfl; have hcz5_1 : w4.cell? ⟨ac, 1, none⟩ = some (.int .i64 a0_1) := (blk_cell ab.out 1).trans rfl; have hcz5_2 : w4.cell? ⟨ac, 2, none⟩ = some (.slice ah ad.length ai) := (blk_cell ab.out 2).trans rfl; have hcz5_3 : w4.cell? ⟨ac, 3, none⟩ = some (.slice aj ae.length ak) := (blk_cell ab.out 3).trans rfl; have hfz5_0 := blk_frozen ab.out 0; have hfz5_1 := blk_frozen ab.out 1; have hfz5_2 := blk_frozen ab.out 2; have hfz5_3 := blk_frozen ab.out 3))
  go_ret
  exact ⟨ze, zb HB⟩
def spec_l05Tray.f (l0_0 : List Int) (a0_1 : Int) (l0_2 : List (S69)) (l0_3 : List (S74)) (a1 : Int) : Option (Int) := if (l0_0.length : Int) = 0 then (none) else (some (Int.tmod (wrap64 ((wrap64 (a1 - a0_1)) + (l0_0.length : Int))) (l0_0.length : Int)))
set_option maxHeartbeats 8000000 in
set_option maxRecDepth 100000 in
theorem spec_l05Tray.calls (af : Option Addr) (ag : Nat) (aa : List Int) (a0_1 : Int) (ah : Option Addr) (ai : Nat) (ad : List (S69)) (aj : Option Addr) (ak : Nat) (ae : List (S74)) (a1 : Int) (r : Int) (w : World) (al : Kd.C (Kd.int .i64) w af aa.length aa) (hc0_0 : aa.length ≤ ag) (am : Kd.C k69 w ah ad.length ad) (hc0_2 : ad.length ≤ ai) (an : Kd.C k74 w aj ae.length ae) (hc0_3 : ae.length ≤ ak) (h : spec_l05Tray.f aa a0_1 ad ae a1 = some r) :
  Calls Try.prog 77 #[.agg #[.slice af aa.length ag, .int .i64 a0_1, .slice ah ad.length ai, .slice aj ae.length ak], .int .i64 a1] w fun e w' => e = .returned (.int .i64 r) ∧ Below w.heap.size w w' := by
 have hu28 := Try.underlying28; have HR0_0 := zK al; have HC0_0 := zK hc0_0; clear al hc0_0; have HR0_2 := zK am; have HC0_2 := zK hc0_2; clear am hc0_2; have HR0_3 := zK an; have HC0_3 := zK hc0_3; clear an hc0_3
 have HB := zK (Below.refl w.heap.size w)
 have H : (if (aa.length : Int) = 0 then (none) else (some (Int.tmod (wrap64 ((wrap64 (a1 - a0_1)) + (aa.length : Int))) (aa.length : Int)))) = some r := h
 clear h
 by_cases c3 : (aa.length : Int) = 0
 ·rw [if_pos c3] at H
  exact absurd H (by simp)
 ·rw [if_neg c3] at H
  have c3b0 : ((aa.length : Int) == 0) = false := beq_eq_false_iff_ne.mpr c3
  have c3b1 : ((aa.length : Int) != 0) = true := bne_iff_ne.mpr c3
  have c3b2 : ¬ (aa = []) := fun h_ => c3 (by rw [h_]; rfl)
  obtain rfl := Option.some.inj H
  go_enter Try.func77, Try.ntmps77
  go_wp2_with (first | ((with_reducible refine gate_dst (N := 2) rfl ?_); refine zX 2 #[.slice af aa.length ag, .int .i64 a0_1, .slice ah ad.length ai, .slice aj ae.length ak] 28 ?_; intro ac hg w4 hbox hb; have n0_ := zK (below_step (zb HB) hb); have n1_ := zK (hbox); have n2_ := zK ((by rw [hg]; exact (below_size (zb HB)) : w.heap.size ≤ ac)); have n3_ := zK ((by rw [hg]; exact (below_size (zb HB)) : w.heap.size ≤ ac)); clear HB; have HB := n0_; have ab := n1_; have GW325 := n2_; have ao := n3_; clear n0_ n1_ n2_ n3_; clear hb hbox hg; have hcz5_0 : w4.cell? ⟨ac, 0, none⟩ = some (.slice af aa.length ag) := (blk_cell ab.out 0).trans rfl; have hcz5_1 : w4.cell? ⟨ac, 1, none⟩ = some (.int .i64 a0_1) := (blk_cell ab.out 1).trans rfl; have hcz5_2 : w4.cell? ⟨ac, 2, none⟩ = some (.slice ah ad.length ai) := (blk_cell ab.out 2).trans rfl; have hcz5_3 : w4.cell? ⟨ac, 3, none⟩ = some (.slice aj ae.length ak) := (blk_cell ab.out 3).trans rfl; have hfz5_0 := blk_frozen ab.out 0; have hfz5_1 := blk_frozen ab.out 1; have hfz5_2 := blk_frozen ab.out 2; have hfz5_3 := blk_frozen ab.out 3))
  go_ret
  exact ⟨ze, zb HB⟩
end Go.Proofs.Ytmjhbdmicejppaa.Px
