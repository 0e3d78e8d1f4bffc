import Derived.Test.YtheckjlldkkceaaZsPx0
import Derived.Test.YtheckjlldkkceaaZsPx3
import Derived.Test.YtheckjlldkkceaaZsPx5
import Derived.Test.YtheckjlldkkceaaZsPx8
import Derived.Test.YtheckjlldkkceaaZsPx11
import Derived.Test.YtheckjlldkkceaaZsPx13
import Derived.Test.YtheckjlldkkceaaZsPx14
import Derived.Test.YtheckjlldkkceaaZsPx15
import Derived.Test.YtheckjlldkkceaaZsPx16
import Derived.Test.YtheckjlldkkceaaZsPx17
import Derived.Test.YtheckjlldkkceaaZsPx24
namespace Go.Proofs.Ytheckjlldkkceaa.Px
open Go.RowKit Go.Proofs.YtheckjlldkkceaaW.PrintWords Go.Proofs.YtheckjlldkkceaaW.PrintLast Go.Proofs.YtheckjlldkkceaaW.PrintMore
attribute [local go_sem] max2_int min2_int max_two min_two max_three min_three max_four min_four   
set_option linter.unusedVariables false
set_option linter.unusedSimpArgs false
mutual
def laws_FnStoreTakes.l0 : Nat → Int → Int → List (List (S30)) → Option (Bool)
 | 0, _, _, _ => none
 | k + 1, x3, x838000, x838001 => if x3 < (x838001.length : Int) then (laws_FnStoreTakes.l1 k x3 0 x838000 x838001) else ((impl_HopsOf.f k x838000 x838001).bind fun bt873 => ((spec_HopsOf.f k x838000 x838001).bind fun bt875 => (if (bt873.2 == bt875.2) = true then (if bt873.1 = bt875.1 then ((impl_Buried.f k x838000 x838001).bind fun t877 => ((spec_Buried.f k x838000 x838001).bind fun t878 => (if t877 = t878 then ((impl_NextOut.f k x838000 x838001).bind fun t879 => ((spec_NextOut.f k x838000 x838001).bind fun t880 => (if t879 = t880 then (if bt875.2 = true then ((impl_Buried.f k x838000 x838001).bind fun t881 => (some (decide (bt873.1 ≥ t881)))) else (some true)) else (some false)))) else (some false)))) else (some false)) else (some false))))
def laws_FnStoreTakes.l1 : Nat → Int → Int → Int → List (List (S30)) → Option (Bool)
 | 0, _, _, _, _ => none
 | k + 1, x3, x4, x838000, x838001 => if 0 ≤ x3 then (if x3 < (x838001.length : Int) then (if x4 < ((rd_L2 x838001 x3).length : Int) then (if 0 ≤ x4 then ((impl_TakeBag.f k x838000 x838001 ((rd_T30 (rd_L2 x838001 x3) x4).f0)).bind fun bt842 => ((spec_TakeBag.f k x838000 x838001 ((rd_T30 (rd_L2 x838001 x3) x4).f0)).bind fun bt851 => (if (bt842.2.2.2 != bt851.2.2.2) = true then (laws_FnStoreTakes.j2 k x3 x4 ((rd_T30 (rd_L2 x838001 x3) x4).f0) bt842.2.2.1 bt842.2.2.2 true x838000 x838001 bt842.1 bt842.2.1) else ((laws_sameStore.f k bt842.1 bt842.2.1 bt851.1 bt851.2.1).bind fun t860 => (if t860 = true then ((laws_sameHops.f k bt842.2.2.1 bt851.2.2.1).bind fun t861 => (if t861 = true then ((impl_StoreOk.f k bt842.1 bt842.2.1).bind fun t862 => (laws_FnStoreTakes.j2 k x3 x4 ((rd_T30 (rd_L2 x838001 x3) x4).f0) bt842.2.2.1 bt842.2.2.2 (!t862) x838000 x838001 bt842.1 bt842.2.1)) else (laws_FnStoreTakes.j2 k x3 x4 ((rd_T30 (rd_L2 x838001 x3) x4).f0) bt842.2.2.1 bt842.2.2.2 true x838000 x838001 bt842.1 bt842.2.1))) else (laws_FnStoreTakes.j2 k x3 x4 ((rd_T30 (rd_L2 x838001 x3) x4).f0) bt842.2.2.1 bt842.2.2.2 true x838000 x838001 bt842.1 bt842.2.1)))))) else (none)) else (laws_FnStoreTakes.l0 k (wrap64 (x3 + 1)) x838000 x838001)) else (none)) else (none)
def laws_FnStoreTakes.j2 : Nat → Int → Int → Int → List (S78) → Bool → Bool → Int → List (List (S30)) → Int → List (List (S30)) → Option (Bool)
 | 0, _, _, _, _, _, _, _, _, _, _ => none
 | k + 1, x3, x4, x5, x7, x8, x80, x838000, x838001, x851000, x851001 => if x80 = true then (some false) else (if x8 = true then (if 0 ≤ x3 then (if x3 < (x838001.length : Int) then (if (x7.length : Int) = (wrap64 ((wrap64 (((rd_L2 x838001 x3).length : Int) - 1)) - x4)) then ((laws_kept.f k x851000 x851001).bind fun t865 => ((laws_kept.f k x838000 x838001).bind fun t866 => (laws_FnStoreTakes.j3 k x3 x4 x5 (t865 != (wrap64 (t866 - 1))) x838000 x838001 x851000 x851001))) else (laws_FnStoreTakes.j3 k x3 x4 x5 true x838000 x838001 x851000 x851001)) else (none)) else (none)) else ((laws_sameStore.f k x851000 x851001 x838000 x838001).bind fun t863 => (if t863 = true then (laws_FnStoreTakes.l1 k x3 (wrap64 (x4 + 1)) x838000 x838001) else (some false))))
def laws_FnStoreTakes.j3 : Nat → Int → Int → Int → Bool → Int → List (List (S30)) → Int → List (List (S30)) → Option (Bool)
 | 0, _, _, _, _, _, _, _, _ => none
 | k + 1, x3, x4, x5, x106, x838000, x838001, x851000, x851001 => if x106 = true then (some false) else (laws_FnStoreTakes.l2 k x3 x4 x5 0 x838000 x838001 x851000 x851001)
def laws_FnStoreTakes.l2 : Nat → Int → Int → Int → Int → Int → List (List (S30)) → Int → List (List (S30)) → Option (Bool)
 | 0, _, _, _, _, _, _, _, _ => none
 | k + 1, x3, x4, x5, x12, x838000, x838001, x851000, x851001 => if x12 < (x838001.length : Int) then (laws_FnStoreTakes.l3 k x3 x4 x5 x12 0 x838000 x838001 x851000 x851001) else (laws_FnStoreTakes.l1 k x3 (wrap64 (x4 + 1)) x838000 x838001)
def laws_FnStoreTakes.l3 : Nat → Int → Int → Int → Int → Int → Int → List (List (S30)) → Int → List (List (S30)) → Option (Bool)
 | 0, _, _, _, _, _, _, _, _, _ => none
 | k + 1, x3, x4, x5, x12, x13, x838000, x838001, x851000, x851001 => if 0 ≤ x12 then (if x12 < (x838001.length : Int) then (if x13 < ((rd_L2 x838001 x12).length : Int) then (if 0 ≤ x13 then ((laws_inStore.f k x851000 x851001 ((rd_T30 (rd_L2 x838001 x12) x13).f0) ((rd_T30 (rd_L2 x838001 x12) x13).f1)).bind fun t870 => (if (t870 == (((rd_T30 (rd_L2 x838001 x12) x13).f0) == x5)) = true then (some false) else (laws_FnStoreTakes.l3 k x3 x4 x5 x12 (wrap64 (x13 + 1)) x838000 x838001 x851000 x851001))) else (none)) else (laws_FnStoreTakes.l2 k x3 x4 x5 (wrap64 (x12 + 1)) x838000 x838001 x851000 x851001)) else (none)) else (none)
end
def laws_FnStoreTakes.f (k : Nat) (a0_0 : Int) (l0_1 : List (List (S30))) : Option (Bool) := (spec_StoreOk.f k a0_0 l0_1).bind fun t838 => (if t838 = true then (laws_FnStoreTakes.l0 k 0 a0_0 l0_1) else (some true))
def laws_FnStoreTakes.T17 : Bool × List (List Nat × List Nat) := (true, [([], []), ([0], [0]), ([], []), ([2], [2]), ([], []), ([3, 4], [3, 4]), ([5], [5]), ([6], [6]), ([7], [7]), ([], []), ([8, 9], [8, 9]), ([1, 10], [1, 10]), ([11], [11]), ([12], [12]), ([13, 12, 12], [12, 13]), ([12], [12]), ([15, 14, 12], [12, 15]), ([16, 12], [12, 16]), ([14, 17, 12], [12, 14, 17]), ([12, 18], [12, 18])])
def laws_FnStoreTakes.B17 : List Nat := [0, 1, 0, 4, 0, 28, 60, 124, 252, 0, 1020, 2047, 4095, 8191, 16383, 8191, 65535, 131071, 262143, 524287]
theorem laws_FnStoreTakes.tab17 : rtab .any (opsOf Try.f11 17) = laws_FnStoreTakes.T17 := by kernel_rfl
theorem laws_FnStoreTakes.bits17 : waitsOk laws_FnStoreTakes.T17.2 laws_FnStoreTakes.B17 = true := by kernel_rfl
def laws_FnStoreTakes.T25 : Bool × List (List Nat × List Nat) := (true, [([], []), ([], []), ([1], [1]), ([], []), ([2, 3], [2, 3]), ([4], [4]), ([], []), ([5, 6], [5, 6]), ([7], [7]), ([0, 8], [0, 8]), ([], []), ([10], [10]), ([], []), ([11, 12], [11, 12]), ([13], [13]), ([], []), ([14, 15], [14, 15]), ([16], [16]), ([17], [17]), ([], []), ([18, 19], [18, 19]), ([9, 20], [9, 20])])
def laws_FnStoreTakes.B25 : List Nat := [0, 0, 2, 0, 14, 30, 0, 126, 254, 511, 0, 1024, 0, 7168, 15360, 0, 64512, 130048, 261120, 0, 1047552, 2097151]
theorem laws_FnStoreTakes.tab25 : rtab .any (opsOf Try.f11 25) = laws_FnStoreTakes.T25 := by kernel_rfl
theorem laws_FnStoreTakes.bits25 : waitsOk laws_FnStoreTakes.T25.2 laws_FnStoreTakes.B25 = true := by kernel_rfl
def laws_FnStoreTakes.T29 : Bool × List (List Nat × List Nat) := (true, [([], []), ([], []), ([0, 1], [0, 1]), ([2], [2]), ([3], [3]), ([3], [3]), ([4, 5, 3], [3, 4, 5]), ([3, 6], [3, 6]), ([7, 3], [7]), ([8], [8]), ([9, 8, 8], [8, 9]), ([8], [8]), ([11, 10, 8], [8, 11]), ([10, 12, 8], [8, 10, 12]), ([8, 13], [8, 13]), ([14, 12], [14]), ([15], [15]), ([16, 15, 15], [15, 16]), ([15], [15]), ([18, 17, 15], [15, 18]), ([17, 19, 15], [15, 17, 19]), ([15, 20], [15, 20]), ([21, 19], [21]), ([22], [22]), ([23, 22], [22, 23]), ([24, 22, 22], [22, 24]), ([25], [25]), ([25], [25]), ([27, 25, 25], [25, 27]), ([26, 28, 25], [25, 26, 28]), ([25, 29, 22], [22, 25, 29]), ([22, 30], [22, 30]), ([31, 28, 0, 1, 2, 3, 4, 5, 6, 7, 8, 9, 10, 11, 12, 13, 14, 15, 16, 17, 18, 19, 20, 21, 22, 23, 24, 25, 26, 27, 28, 29, 30, 31], [31])])
def laws_FnStoreTakes.B29 : List Nat := [0, 0, 3, 7, 15, 15, 63, 127, 255, 511, 1023, 511, 4095, 8191, 16383, 32767, 65535, 131071, 65535, 524287, 1048575, 2097151, 4194303, 8388607, 16777215, 33554431, 67108863, 67108863, 201326591, 536870911, 1073741823, 2147483647, 4294967295]
theorem laws_FnStoreTakes.tab29 : rtab .any (opsOf Try.f11 29) = laws_FnStoreTakes.T29 := by kernel_rfl
theorem laws_FnStoreTakes.bits29 : waitsOk laws_FnStoreTakes.T29.2 laws_FnStoreTakes.B29 = true := by kernel_rfl
set_option maxHeartbeats 8000000 in
set_option maxRecDepth 100000 in
theorem laws_FnStoreTakes.calls (k : Nat) (a0_0 : Int) (au : Option Addr) (ak : Nat) (ab : List (List (S30))) (r : Bool) (w : World) (dm : Kd.C (Kd.slice 30 k30) w au ab.length ab) (hc0_1 : ab.length ≤ ak) (hrt : Aside0 (r = true)) (h : laws_FnStoreTakes.f k a0_0 ab = some r) :
  Calls Try.prog 11 #[.agg #[.int .i64 a0_0, .slice au ab.length ak]] w fun e w' => e = .returned (.bool r) ∧ Below w.heap.size w w' := by
 have hu24 := Try.underlying24; have hu30 := Try.underlying30; have ax := zK dm; have aJ := zK hc0_1; clear dm hc0_1
 have HB := zK (Below.refl w.heap.size w)
 have H : ((spec_StoreOk.f k a0_0 ab).bind fun da => (if da = true then (laws_FnStoreTakes.l0 k 0 a0_0 ab) else (some true))) = some r := h
 clear h; replace H := Option.bind_eq_some_iff.mp H
 obtain ⟨da, A20, H⟩ := H
 replace H : (if da = true then (laws_FnStoreTakes.l0 k 0 a0_0 ab) else (some true)) = some r := H
 have A2 := zK A20; clear A20
 by_cases c3 : da = true
 ·subst c3
  have H1 : (laws_FnStoreTakes.l0 k 0 a0_0 ab) = some r := by rw [if_pos rfl] at H; exact H
  clear H; have H := H1; clear H1; have H' := zK H; clear H
  go_enter Try.func11, Try.ntmps11
  go_wp2_with (first | ((with_reducible refine gate_dst (N := 1) rfl ?_); refine box_event ?hg (N := 1) ?hd (cs := #[.int .i64 a0_0, .slice au ab.length ak]) (t := 24) ?hr ?_; (case hd => rfl); (case hg => rfl); (case hr => first | (go_simp; done) | (go_simp; rfl)); intro ad hg w4 hbox hb; have av := zK (below_step (zb HB) hb); have aw := zK (hbox); have aR := zK ((by rw [hg]; exact (below_size (zb HB)) : w.heap.size ≤ ad)); have aS := zK ((by rw [hg]; exact (below_size (zb HB)) : w.heap.size ≤ ad)); clear HB; have HB := av; have aa := aw; have dX := aR; have aj := aS; clear av aw aR aS; clear hb hbox hg; have bn : w4.cell? ⟨ad, 0, none⟩ = some (.int .i64 a0_0) := (blk_cell aa.out 0).trans rfl; have bo : w4.cell? ⟨ad, 1, none⟩ = some (.slice au ab.length ak) := (blk_cell aa.out 1).trans rfl; have bp := blk_frozen aa.out 0; have bq := blk_frozen aa.out 1) | ((with_reducible refine gate_callee (f := 15) rfl ?_); refine goesL_ (some 19) rfl rfl Try.func15 (by kernel_rfl) rfl #[.agg #[.int .i64 a0_0, .slice au ab.length ak]] rfl (by (try simp only [List.map_toArray, List.map_cons, List.map_nil]); first | done | rfl | (simp only [List.length_drop, List.length_take]; rfl)) ?_; (with_reducible refine (spec_StoreOk.calls k a0_0 _ _ ab true _ ?side1 ?side2 A2.out).mono ?_); (case side1 => repeat (first | exact (Kd.C_below ax.out HB.out) | (with_reducible refine Kd.C_alloc ?_ _) | (with_reducible refine Kd.C_drewN ?_ _) | (with_reducible refine Kd.C_drew ?_))); (case side2 => exact aJ.out); rintro e w6 ⟨rfl, hb⟩; refine ⟨_, rfl, ?_⟩; have av := zK (blk_below (g := ad) (o := .cells #[.int .i64 a0_0, .slice au ab.length ak] 24 (0, 0)) (zk aa) hb); have aw := zK (below_step (zb HB) hb); clear aa; clear HB; have aa := av; have HB := aw; clear av aw; (try clear hb)))
  go_loopg [3] k (fun kq v3 w' => ∃ (ac : Int), v3 = .int .i64 ac ∧ Aside0 (laws_FnStoreTakes.l0 kq ac a0_0 ab = some r) ∧ Aside0 (kq ≤ k) ∧ Aside0 (w'.heap[ad]? = some (.cells #[.int .i64 a0_0, (.slice au ab.length ak)] 24 (0, 0))) ∧ Aside0 (Below w.heap.size w w'))
  case atStart => exact ⟨(0), (by first | rfl | (simp; done) | (simp [*]; done)), H', ⟨Nat.le_refl _⟩, ⟨zk aa⟩, ⟨zb HB⟩⟩
  case round =>
   clear H'
   try clear c1
   try clear p2
   try clear c3
   try clear bn
   try clear bo
   try clear bp
   try clear bq
   obtain ⟨ac, rfl, HA, cQ, aa, HB⟩ := hrel
   cases gk with
   | zero => exact absurd HA.out (by simp [laws_FnStoreTakes.l0])
   | succ k1 =>
    have H := HA.out; clear HA
    simp only [laws_FnStoreTakes.l0] at H
    by_cases c7 : ac < (ab.length : Int)
    ·rw [if_pos c7] at H
     have cK : decide (ac < (ab.length : Int)) = true := decide_eq_true c7
     clear c7; have H' := zK H; clear H
     have b6 : wr.cell? ⟨ad, 0, none⟩ = some (.int .i64 a0_0) := (blk_cell aa.out 0).trans rfl
     have b7 : wr.cell? ⟨ad, 1, none⟩ = some (.slice au ab.length ak) := (blk_cell aa.out 1).trans rfl
     have b8 := blk_frozen aa.out 0; have b9 := blk_frozen aa.out 1
     go_wp2
     go_loopg [4] k1 (fun kq v4 w' => ∃ (ah : Int), v4 = .int .i64 ah ∧ Aside0 (laws_FnStoreTakes.l1 kq ac ah a0_0 ab = some r) ∧ Aside0 (kq ≤ k1) ∧ Aside0 (w'.heap[ad]? = some (.cells #[.int .i64 a0_0, (.slice au ab.length ak)] 24 (0, 0))) ∧ Aside0 (Below w.heap.size w w'))
     case atStart => exact ⟨(0), (by first | rfl | (simp; done) | (simp [*]; done)), H', ⟨Nat.le_refl _⟩, ⟨zk aa⟩, ⟨zb HB⟩⟩
     case round =>
      clear H'
      try clear c1
      try clear p2
      try clear c3
      try clear c7
      try clear cK
      try clear bn
      try clear bo
      try clear b6
      try clear b7
      try clear bp
      try clear bq
      try clear b8
      try clear b9
      try clear p2
      obtain ⟨ah, rfl, HA, cR, aa, HB⟩ := hrel
      cases gk with
      | zero => exact absurd HA.out (by simp [laws_FnStoreTakes.l1])
      | succ k2 =>
       have H := HA.out; clear HA
       simp only [laws_FnStoreTakes.l1] at H
       by_cases c9 : 0 ≤ ac
       ·rw [if_pos c9] at H
        have db : decide (0 ≤ ac) = true := decide_eq_true c9
        clear c9
        by_cases c10 : ac < (ab.length : Int)
        ·rw [if_pos c10] at H
         have cw : decide (ac < (ab.length : Int)) = true := decide_eq_true c10
         clear c10
         by_cases cZ : ah < ((rd_L2 ab ac).length : Int)
         ·rw [if_pos cZ] at H
          have ci : decide (ah < ((rd_L2 ab ac).length : Int)) = true := decide_eq_true cZ
          clear cZ
          by_cases dn : 0 ≤ ah
          ·rw [if_pos dn] at H
           have cx : decide (0 ≤ ah) = true := decide_eq_true dn
           clear dn; replace H := Option.bind_eq_some_iff.mp H
           obtain ⟨⟨am, ai, aA, aE⟩, dY, H⟩ := H
           replace H : ((spec_TakeBag.f k2 a0_0 ab ((rd_T30 (rd_L2 ab ac) ah).f0)).bind fun bt851 => (if (aE != bt851.2.2.2) = true then (laws_FnStoreTakes.j2 k2 ac ah ((rd_T30 (rd_L2 ab ac) ah).f0) aA aE true a0_0 ab am ai) else ((laws_sameStore.f k2 am ai bt851.1 bt851.2.1).bind fun cL => (if cL = true then ((laws_sameHops.f k2 aA bt851.2.2.1).bind fun cc => (if cc = true then ((impl_StoreOk.f k2 am ai).bind fun a9 => (laws_FnStoreTakes.j2 k2 ac ah ((rd_T30 (rd_L2 ab ac) ah).f0) aA aE (!a9) a0_0 ab am ai)) else (laws_FnStoreTakes.j2 k2 ac ah ((rd_T30 (rd_L2 ab ac) ah).f0) aA aE true a0_0 ab am ai))) else (laws_FnStoreTakes.j2 k2 ac ah ((rd_T30 (rd_L2 ab ac) ah).f0) aA aE true a0_0 ab am ai))))) = some r := H
           have A13 := zK dY; clear dY; replace H := Option.bind_eq_some_iff.mp H
           obtain ⟨⟨aT, aF, cS, cd⟩, dZ, H⟩ := H
           replace H : (if (aE != cd) = true then (laws_FnStoreTakes.j2 k2 ac ah ((rd_T30 (rd_L2 ab ac) ah).f0) aA aE true a0_0 ab am ai) else ((laws_sameStore.f k2 am ai aT aF).bind fun cL => (if cL = true then ((laws_sameHops.f k2 aA cS).bind fun cc => (if cc = true then ((impl_StoreOk.f k2 am ai).bind fun a9 => (laws_FnStoreTakes.j2 k2 ac ah ((rd_T30 (rd_L2 ab ac) ah).f0) aA aE (!a9) a0_0 ab am ai)) else (laws_FnStoreTakes.j2 k2 ac ah ((rd_T30 (rd_L2 ab ac) ah).f0) aA aE true a0_0 ab am ai))) else (laws_FnStoreTakes.j2 k2 ac ah ((rd_T30 (rd_L2 ab ac) ah).f0) aA aE true a0_0 ab am ai)))) = some r := H
           have A14 := zK dZ; clear dZ; have dt := zK H; clear H
           have bw : wr.cell? ⟨ad, 0, none⟩ = some (.int .i64 a0_0) := (blk_cell aa.out 0).trans rfl
           have bx : wr.cell? ⟨ad, 1, none⟩ = some (.slice au ab.length ak) := (blk_cell aa.out 1).trans rfl
           have bz := blk_frozen aa.out 0; have bA := blk_frozen aa.out 1
           have ca : 0 ≤ (ac : Int) := of_decide_eq_true (by first | (with_reducible assumption) | assumption)
           have cb : ac < (ab.length : Int) := of_decide_eq_true (by first | (with_reducible assumption) | assumption)
           obtain ⟨ao, du, dv, dw, aH, bb, bc⟩ := at_L2 ax.out ac ca cb
           cases dw
           replace aH := (HB.out.cell (World.block_lt_of_cell? w _ aH)).trans aH
           have dc := zK bc; have dd := zK bb; clear bc bb; replace ca := eq_true ca; replace cb := eq_true cb
           have co : 0 ≤ (ac : Int) := of_decide_eq_true (by first | (with_reducible assumption) | assumption)
           have cp : ac < (ab.length : Int) := of_decide_eq_true (by first | (with_reducible assumption) | assumption)
           obtain ⟨d0, A840_0, c840_0, e840, aO, cy, cz⟩ := at_L2 ax.out ac co cp
           obtain rfl : ao = d0 := (by injection e840)
           replace aO := (HB.out.cell (World.block_lt_of_cell? w _ aO)).trans aO
           have de := zK cz; have HC840_0 := zK cy; clear cz cy; replace co := eq_true co; replace cp := eq_true cp
           have ea_ := Option.some.inj (aH.symm.trans aO)
           injection ea_ with ea_ en_ ec_
           subst ea_; subst ec_; clear en_
           have cq : 0 ≤ (ah : Int) := of_decide_eq_true (by first | (with_reducible assumption) | assumption)
           have cr : ah < ((rd_L2 ab ac).length : Int) := of_decide_eq_true (by first | (with_reducible assumption) | assumption)
           obtain ⟨ad841, e841, aW, aX⟩ := at_T30 de.out ah cq cr
           cases e841
           replace aW := (HB.out.cell (World.block_lt_of_cell? w _ aW)).trans aW
           replace aX := (HB.out.cell (World.block_lt_of_cell? w _ aX)).trans aX
           replace cq := eq_true cq; replace cr := eq_true cr
           go_upto_region 12 with (first | ((with_reducible refine gate_callee (f := 37) rfl ?_); refine goesL_ (some 50) rfl rfl Try.func37 (by kernel_rfl) rfl #[.agg #[.int .i64 a0_0, .slice (some ao) ab.length ak], .int .i64 ((rd_T30 (rd_L2 ab ac) ah).f0)] rfl (by (try simp only [List.map_toArray, List.map_cons, List.map_nil]); first | done | rfl | (simp only [List.length_drop, List.length_take]; rfl)) ?_; (with_reducible refine (impl_TakeBag.calls k2 a0_0 _ _ ab ((rd_T30 (rd_L2 ab ac) ah).f0) am ai aA aE _ ?side1 ?side2 A13.out).mono ?_); (case side1 => repeat (first | exact (Kd.C_below ax.out HB.out) | (with_reducible refine Kd.C_alloc ?_ _) | (with_reducible refine Kd.C_drewN ?_ _) | (with_reducible refine Kd.C_drew ?_))); (case side2 => exact aJ.out); rintro e w17 ⟨v844, v847, rfl, ho0, ho1, hb⟩; refine ⟨_, rfl, ?_⟩; have av := zK (Kd.S_lower ho0 (below_size (zb HB))); have aw := zK (Kd.R_lower ho1 (below_size (zb HB))); have aR := zK (blk_below (g := ad) (o := .cells #[.int .i64 a0_0, .slice (some ao) ab.length ak] 24 (0, 0)) (zk aa) hb); have aS := zK (below_step (zb HB) hb); clear aa; clear HB; have aD := av; have aI := aw; have aa := aR; have HB := aS; clear av aw aR aS; (try clear hb); (try clear hk); (try clear ho0); (try clear ho1)) | ((with_reducible refine gate_dst (N := 6) rfl ?_); refine box_event ?hg (N := 6) ?hd (cs := #[.int .i64 0, .slice none 0 0]) (t := 24) ?hr ?_; (case hd => rfl); (case hg => rfl); (case hr => first | (go_simp; done) | (go_simp; rfl)); intro ap hg w18 hbox hb; have av := zK (Kd.S_below (zT aD) hb); have aw := zK (Kd.R_below (zR aI) hb); have aR := zK (blk_below (g := ad) (o := .cells #[.int .i64 a0_0, .slice (some ao) ab.length ak] 24 (0, 0)) (zk aa) hb); have aS := zK (below_step (zb HB) hb); have a7 := zK (hbox); have a8 := zK ((by rw [hg]; exact (below_size (zb HB)) : w.heap.size ≤ ap)); have bt := zK ((by rw [hg]; exact (below_size (zb HB)) : w.heap.size ≤ ap)); have cT := zK ((by rw [hg]; exact Nat.ne_of_lt (blk_lt (g := ad) (o := .cells #[.int .i64 a0_0, .slice (some ao) ab.length ak] 24 (0, 0)) (zk aa)) : ad ≠ ap)); have d1 := zK ((by rw [hg]; exact Nat.ne_of_gt (blk_lt (g := ad) (o := .cells #[.int .i64 a0_0, .slice (some ao) ab.length ak] 24 (0, 0)) (zk aa)) : ap ≠ ad)); clear aD; clear aI; clear aa; clear HB; have aD := av; have aI := aw; have aa := aR; have HB := aS; have af := a7; have GW850 := a8; have aG := bt; have aB := cT; have aK := d1; clear av aw aR aS a7 a8 bt cT d1; clear hb hbox hg; have hnb19 := aK.out; have hnc19 := aB.out; have bB : w18.cell? ⟨ap, 0, none⟩ = some (.int .i64 0) := (blk_cell af.out 0).trans rfl; have bC : w18.cell? ⟨ap, 1, none⟩ = some (.slice none 0 0) := (blk_cell af.out 1).trans rfl; have bD := blk_frozen af.out 0; have bE := blk_frozen af.out 1; obtain ⟨az, ay, eo21⟩ := Kd.S_slice aD.out; subst eo21; have bF : w18.cell? ⟨ad, 0, none⟩ = some (.int .i64 a0_0) := (blk_cell aa.out 0).trans rfl; have bG : w18.cell? ⟨ad, 1, none⟩ = some (.slice (some ao) ab.length ak) := (blk_cell aa.out 1).trans rfl; have bH := blk_frozen aa.out 0; have bI := blk_frozen aa.out 1) | ((with_reducible refine gate_callee (f := 38) rfl ?_); refine goesL_ (some 57) rfl rfl Try.func38 (by kernel_rfl) rfl #[.agg #[.int .i64 a0_0, .slice (some ao) ab.length ak], .int .i64 ((rd_T30 (rd_L2 ab ac) ah).f0)] rfl (by (try simp only [List.map_toArray, List.map_cons, List.map_nil]); first | done | rfl | (simp only [List.length_drop, List.length_take]; rfl)) ?_; (with_reducible refine (spec_TakeBag.calls k2 a0_0 _ _ ab ((rd_T30 (rd_L2 ab ac) ah).f0) aT aF cS cd _ ?side1 ?side2 A14.out).mono ?_); (case side1 => exact Kd.C_below ax.out (zb HB)); (case side2 => exact aJ.out); rintro e w23 ⟨v853, v856, rfl, ho0, ho1, hb⟩; refine ⟨_, rfl, ?_⟩; have av := zK (Kd.S_elder' (by (with_reducible repeat (first | apply Kd.S_alloc | apply Kd.S_drewN | apply Kd.S_drew)); exact (Kd.S_mono (Kd.S_far (p := ⟨ap, 1, none⟩) (Kd.S_far (p := ⟨ap, 0, none⟩) (Kd.S_types aD.out af.out (by decide)) (fun _ hk => hk.2) (.int .i64 am)) (fun _ hk => hk.2) (.slice az ai.length ay)) (fun _ h_ => h_.1))) (Kd.S_base ho0) hb); have aw := zK (Kd.R_elder' (by (with_reducible repeat (first | apply Kd.R_alloc | apply Kd.R_drewN | apply Kd.R_drew)); exact (Kd.R_mono (Kd.R_far (p := ⟨ap, 1, none⟩) (Kd.R_far (p := ⟨ap, 0, none⟩) (Kd.R_types aI.out af.out (by decide)) (fun _ hk => hk.2) (.int .i64 am)) (fun _ hk => hk.2) (.slice az ai.length ay)) (fun _ h_ => h_.1))) (Kd.R_base ho1) hb); have aR := zK (Kd.S_lower (Kd.S_new' ho0 (Kd.S_lt (by (with_reducible repeat (first | apply Kd.S_alloc | apply Kd.S_drewN | apply Kd.S_drew)); exact (Kd.S_mono (Kd.S_far (p := ⟨ap, 1, none⟩) (Kd.S_far (p := ⟨ap, 0, none⟩) (Kd.S_types aD.out af.out (by decide)) (fun _ hk => hk.2) (.int .i64 am)) (fun _ hk => hk.2) (.slice az ai.length ay)) (fun _ h_ => h_.1))))) (below_size (zb HB))); have aS := zK (Kd.R_lower (Kd.R_new' ho1 (Kd.R_lt (by (with_reducible repeat (first | apply Kd.R_alloc | apply Kd.R_drewN | apply Kd.R_drew)); exact (Kd.R_mono (Kd.R_far (p := ⟨ap, 1, none⟩) (Kd.R_far (p := ⟨ap, 0, none⟩) (Kd.R_types aI.out af.out (by decide)) (fun _ hk => hk.2) (.int .i64 am)) (fun _ hk => hk.2) (.slice az ai.length ay)) (fun _ h_ => h_.1))))) (below_size (zb HB))); have a7 := zK (blk_below (g := ad) (o := .cells #[.int .i64 a0_0, .slice (some ao) ab.length ak] 24 (0, 0)) (by (with_reducible repeat (first | refine zN ?_ _ | refine zD ?_ | refine zA ?_ _)); refine blk_far ?_ aB.out _; (with_reducible repeat (first | refine zN ?_ _ | refine zD ?_ | refine zA ?_ _)); refine blk_far ?_ aB.out _; (with_reducible repeat (first | refine zN ?_ _ | refine zD ?_ | refine zA ?_ _)); exact aa.out) hb); have a8 := zK (blk_below (g := ap) (o := .cells #[.int .i64 am, .slice az ai.length ay] 24 (0, 0)) (by (with_reducible repeat (first | refine zN ?_ _ | refine zD ?_ | refine zA ?_ _)); refine blk_put (cs := #[.int .i64 am, .slice none 0 0]) ?_ 1 _ rfl; (with_reducible repeat (first | refine zN ?_ _ | refine zD ?_ | refine zA ?_ _)); refine blk_put (cs := #[.int .i64 0, .slice none 0 0]) ?_ 0 _ rfl; (with_reducible repeat (first | refine zN ?_ _ | refine zD ?_ | refine zA ?_ _)); exact af.out) hb); have bt := zK (below_step (zb HB) hb); clear aD; clear aI; clear aa; clear af; clear HB; have aD := av; have aI := aw; have aU := aR; have aZ := aS; have aa := a7; have af := a8; have HB := bt; clear av aw aR aS a7 a8 bt; (try clear hb); (try clear hk); (try clear ho0); (try clear ho1)) | ((with_reducible refine gate_dst (N := 9) rfl ?_); refine box_event ?hg (N := 9) ?hd (cs := #[.int .i64 0, .slice none 0 0]) (t := 24) ?hr ?_; (case hd => rfl); (case hg => rfl); (case hr => first | (go_simp; done) | (go_simp; rfl)); intro ar hg dT hbox hb; have av := zK (Kd.S_below (zT aD) hb); have aw := zK (Kd.R_below (zR aI) hb); have aR := zK (Kd.S_below (zT aU) hb); have aS := zK (Kd.R_below (zR aZ) hb); have a7 := zK (blk_below (g := ad) (o := .cells #[.int .i64 a0_0, .slice (some ao) ab.length ak] 24 (0, 0)) (zk aa) hb); have a8 := zK (blk_below (g := ap) (o := .cells #[.int .i64 am, .slice az ai.length ay] 24 (0, 0)) (zk af) hb); have bt := zK (below_step (zb HB) hb); have cT := zK (hbox); have d1 := zK ((by rw [hg]; exact (below_size (zb HB)) : w.heap.size ≤ ar)); have n9_ := zK ((by rw [hg]; exact (below_size (zb HB)) : w.heap.size ≤ ar)); have d2 := zK ((by rw [hg]; exact Nat.ne_of_lt (blk_lt (g := ad) (o := .cells #[.int .i64 a0_0, .slice (some ao) ab.length ak] 24 (0, 0)) (zk aa)) : ad ≠ ar)); have d3 := zK ((by rw [hg]; exact Nat.ne_of_gt (blk_lt (g := ad) (o := .cells #[.int .i64 a0_0, .slice (some ao) ab.length ak] 24 (0, 0)) (zk aa)) : ar ≠ ad)); have d4 := zK ((by rw [hg]; exact Nat.ne_of_lt (blk_lt (g := ap) (o := .cells #[.int .i64 am, .slice az ai.length ay] 24 (0, 0)) (zk af)) : ap ≠ ar)); have d5 := zK ((by rw [hg]; exact Nat.ne_of_gt (blk_lt (g := ap) (o := .cells #[.int .i64 am, .slice az ai.length ay] 24 (0, 0)) (zk af)) : ar ≠ ap)); clear aD; clear aI; clear aU; clear aZ; clear aa; clear af; clear HB; have aD := av; have aI := aw; have aU := aR; have aZ := aS; have aa := a7; have af := a8; have HB := bt; have an := cT; have GW859 := d1; have aP := n9_; have aC := d2; have aL := d3; have aV := d4; have br := d5; clear av aw aR aS a7 a8 bt cT d1 n9_ d2 d3 d4 d5; clear hb hbox hg; have hnb25 := aL.out; have hnc25 := aC.out; have hnb26 := br.out; have hnc26 := aV.out; have bJ : dT.cell? ⟨ar, 0, none⟩ = some (.int .i64 0) := (blk_cell an.out 0).trans rfl; have bK : dT.cell? ⟨ar, 1, none⟩ = some (.slice none 0 0) := (blk_cell an.out 1).trans rfl; have bL := blk_frozen an.out 0; have bM := blk_frozen an.out 1; obtain ⟨aN, aM, eo28⟩ := Kd.S_slice aU.out; subst eo28))
           (try simp only [Act.put, zp, zq, zr])
           go_cut [80] (fun v80 wc => ∃ (kq : Nat) (cf : Bool), v80 = .bool cf ∧ Aside0 (laws_FnStoreTakes.j2 kq ac ah ((rd_T30 (rd_L2 ab ac) ah).f0) aA aE cf a0_0 ab am ai = some r) ∧ Aside0 (kq ≤ k2) ∧ Aside0 (Kd.R k78 78 wc w.heap.size (fun _ => True) v847 aA) ∧ Aside0 (Kd.S (Kd.slice 30 k30) 28 wc w.heap.size (fun k_ => some k_ ≠ ((.slice aN aF.length aM) : Value).ownBlock) (.slice az ai.length ay) ai) ∧ Aside0 (Kd.S (Kd.slice 30 k30) 28 wc w.heap.size (fun k_ => some k_ ≠ ((.slice az ai.length ay) : Value).ownBlock) (.slice aN aF.length aM) aF) ∧ Aside0 (wc.heap[ad]? = some (.cells #[.int .i64 a0_0, (.slice (some ao) ab.length ak)] 24 (0, 0))) ∧ Aside0 (wc.heap[ap]? = some (.cells #[.int .i64 am, (.slice az ai.length ay)] 24 (0, 0))) ∧ Aside0 (wc.heap[ar]? = some (.cells #[.int .i64 aT, (.slice aN aF.length aM)] 24 (0, 0))) ∧ Aside0 (Below w.heap.size w wc))
           case first =>
            have H := dt.out; clear dt
            by_cases ct : (aE != cd) = true
            ·rw [if_pos ct] at H
             have bd : (aE != cd) = true := ct
             (try (have cj : decide (aE = cd) = false := by simpa using ct)); (try (have ck : (aE == cd) = false := by simpa using ct)); (try (have c29b3 : ¬ (aE = cd) := by simpa using ct)); clear ct
             (first | rw [bd] | (simp only [i64_w, i32_w]; rw [bd]) | skip)
             exact absurd (H.trans (congrArg some hrt.out)) (by cases k2 <;> simp [laws_FnStoreTakes.j2])
            ·rw [if_neg ct] at H
             have bd : (aE != cd) = false := by simpa using ct
             (try (have cj : decide (aE = cd) = true := by simpa using ct)); (try (have ck : (aE == cd) = true := by simpa using ct)); clear ct
             (first | rw [bd] | (simp only [i64_w, i32_w]; rw [bd]) | skip)
             replace H := Option.bind_eq_some_iff.mp H
             obtain ⟨cL, d6, H⟩ := H
             replace H : (if cL = true then ((laws_sameHops.f k2 aA cS).bind fun cc => (if cc = true then ((impl_StoreOk.f k2 am ai).bind fun a9 => (laws_FnStoreTakes.j2 k2 ac ah ((rd_T30 (rd_L2 ab ac) ah).f0) aA aE (!a9) a0_0 ab am ai)) else (laws_FnStoreTakes.j2 k2 ac ah ((rd_T30 (rd_L2 ab ac) ah).f0) aA aE true a0_0 ab am ai))) else (laws_FnStoreTakes.j2 k2 ac ah ((rd_T30 (rd_L2 ab ac) ah).f0) aA aE true a0_0 ab am ai)) = some r := H
             have A30 := zK d6; clear d6
             by_cases dp : cL = true
             ·subst dp
              have H1 : ((laws_sameHops.f k2 aA cS).bind fun cc => (if cc = true then ((impl_StoreOk.f k2 am ai).bind fun a9 => (laws_FnStoreTakes.j2 k2 ac ah ((rd_T30 (rd_L2 ab ac) ah).f0) aA aE (!a9) a0_0 ab am ai)) else (laws_FnStoreTakes.j2 k2 ac ah ((rd_T30 (rd_L2 ab ac) ah).f0) aA aE true a0_0 ab am ai))) = some r := by rw [if_pos rfl] at H; exact H
              clear H; have H := H1; clear H1; replace H := Option.bind_eq_some_iff.mp H
              obtain ⟨cc, d7, H⟩ := H
              replace H : (if cc = true then ((impl_StoreOk.f k2 am ai).bind fun a9 => (laws_FnStoreTakes.j2 k2 ac ah ((rd_T30 (rd_L2 ab ac) ah).f0) aA aE (!a9) a0_0 ab am ai)) else (laws_FnStoreTakes.j2 k2 ac ah ((rd_T30 (rd_L2 ab ac) ah).f0) aA aE true a0_0 ab am ai)) = some r := H
              have A32 := zK d7; clear d7
              by_cases dq : cc = true
              ·subst dq
               have H1 : ((impl_StoreOk.f k2 am ai).bind fun a9 => (laws_FnStoreTakes.j2 k2 ac ah ((rd_T30 (rd_L2 ab ac) ah).f0) aA aE (!a9) a0_0 ab am ai)) = some r := by rw [if_pos rfl] at H; exact H
               clear H; have H := H1; clear H1; replace H := Option.bind_eq_some_iff.mp H
               obtain ⟨a9, d8, H⟩ := H
               replace H : (laws_FnStoreTakes.j2 k2 ac ah ((rd_T30 (rd_L2 ab ac) ah).f0) aA aE (!a9) a0_0 ab am ai) = some r := H
               have A34 := zK d8; clear d8; have H' := zK H; clear H; have hnb35 := aK.out; have hnc35 := aB.out; have hnb36 := aV.out; have hnc36 := br.out
               have bN : dT.cell? ⟨ap, 0, none⟩ = some (.int .i64 am) := (blk_cell af.out 0).trans rfl
               have bO : dT.cell? ⟨ap, 1, none⟩ = some (.slice az ai.length ay) := (blk_cell af.out 1).trans rfl
               have bP := blk_frozen af.out 0; have bQ := blk_frozen af.out 1; have hnb38 := aL.out; have hnc38 := aC.out
               have bR : dT.cell? ⟨ar, 0, none⟩ = some (.int .i64 0) := (blk_cell an.out 0).trans rfl
               have bS : dT.cell? ⟨ar, 1, none⟩ = some (.slice none 0 0) := (blk_cell an.out 1).trans rfl
               have bT := blk_frozen an.out 0; have bU := blk_frozen an.out 1
               go_wp2_with (first | (go_at_call 33; (with_reducible refine (laws_sameStore.calls k2 am _ _ ai aT _ _ aF true _ ?side1 ?side2 ?side3 ?side4 A30.out).mono ?_); (case side1 => refine (Kd.S_reads' (e := 28) (base := w.heap.size) (ok := fun k_ => (True ∧ some k_ ≠ (.slice aN aF.length aM : Value).ownBlock)) (n := ai.length) (c := ay) ?_).2.2; exact (by (with_reducible repeat (first | apply Kd.S_alloc | apply Kd.S_drewN | apply Kd.S_drew)); exact (Kd.S_mono (Kd.S_far (p := ⟨ar, 1, none⟩) (Kd.S_far (p := ⟨ar, 0, none⟩) (Kd.S_types aD.out an.out (by decide)) (fun _ hk => hk.2) (.int .i64 aT)) (fun _ hk => hk.2) (.slice aN aF.length aM)) (fun _ h_ => h_.1)))); (case side2 => exact (Kd.S_reads' aD.out).2.1); (case side3 => refine (Kd.S_reads' (e := 28) (base := w.heap.size) (ok := fun k_ => (True ∧ some k_ ≠ (.slice az ai.length ay : Value).ownBlock)) (n := aF.length) (c := aM) ?_).2.2; exact (by (with_reducible repeat (first | apply Kd.S_alloc | apply Kd.S_drewN | apply Kd.S_drew)); exact (Kd.S_mono (Kd.S_far (p := ⟨ar, 1, none⟩) (Kd.S_far (p := ⟨ar, 0, none⟩) (Kd.S_types aU.out an.out (by decide)) (fun _ hk => hk.2) (.int .i64 aT)) (fun _ hk => hk.2) (.slice aN aF.length aM)) (fun _ h_ => h_.1)))); (case side4 => exact (Kd.S_reads' aU.out).2.1); rintro e w40 ⟨rfl, hb⟩; have av := zK (Kd.S_below (by (with_reducible repeat (first | apply Kd.S_alloc | apply Kd.S_drewN | apply Kd.S_drew)); exact (Kd.S_mono (Kd.S_far (p := ⟨ar, 1, none⟩) (Kd.S_far (p := ⟨ar, 0, none⟩) (Kd.S_types aD.out an.out (by decide)) (fun _ hk => hk.2) (.int .i64 aT)) (fun _ hk => hk.2) (.slice aN aF.length aM)) (fun _ h_ => h_.1))) hb); have aw := zK (Kd.R_below (by (with_reducible repeat (first | apply Kd.R_alloc | apply Kd.R_drewN | apply Kd.R_drew)); exact (Kd.R_mono (Kd.R_far (p := ⟨ar, 1, none⟩) (Kd.R_far (p := ⟨ar, 0, none⟩) (Kd.R_types aI.out an.out (by decide)) (fun _ hk => hk.2) (.int .i64 aT)) (fun _ hk => hk.2) (.slice aN aF.length aM)) (fun _ h_ => h_.1))) hb); have aR := zK (Kd.S_below (by (with_reducible repeat (first | apply Kd.S_alloc | apply Kd.S_drewN | apply Kd.S_drew)); exact (Kd.S_mono (Kd.S_far (p := ⟨ar, 1, none⟩) (Kd.S_far (p := ⟨ar, 0, none⟩) (Kd.S_types aU.out an.out (by decide)) (fun _ hk => hk.2) (.int .i64 aT)) (fun _ hk => hk.2) (.slice aN aF.length aM)) (fun _ h_ => h_.1))) hb); have aS := zK (Kd.R_below (by (with_reducible repeat (first | apply Kd.R_alloc | apply Kd.R_drewN | apply Kd.R_drew)); exact (Kd.R_mono (Kd.R_far (p := ⟨ar, 1, none⟩) (Kd.R_far (p := ⟨ar, 0, none⟩) (Kd.R_types aZ.out an.out (by decide)) (fun _ hk => hk.2) (.int .i64 aT)) (fun _ hk => hk.2) (.slice aN aF.length aM)) (fun _ h_ => h_.1))) hb); have a7 := zK (blk_below (g := ad) (o := .cells #[.int .i64 a0_0, .slice (some ao) ab.length ak] 24 (0, 0)) (by (with_reducible repeat (first | refine zN ?_ _ | refine zD ?_ | refine zA ?_ _)); refine blk_far ?_ aC.out _; (with_reducible repeat (first | refine zN ?_ _ | refine zD ?_ | refine zA ?_ _)); refine blk_far ?_ aC.out _; (with_reducible repeat (first | refine zN ?_ _ | refine zD ?_ | refine zA ?_ _)); exact aa.out) hb); have a8 := zK (blk_below (g := ap) (o := .cells #[.int .i64 am, .slice az ai.length ay] 24 (0, 0)) (by (with_reducible repeat (first | refine zN ?_ _ | refine zD ?_ | refine zA ?_ _)); refine blk_far ?_ aV.out _; (with_reducible repeat (first | refine zN ?_ _ | refine zD ?_ | refine zA ?_ _)); refine blk_far ?_ aV.out _; (with_reducible repeat (first | refine zN ?_ _ | refine zD ?_ | refine zA ?_ _)); exact af.out) hb); have bt := zK (blk_below (g := ar) (o := .cells #[.int .i64 aT, .slice aN aF.length aM] 24 (0, 0)) (by (with_reducible repeat (first | refine zN ?_ _ | refine zD ?_ | refine zA ?_ _)); refine blk_put (cs := #[.int .i64 aT, .slice none 0 0]) ?_ 1 _ rfl; (with_reducible repeat (first | refine zN ?_ _ | refine zD ?_ | refine zA ?_ _)); refine blk_put (cs := #[.int .i64 0, .slice none 0 0]) ?_ 0 _ rfl; (with_reducible repeat (first | refine zN ?_ _ | refine zD ?_ | refine zA ?_ _)); exact an.out) hb); have cT := zK (below_step (zb HB) hb); clear aD; clear aI; clear aU; clear aZ; clear aa; clear af; clear an; clear HB; have aD := av; have aI := aw; have aU := aR; have aZ := aS; have aa := a7; have af := a8; have an := bt; have HB := cT; clear av aw aR aS a7 a8 bt cT; (try clear hb); (try clear hk); obtain ⟨Ao41, co41, eo41⟩ := Kd.R_slice aI.out; subst eo41; obtain ⟨Ao42, co42, eo42⟩ := Kd.R_slice aZ.out; subst eo42) | (go_at_call 39; (with_reducible refine (laws_sameHops.calls k2 _ _ aA _ _ cS true _ ?side1 ?side2 ?side3 ?side4 A32.out).mono ?_); (case side1 => repeat (first | exact (Kd.R_reads' aI.out).2.2 | (with_reducible refine Kd.C_alloc ?_ _) | (with_reducible refine Kd.C_drewN ?_ _) | (with_reducible refine Kd.C_drew ?_))); (case side2 => exact (Kd.R_reads' aI.out).2.1); (case side3 => repeat (first | exact (Kd.R_reads' aZ.out).2.2 | (with_reducible refine Kd.C_alloc ?_ _) | (with_reducible refine Kd.C_drewN ?_ _) | (with_reducible refine Kd.C_drew ?_))); (case side4 => exact (Kd.R_reads' aZ.out).2.1); rintro e w' ⟨rfl, ⟨nd, rfl⟩⟩; have bV : w40.cell? ⟨ap, 0, none⟩ = some (.int .i64 am) := (blk_cell af.out 0).trans rfl; have bW : w40.cell? ⟨ap, 1, none⟩ = some (.slice az ai.length ay) := (blk_cell af.out 1).trans rfl; have bX := blk_frozen af.out 0; have bY := blk_frozen af.out 1) | (go_at_call 22; (with_reducible refine (impl_StoreOk.calls k2 am _ _ ai a9 _ ?side1 ?side2 A34.out).mono ?_); (case side1 => repeat (first | exact (Kd.S_reads' aD.out).2.2 | (with_reducible refine Kd.C_alloc ?_ _) | (with_reducible refine Kd.C_drewN ?_ _) | (with_reducible refine Kd.C_drew ?_))); (case side2 => exact (Kd.S_reads' aD.out).2.1); rintro e w44 ⟨rfl, hb⟩; have av := zK (Kd.S_below (zT aD) hb); have aw := zK (Kd.R_below (zR aI) hb); have aR := zK (Kd.S_below (zT aU) hb); have aS := zK (Kd.R_below (zR aZ) hb); have a7 := zK (blk_below (g := ad) (o := .cells #[.int .i64 a0_0, .slice (some ao) ab.length ak] 24 (0, 0)) (zk aa) hb); have a8 := zK (blk_below (g := ap) (o := .cells #[.int .i64 am, .slice az ai.length ay] 24 (0, 0)) (zk af) hb); have bt := zK (blk_below (g := ar) (o := .cells #[.int .i64 aT, .slice aN aF.length aM] 24 (0, 0)) (zk an) hb); have cT := zK (below_step (zb HB) hb); clear aD; clear aI; clear aU; clear aZ; clear aa; clear af; clear an; clear HB; have aD := av; have aI := aw; have aU := aR; have aZ := aS; have aa := a7; have af := a8; have an := bt; have HB := cT; clear av aw aR aS a7 a8 bt cT; (try clear hb); (try clear hk)))
               go_meet
               case rel => exact ⟨_, (!a9), (by first | rfl | (simp; done) | (simp [*]; done)), H', ⟨by have := cQ.out; have := cR.out; first | omega | exact Nat.le_refl _⟩, ⟨by (with_reducible repeat (first | apply Kd.R_alloc | apply Kd.R_drewN | apply Kd.R_drew)); exact Kd.R_mono aI.out (fun _ hk => trivial)⟩, ⟨by (with_reducible repeat (first | apply Kd.S_alloc | apply Kd.S_drewN | apply Kd.S_drew)); exact Kd.S_mono aD.out (fun _ hk => hk.2)⟩, ⟨by (with_reducible repeat (first | apply Kd.S_alloc | apply Kd.S_drewN | apply Kd.S_drew)); exact Kd.S_mono aU.out (fun _ hk => hk.2)⟩, ⟨zk aa⟩, ⟨zk af⟩, ⟨zk an⟩, ⟨zb HB⟩⟩
              ·replace dq := Bool.eq_false_iff.mpr dq
               subst dq
               have H1 : (laws_FnStoreTakes.j2 k2 ac ah ((rd_T30 (rd_L2 ab ac) ah).f0) aA aE true a0_0 ab am ai) = some r := by rw [if_neg (show ¬ (false = true) by decide)] at H; exact H
               clear H; have H := H1; clear H1
               exact absurd (H.trans (congrArg some hrt.out)) (by cases k2 <;> simp [laws_FnStoreTakes.j2])
             ·replace dp := Bool.eq_false_iff.mpr dp
              subst dp
              have H1 : (laws_FnStoreTakes.j2 k2 ac ah ((rd_T30 (rd_L2 ab ac) ah).f0) aA aE true a0_0 ab am ai) = some r := by rw [if_neg (show ¬ (false = true) by decide)] at H; exact H
              clear H; have H := H1; clear H1
              exact absurd (H.trans (congrArg some hrt.out)) (by cases k2 <;> simp [laws_FnStoreTakes.j2])
           case rest =>
            clear dt
            try clear c1
            try clear c2
            try clear p2
            try clear c3
            try clear c7
            try clear cK
            try clear c8
            try clear p8
            try clear q8
            try clear hx8
            try clear c9
            try clear db
            try clear c10
            try clear cw
            try clear cZ
            try clear ci
            try clear dn
            try clear cx
            try clear c15
            try clear c19
            try clear c25
            try clear c26
            try clear ct
            try clear bd
            try clear cj
            try clear ck
            try clear dp
            try clear dq
            try clear c35
            try clear c36
            try clear c37
            try clear c38
            try clear bw
            try clear bx
            try clear bB
            try clear bC
            try clear bF
            try clear bG
            try clear bJ
            try clear bK
            try clear bN
            try clear bO
            try clear bR
            try clear bS
            try clear bV
            try clear bW
            try clear bn
            try clear bo
            try clear b6
            try clear b7
            try clear bz
            try clear bA
            try clear bD
            try clear bE
            try clear bH
            try clear bI
            try clear bL
            try clear bM
            try clear bP
            try clear bQ
            try clear bT
            try clear bU
            try clear bX
            try clear bY
            try clear bp
            try clear bq
            try clear b8
            try clear b9
            try clear aH
            try clear aO
            try clear aW
            try clear aX
            try clear p2
            try clear ca
            try clear co
            try clear cq
            try clear cb
            try clear cp
            try clear cr
            obtain ⟨kq, cf, rfl, HA, cg, be, ae, ag, aa, af, an, HB⟩ := hcut
            cases kq with
            | zero => exact absurd HA.out (by simp [laws_FnStoreTakes.j2])
            | succ kj14 =>
             have H := HA.out; clear HA
             simp only [laws_FnStoreTakes.j2] at H
             by_cases dx : cf = true
             ·subst dx
              have H1 : (some false) = some r := by rw [if_pos rfl] at H; exact H
              clear H; have H := H1; clear H1
              exact absurd (H.trans (congrArg some hrt.out)) (by simp)
             ·replace dx := Bool.eq_false_iff.mpr dx
              subst dx
              have H1 : (if aE = true then (if 0 ≤ ac then (if ac < (ab.length : Int) then (if (aA.length : Int) = (wrap64 ((wrap64 (((rd_L2 ab ac).length : Int) - 1)) - ah)) then ((laws_kept.f kj14 am ai).bind fun cl => ((laws_kept.f kj14 a0_0 ab).bind fun ch => (laws_FnStoreTakes.j3 kj14 ac ah ((rd_T30 (rd_L2 ab ac) ah).f0) (cl != (wrap64 (ch - 1))) a0_0 ab am ai))) else (laws_FnStoreTakes.j3 kj14 ac ah ((rd_T30 (rd_L2 ab ac) ah).f0) true a0_0 ab am ai)) else (none)) else (none)) else ((laws_sameStore.f kj14 am ai a0_0 ab).bind fun cM => (if cM = true then (laws_FnStoreTakes.l1 kj14 ac (wrap64 (ah + 1)) a0_0 ab) else (some false)))) = some r := by rw [if_neg (show ¬ (false = true) by decide)] at H; exact H
              clear H; have H := H1; clear H1
              by_cases dy : aE = true
              ·subst dy
               have H1 : (if 0 ≤ ac then (if ac < (ab.length : Int) then (if (aA.length : Int) = (wrap64 ((wrap64 (((rd_L2 ab ac).length : Int) - 1)) - ah)) then ((laws_kept.f kj14 am ai).bind fun cl => ((laws_kept.f kj14 a0_0 ab).bind fun ch => (laws_FnStoreTakes.j3 kj14 ac ah ((rd_T30 (rd_L2 ab ac) ah).f0) (cl != (wrap64 (ch - 1))) a0_0 ab am ai))) else (laws_FnStoreTakes.j3 kj14 ac ah ((rd_T30 (rd_L2 ab ac) ah).f0) true a0_0 ab am ai)) else (none)) else (none)) = some r := by rw [if_pos rfl] at H; exact H
               clear H; have H := H1; clear H1; have dz := zK H; clear H
               go_upto_region 17 with (fail)
               go_cut [106] (fun v106 wc => ∃ (kq : Nat) (bZ : Bool), v106 = .bool bZ ∧ Aside0 (laws_FnStoreTakes.j3 kq ac ah ((rd_T30 (rd_L2 ab ac) ah).f0) bZ a0_0 ab am ai = some r) ∧ Aside0 (kq ≤ kj14) ∧ Aside0 (Kd.S (Kd.slice 30 k30) 28 wc w.heap.size (fun k_ => some k_ ≠ ((.slice aN aF.length aM) : Value).ownBlock) (.slice az ai.length ay) ai) ∧ Aside0 (Kd.S (Kd.slice 30 k30) 28 wc w.heap.size (fun k_ => some k_ ≠ ((.slice az ai.length ay) : Value).ownBlock) (.slice aN aF.length aM) aF) ∧ Aside0 (wc.heap[ad]? = some (.cells #[.int .i64 a0_0, (.slice (some ao) ab.length ak)] 24 (0, 0))) ∧ Aside0 (wc.heap[ap]? = some (.cells #[.int .i64 am, (.slice az ai.length ay)] 24 (0, 0))) ∧ Aside0 (wc.heap[ar]? = some (.cells #[.int .i64 aT, (.slice aN aF.length aM)] 24 (0, 0))) ∧ Aside0 (Below w.heap.size w wc))
               case first =>
                have H := dz.out; clear dz
                by_cases dA : 0 ≤ ac
                ·rw [if_pos dA] at H
                 have cm : decide (0 ≤ ac) = true := decide_eq_true dA
                 clear dA
                 (first | rw [cm] | (simp only [i64_w, i32_w]; rw [cm]) | skip)
                 by_cases dB : ac < (ab.length : Int)
                 ·rw [if_pos dB] at H
                  have cU : decide (ac < (ab.length : Int)) = true := decide_eq_true dB
                  clear dB
                  by_cases c0 : (aA.length : Int) = (wrap64 ((wrap64 (((rd_L2 ab ac).length : Int) - 1)) - ah))
                  ·rw [if_pos c0] at H
                   have cA : ((aA.length : Int) == (wrap64 ((wrap64 (((rd_L2 ab ac).length : Int) - 1)) - ah))) = true := beq_iff_eq.mpr c0
                   have cB : ((aA.length : Int) != (wrap64 ((wrap64 (((rd_L2 ab ac).length : Int) - 1)) - ah))) = false := bne_eq_false_iff_eq.mpr c0
                   clear c0; replace H := Option.bind_eq_some_iff.mp H
                   obtain ⟨cl, d9, H⟩ := H
                   replace H : ((laws_kept.f kj14 a0_0 ab).bind fun ch => (laws_FnStoreTakes.j3 kj14 ac ah ((rd_T30 (rd_L2 ab ac) ah).f0) (cl != (wrap64 (ch - 1))) a0_0 ab am ai)) = some r := H
                   have A51 := zK d9; clear d9; replace H := Option.bind_eq_some_iff.mp H
                   obtain ⟨ch, ea, H⟩ := H
                   replace H : (laws_FnStoreTakes.j3 kj14 ac ah ((rd_T30 (rd_L2 ab ac) ah).f0) (cl != (wrap64 (ch - 1))) a0_0 ab am ai) = some r := H
                   have A52 := zK ea; clear ea; have H' := zK H; clear H
                   try go_wp2
                   have av := zK (Kd.R_drew be.out)
                   have aw := zK (Kd.S_drew ae.out)
                   have aR := zK (Kd.S_drew ag.out)
                   have aS := zK (zD aa.out)
                   have a7 := zK (zD af.out)
                   have a8 := zK (zD an.out)
                   have bt := zK (zE HB.out)
                   clear be ae ag aa af an HB; have be := av; have ae := aw; have ag := aR; have aa := aS; have af := a7; have an := a8; have HB := bt; clear av aw aR aS a7 a8 bt
                   obtain ⟨Ao54, co54, eb⟩ := Kd.R_slice be.out
                   (first | subst eb | (injection eb with f1_ f2_ f3_; have f4_ := f1_.symm; have f5_ := f3_.symm; clear f1_ f2_ f3_; subst f4_; subst f5_))
                   have cN : 0 ≤ (ac : Int) := of_decide_eq_true (by first | (with_reducible assumption) | assumption)
                   have cO : ac < (ab.length : Int) := of_decide_eq_true (by first | (with_reducible assumption) | assumption)
                   obtain ⟨ec, dC, dD, e864, aQ, cC, cD⟩ := at_L2 ax.out ac cN cO
                   have a3 := aQ
                   obtain rfl : ao = ec := (by injection e864)
                   replace aQ := (HB.out.cell (World.block_lt_of_cell? w _ aQ)).trans aQ
                   have df := zK cD; have HC864_0 := zK cC; clear cD cC; replace cN := eq_true cN; replace cO := eq_true cO
                   refine start_ (n := 20) (S := fun w' => w'.cell? ⟨ad, 0, none⟩ = some (.int .i64 a0_0) ∧ w'.cell? ⟨ad, 1, none⟩ = some (.slice (some ao) ab.length ak) ∧ w'.cell? ⟨ap, 0, none⟩ = some (.int .i64 am) ∧ w'.cell? ⟨ap, 1, none⟩ = some (.slice az ai.length ay) ∧ w'.cell? (ao.add (ac).toNat) = some (.slice dC (rd_L2 ab ac).length dD)) (ds := []) #[ff, ff, ff, ff, ff, ff, ff, ff, ff, ff, ff, ff, ff, ff, ff, ff, ff, ff, ff, ff] (by kernel_rfl) rfl rfl ⟨(blk_cell aa.out 0).trans rfl, (blk_cell aa.out 1).trans rfl, (blk_cell af.out 0).trans rfl, (blk_cell af.out 1).trans rfl, ((HB.out.cell (World.block_lt_of_cell? w _ a3)).trans a3)⟩ (fun hHeld => ?_); refine with_tabW laws_FnStoreTakes.tab17 laws_FnStoreTakes.bits17 (fun HT_ HW_ => ?_)
                   generalize wc.drew = w53 at be ae ag aa af an HB df aQ hHeld ⊢
                   refine zu 0 (some 87) #[tt, ff, ff, ff, ff, ff, ff, ff, ff, ff, ff, ff, ff, ff, ff, ff, ff, ff, ff, ff] (any_of HT_.out (by kernel_rfl)) ?_
                   refine zu 1 (some 88) #[tt, tt, ff, ff, ff, ff, ff, ff, ff, ff, ff, ff, ff, ff, ff, ff, ff, ff, ff, ff] (any_of HT_.out (by kernel_rfl)) ?_
                   refine zu 2 (some 89) #[tt, tt, tt, ff, ff, ff, ff, ff, ff, ff, ff, ff, ff, ff, ff, ff, ff, ff, ff, ff] (any_of HT_.out (by kernel_rfl)) ?_
                   refine zu 4 (some 91) #[tt, tt, tt, ff, tt, ff, ff, ff, ff, ff, ff, ff, ff, ff, ff, ff, ff, ff, ff, ff] (any_of HT_.out (by kernel_rfl)) ?_
                   refine zu 9 (some 96) #[tt, tt, tt, ff, tt, ff, ff, ff, ff, tt, ff, ff, ff, ff, ff, ff, ff, ff, ff, ff] (any_of HT_.out (by kernel_rfl)) ?_
                   refine zt 3 (some 90) #[tt, tt, tt, tt, tt, ff, ff, ff, ff, tt, ff, ff, ff, ff, ff, ff, ff, ff, ff, ff] (take_ofW HT_.out HW_.out (by kernel_rfl)) hHeld ?_
                   refine zu 5 (some 92) #[tt, tt, tt, tt, tt, tt, ff, ff, ff, tt, ff, ff, ff, ff, ff, ff, ff, ff, ff, ff] (any_of HT_.out (by kernel_rfl)) ?_
                   refine zt 6 (some 93) #[tt, tt, tt, tt, tt, tt, tt, ff, ff, tt, ff, ff, ff, ff, ff, ff, ff, ff, ff, ff] (take_ofW HT_.out HW_.out (by kernel_rfl)) hHeld ?_
                   refine zu 7 (some 94) #[tt, tt, tt, tt, tt, tt, tt, tt, ff, tt, ff, ff, ff, ff, ff, ff, ff, ff, ff, ff] (any_of HT_.out (by kernel_rfl)) ?_
                   refine zu 8 (some 95) #[tt, tt, tt, tt, tt, tt, tt, tt, tt, tt, ff, ff, ff, ff, ff, ff, ff, ff, ff, ff] (any_of HT_.out (by kernel_rfl)) ?_
                   refine zu 10 (some 97) #[tt, tt, tt, tt, tt, tt, tt, tt, tt, tt, tt, ff, ff, ff, ff, ff, ff, ff, ff, ff] (any_of HT_.out (by kernel_rfl)) ?_
                   refine zu 11 (some 98) #[tt, tt, tt, tt, tt, tt, tt, tt, tt, tt, tt, tt, ff, ff, ff, ff, ff, ff, ff, ff] (any_of HT_.out (by kernel_rfl)) ?_
                   refine zu 12 (some 99) #[tt, tt, tt, tt, tt, tt, tt, tt, tt, tt, tt, tt, tt, ff, ff, ff, ff, ff, ff, ff] (any_of HT_.out (by kernel_rfl)) ?_
                   refine zt 13 (some 100) #[tt, tt, tt, tt, tt, tt, tt, tt, tt, tt, tt, tt, tt, tt, ff, ff, ff, ff, ff, ff] (take_ofW HT_.out HW_.out (by kernel_rfl)) hHeld ?_
                   refine zt 15 (some 102) #[tt, tt, tt, tt, tt, tt, tt, tt, tt, tt, tt, tt, tt, tt, ff, tt, ff, ff, ff, ff] (take_ofW HT_.out HW_.out (by kernel_rfl)) hHeld ?_
                   refine one_ (i := 14) (N := some 101) #[tt, tt, tt, tt, tt, tt, tt, tt, tt, tt, tt, tt, tt, tt, tt, tt, ff, ff, ff, ff] rfl rfl (one_of HT_.out (by kernel_rfl)) (by decide) (fun K hK => ?_)
                   refine goes_ Try.func16 (by kernel_rfl) rfl #[.agg #[.int .i64 am, .slice az ai.length ay]] (by rfl) rfl rfl (by (try simp only [List.map_toArray, List.map_cons, List.map_nil]); first | done | rfl | (simp only [List.length_drop, List.length_take]; rfl)) ?_
                   with_reducible refine (laws_kept.calls kj14 am _ _ ai cl _ ?side1 ?side2 A51.out).mono ?_
                   (case side1 => repeat (first | exact (Kd.S_reads' ae.out).2.2 | (with_reducible refine Kd.C_alloc ?_ _) | (with_reducible refine Kd.C_drewN ?_ _) | (with_reducible refine Kd.C_drew ?_)))
                   (case side2 => exact (Kd.S_reads' ae.out).2.1)
                   rintro e w55 ⟨rfl, hb⟩
                   refine ⟨_, rfl, ?_⟩
                   have av := zK (Kd.R_below (zR be) hb)
                   have aw := zK (Kd.S_below (zT ae) hb)
                   have aR := zK (Kd.S_below (zT ag) hb)
                   have aS := zK (blk_below (g := ad) (o := .cells #[.int .i64 a0_0, .slice (some ao) ab.length ak] 24 (0, 0)) (zk aa) hb)
                   have a7 := zK (blk_below (g := ap) (o := .cells #[.int .i64 am, .slice az ai.length ay] 24 (0, 0)) (zk af) hb)
                   have a8 := zK (blk_below (g := ar) (o := .cells #[.int .i64 aT, .slice aN aF.length aM] 24 (0, 0)) (zk an) hb)
                   have bt := zK (below_step (zb HB) hb)
                   clear be ae ag aa af an HB; have be := av; have ae := aw; have ag := aR; have aa := aS; have af := a7; have an := a8; have HB := bt; clear av aw aR aS a7 a8 bt; (try clear hb); (try clear hb2); (try clear hk); (try clear hi)
                   refine hK.out _ _ ⟨(blk_cell aa.out 0).trans rfl, (blk_cell aa.out 1).trans rfl, (blk_cell af.out 0).trans rfl, (blk_cell af.out 1).trans rfl, ((HB.out.cell (World.block_lt_of_cell? w _ a3)).trans a3)⟩ (fun hHeld => ?_)
                   clear hK K
                   refine norm_ (a' := ?_) ?_ ?_
                   rotate_left
                   ·show Act.put _ (some 101) _ = _
                    simp only [Act.put, zp, zq, zr, i64_w, i32_w]
                    rfl
                   refine one_ (i := 16) (N := some 103) #[tt, tt, tt, tt, tt, tt, tt, tt, tt, tt, tt, tt, tt, tt, tt, tt, tt, ff, ff, ff] rfl rfl (one_of HT_.out (by kernel_rfl)) (by decide) (fun K hK => ?_)
                   refine goes_ Try.func16 (by kernel_rfl) rfl #[.agg #[.int .i64 a0_0, .slice (some ao) ab.length ak]] (by rfl) rfl rfl (by (try simp only [List.map_toArray, List.map_cons, List.map_nil]); first | done | rfl | (simp only [List.length_drop, List.length_take]; rfl)) ?_
                   with_reducible refine (laws_kept.calls kj14 a0_0 _ _ ab ch _ ?side1 ?side2 A52.out).mono ?_
                   (case side1 => repeat (first | exact (Kd.C_below ax.out HB.out) | (with_reducible refine Kd.C_alloc ?_ _) | (with_reducible refine Kd.C_drewN ?_ _) | (with_reducible refine Kd.C_drew ?_)))
                   (case side2 => exact aJ.out)
                   rintro e w56 ⟨rfl, hb⟩
                   refine ⟨_, rfl, ?_⟩
                   have av := zK (Kd.R_below (zR be) hb)
                   have aw := zK (Kd.S_below (zT ae) hb)
                   have aR := zK (Kd.S_below (zT ag) hb)
                   have aS := zK (blk_below (g := ad) (o := .cells #[.int .i64 a0_0, .slice (some ao) ab.length ak] 24 (0, 0)) (zk aa) hb)
                   have a7 := zK (blk_below (g := ap) (o := .cells #[.int .i64 am, .slice az ai.length ay] 24 (0, 0)) (zk af) hb)
                   have a8 := zK (blk_below (g := ar) (o := .cells #[.int .i64 aT, .slice aN aF.length aM] 24 (0, 0)) (zk an) hb)
                   have bt := zK (below_step (zb HB) hb)
                   clear be ae ag aa af an HB; have be := av; have ae := aw; have ag := aR; have aa := aS; have af := a7; have an := a8; have HB := bt; clear av aw aR aS a7 a8 bt; (try clear hb); (try clear hb2); (try clear hk); (try clear hi)
                   refine hK.out _ _ ⟨(blk_cell aa.out 0).trans rfl, (blk_cell aa.out 1).trans rfl, (blk_cell af.out 0).trans rfl, (blk_cell af.out 1).trans rfl, ((HB.out.cell (World.block_lt_of_cell? w _ a3)).trans a3)⟩ (fun hHeld => ?_)
                   clear hK K
                   refine norm_ (a' := ?_) ?_ ?_
                   rotate_left
                   ·show Act.put _ (some 103) _ = _
                    simp only [Act.put, zp, zq, zr, i64_w, i32_w]
                    rfl
                   refine zu 17 (some 104) #[tt, tt, tt, tt, tt, tt, tt, tt, tt, tt, tt, tt, tt, tt, tt, tt, tt, tt, ff, ff] (any_of HT_.out (by kernel_rfl)) ?_
                   refine zu 18 (some 105) #[tt, tt, tt, tt, tt, tt, tt, tt, tt, tt, tt, tt, tt, tt, tt, tt, tt, tt, tt, ff] (any_of HT_.out (by kernel_rfl)) ?_
                   refine zu 19 (some 106) #[tt, tt, tt, tt, tt, tt, tt, tt, tt, tt, tt, tt, tt, tt, tt, tt, tt, tt, tt, tt] (any_of HT_.out (by kernel_rfl)) ?_
                   refine done_ (done_of HT_.out (by kernel_rfl)) ?_
                   try go_wp2
                   go_meet
                   case rel => exact ⟨_, ((cl != (wrap64 (ch - 1)))), (by first | rfl | (simp; done) | (simp [*]; done)), H', ⟨by have := cQ.out; have := cR.out; have := cg.out; first | omega | exact Nat.le_refl _⟩, ⟨zT ae⟩, ⟨zT ag⟩, ⟨zk aa⟩, ⟨zk af⟩, ⟨zk an⟩, ⟨zb HB⟩⟩
                  ·rw [if_neg c0] at H
                   have cA : ((aA.length : Int) == (wrap64 ((wrap64 (((rd_L2 ab ac).length : Int) - 1)) - ah))) = false := beq_eq_false_iff_ne.mpr c0
                   have cB : ((aA.length : Int) != (wrap64 ((wrap64 (((rd_L2 ab ac).length : Int) - 1)) - ah))) = true := bne_iff_ne.mpr c0
                   exact absurd (H.trans (congrArg some hrt.out)) (by cases kj14 <;> simp [laws_FnStoreTakes.j3])
                 ·rw [if_neg dB] at H
                  exact absurd H (by simp)
                ·rw [if_neg dA] at H
                 exact absurd H (by simp)
               case rest =>
                clear dz
                try clear c1
                try clear c2
                try clear p2
                try clear c3
                try clear c4
                try clear c5
                try clear p6
                try clear c7
                try clear cK
                try clear c8
                try clear p8
                try clear q8
                try clear hx8
                try clear c9
                try clear db
                try clear c10
                try clear cw
                try clear cZ
                try clear ci
                try clear dn
                try clear cx
                try clear c15
                try clear c16
                try clear c19
                try clear c25
                try clear c26
                try clear ct
                try clear bd
                try clear cj
                try clear ck
                try clear dp
                try clear dq
                try clear c35
                try clear c36
                try clear c37
                try clear c38
                try clear dx
                try clear dy
                try clear dA
                try clear cm
                try clear dB
                try clear cU
                try clear c0
                try clear cA
                try clear cB
                try clear bw
                try clear bx
                try clear bB
                try clear bC
                try clear bF
                try clear bG
                try clear bJ
                try clear bK
                try clear bN
                try clear bO
                try clear bR
                try clear bS
                try clear bV
                try clear bW
                try clear bn
                try clear bo
                try clear b6
                try clear b7
                try clear bz
                try clear bA
                try clear bD
                try clear bE
                try clear bH
                try clear bI
                try clear bL
                try clear bM
                try clear bP
                try clear bQ
                try clear bT
                try clear bU
                try clear bX
                try clear bY
                try clear bp
                try clear bq
                try clear b8
                try clear b9
                try clear aH
                try clear aO
                try clear aW
                try clear aX
                try clear aQ
                try clear p2
                try clear p8
                try clear ca
                try clear co
                try clear cq
                try clear cN
                try clear q8
                try clear cb
                try clear cp
                try clear cr
                try clear cO
                obtain ⟨kq, bZ, rfl, HA, cP, ae, ag, aa, af, an, HB⟩ := hcut
                cases kq with
                | zero => exact absurd HA.out (by simp [laws_FnStoreTakes.j3])
                | succ kj46 =>
                 have H := HA.out; clear HA
                 simp only [laws_FnStoreTakes.j3] at H
                 by_cases dU : bZ = true
                 ·subst dU
                  have H1 : (some false) = some r := by rw [if_pos rfl] at H; exact H
                  clear H; have H := H1; clear H1
                  exact absurd (H.trans (congrArg some hrt.out)) (by simp)
                 ·replace dU := Bool.eq_false_iff.mpr dU
                  subst dU
                  have H1 : (laws_FnStoreTakes.l2 kj46 ac ah ((rd_T30 (rd_L2 ab ac) ah).f0) 0 a0_0 ab am ai) = some r := by rw [if_neg (show ¬ (false = true) by decide)] at H; exact H
                  clear H; have H := H1; clear H1; have H' := zK H; clear H
                  go_wp2
                  go_loopg [12] kj46 (fun kq v12 w' => ∃ (al : Int), v12 = .int .i64 al ∧ Aside0 (laws_FnStoreTakes.l2 kq ac ah ((rd_T30 (rd_L2 ab ac) ah).f0) al a0_0 ab am ai = some r) ∧ Aside0 (kq ≤ kj46) ∧ Aside0 (Kd.S (Kd.slice 30 k30) 28 w' w.heap.size (fun k_ => some k_ ≠ ((.slice aN aF.length aM) : Value).ownBlock) (.slice az ai.length ay) ai) ∧ Aside0 (Kd.S (Kd.slice 30 k30) 28 w' w.heap.size (fun k_ => some k_ ≠ ((.slice az ai.length ay) : Value).ownBlock) (.slice aN aF.length aM) aF) ∧ Aside0 (w'.heap[ad]? = some (.cells #[.int .i64 a0_0, (.slice (some ao) ab.length ak)] 24 (0, 0))) ∧ Aside0 (w'.heap[ap]? = some (.cells #[.int .i64 am, (.slice az ai.length ay)] 24 (0, 0))) ∧ Aside0 (w'.heap[ar]? = some (.cells #[.int .i64 aT, (.slice aN aF.length aM)] 24 (0, 0))) ∧ Aside0 (Below w.heap.size w w'))
                  case atStart => exact ⟨(0), (by first | rfl | (simp; done) | (simp [*]; done)), H', ⟨Nat.le_refl _⟩, ⟨zT ae⟩, ⟨zT ag⟩, ⟨zk aa⟩, ⟨zk af⟩, ⟨zk an⟩, ⟨zb HB⟩⟩
                  case round =>
                   clear H'
                   try clear c1
                   try clear c2
                   try clear p2
                   try clear c3
                   try clear c4
                   try clear c5
                   try clear p6
                   try clear c7
                   try clear cK
                   try clear c8
                   try clear p8
                   try clear q8
                   try clear hx8
                   try clear c9
                   try clear db
                   try clear c10
                   try clear cw
                   try clear cZ
                   try clear ci
                   try clear dn
                   try clear cx
                   try clear c15
                   try clear c16
                   try clear c19
                   try clear c25
                   try clear c26
                   try clear ct
                   try clear bd
                   try clear cj
                   try clear ck
                   try clear dp
                   try clear dq
                   try clear c35
                   try clear c36
                   try clear c37
                   try clear c38
                   try clear dx
                   try clear dy
                   try clear dA
                   try clear cm
                   try clear dB
                   try clear cU
                   try clear c0
                   try clear cA
                   try clear cB
                   try clear dU
                   try clear bw
                   try clear bx
                   try clear bB
                   try clear bC
                   try clear bF
                   try clear bG
                   try clear bJ
                   try clear bK
                   try clear bN
                   try clear bO
                   try clear bR
                   try clear bS
                   try clear bV
                   try clear bW
                   try clear bn
                   try clear bo
                   try clear b6
                   try clear b7
                   try clear bz
                   try clear bA
                   try clear bD
                   try clear bE
                   try clear bH
                   try clear bI
                   try clear bL
                   try clear bM
                   try clear bP
                   try clear bQ
                   try clear bT
                   try clear bU
                   try clear bX
                   try clear bY
                   try clear bp
                   try clear bq
                   try clear b8
                   try clear b9
                   try clear aH
                   try clear aO
                   try clear aW
                   try clear aX
                   try clear aQ
                   try clear p2
                   try clear p6
                   try clear p8
                   try clear ca
                   try clear co
                   try clear cq
                   try clear cN
                   try clear q8
                   try clear cb
                   try clear cp
                   try clear cr
                   try clear cO
                   obtain ⟨al, rfl, HA, dV, ae, ag, aa, af, an, HB⟩ := hrel
                   cases gk with
                   | zero => exact absurd HA.out (by simp [laws_FnStoreTakes.l2])
                   | succ k5 =>
                    have H := HA.out; clear HA
                    simp only [laws_FnStoreTakes.l2] at H
                    by_cases dE : al < (ab.length : Int)
                    ·rw [if_pos dE] at H
                     have dr : decide (al < (ab.length : Int)) = true := decide_eq_true dE
                     clear dE; have H' := zK H; clear H; have hnb59 := aB.out; have hnc59 := aK.out; have hnb60 := aC.out; have hnc60 := aL.out
                     have dg : wr.cell? ⟨ad, 0, none⟩ = some (.int .i64 a0_0) := (blk_cell aa.out 0).trans rfl
                     have dh : wr.cell? ⟨ad, 1, none⟩ = some (.slice (some ao) ab.length ak) := (blk_cell aa.out 1).trans rfl
                     have di := blk_frozen aa.out 0; have dj := blk_frozen aa.out 1
                     go_wp2
                     go_loopg [13] k5 (fun kq v13 w' => ∃ (aq : Int), v13 = .int .i64 aq ∧ Aside0 (laws_FnStoreTakes.l3 kq ac ah ((rd_T30 (rd_L2 ab ac) ah).f0) al aq a0_0 ab am ai = some r) ∧ Aside0 (kq ≤ k5) ∧ Aside0 (Kd.S (Kd.slice 30 k30) 28 w' w.heap.size (fun k_ => some k_ ≠ ((.slice aN aF.length aM) : Value).ownBlock) (.slice az ai.length ay) ai) ∧ Aside0 (Kd.S (Kd.slice 30 k30) 28 w' w.heap.size (fun k_ => some k_ ≠ ((.slice az ai.length ay) : Value).ownBlock) (.slice aN aF.length aM) aF) ∧ Aside0 (w'.heap[ad]? = some (.cells #[.int .i64 a0_0, (.slice (some ao) ab.length ak)] 24 (0, 0))) ∧ Aside0 (w'.heap[ap]? = some (.cells #[.int .i64 am, (.slice az ai.length ay)] 24 (0, 0))) ∧ Aside0 (w'.heap[ar]? = some (.cells #[.int .i64 aT, (.slice aN aF.length aM)] 24 (0, 0))) ∧ Aside0 (Below w.heap.size w w'))
                     case atStart => exact ⟨(0), (by first | rfl | (simp; done) | (simp [*]; done)), H', ⟨Nat.le_refl _⟩, ⟨zT ae⟩, ⟨zT ag⟩, ⟨zk aa⟩, ⟨zk af⟩, ⟨zk an⟩, ⟨zb HB⟩⟩
                     case round =>
                      clear H'
                      try clear c1
                      try clear c2
                      try clear p2
                      try clear c3
                      try clear c4
                      try clear c5
                      try clear c6
                      try clear p6
                      try clear c7
                      try clear cK
                      try clear c8
                      try clear p8
                      try clear q8
                      try clear hx8
                      try clear c9
                      try clear db
                      try clear c10
                      try clear cw
                      try clear cZ
                      try clear ci
                      try clear dn
                      try clear cx
                      try clear c15
                      try clear c16
                      try clear c19
                      try clear c25
                      try clear c26
                      try clear ct
                      try clear bd
                      try clear cj
                      try clear ck
                      try clear dp
                      try clear dq
                      try clear c35
                      try clear c36
                      try clear c37
                      try clear c38
                      try clear dx
                      try clear dy
                      try clear dA
                      try clear cm
                      try clear dB
                      try clear cU
                      try clear c0
                      try clear cA
                      try clear cB
                      try clear dU
                      try clear dE
                      try clear dr
                      try clear c59
                      try clear c60
                      try clear bw
                      try clear bx
                      try clear bB
                      try clear bC
                      try clear bF
                      try clear bG
                      try clear bJ
                      try clear bK
                      try clear bN
                      try clear bO
                      try clear bR
                      try clear bS
                      try clear bV
                      try clear bW
                      try clear bn
                      try clear bo
                      try clear dg
                      try clear dh
                      try clear b6
                      try clear b7
                      try clear bz
                      try clear bA
                      try clear bD
                      try clear bE
                      try clear bH
                      try clear bI
                      try clear bL
                      try clear bM
                      try clear bP
                      try clear bQ
                      try clear bT
                      try clear bU
                      try clear bX
                      try clear bY
                      try clear bp
                      try clear bq
                      try clear di
                      try clear dj
                      try clear b8
                      try clear b9
                      try clear aH
                      try clear aO
                      try clear aW
                      try clear aX
                      try clear aQ
                      try clear p2
                      try clear p6
                      try clear p8
                      try clear ca
                      try clear co
                      try clear cq
                      try clear cN
                      try clear q8
                      try clear cb
                      try clear cp
                      try clear cr
                      try clear cO
                      obtain ⟨aq, rfl, HA, HK6, ae, ag, aa, af, an, HB⟩ := hrel
                      cases gk with
                      | zero => exact absurd HA.out (by simp [laws_FnStoreTakes.l3])
                      | succ k6 =>
                       have H := HA.out; clear HA
                       simp only [laws_FnStoreTakes.l3] at H
                       by_cases c62 : 0 ≤ al
                       ·rw [if_pos c62] at H
                        have c62b0 : decide (0 ≤ al) = true := decide_eq_true c62
                        clear c62
                        by_cases c63 : al < (ab.length : Int)
                        ·rw [if_pos c63] at H
                         have c63b0 : decide (al < (ab.length : Int)) = true := decide_eq_true c63
                         clear c63
                         by_cases dW : aq < ((rd_L2 ab al).length : Int)
                         ·rw [if_pos dW] at H
                          have ed : decide (aq < ((rd_L2 ab al).length : Int)) = true := decide_eq_true dW
                          clear dW
                          by_cases c65 : 0 ≤ aq
                          ·rw [if_pos c65] at H
                           have c65b0 : decide (0 ≤ aq) = true := decide_eq_true c65
                           clear c65; replace H := Option.bind_eq_some_iff.mp H
                           obtain ⟨ce, ee, H⟩ := H
                           replace H : (if (ce == (((rd_T30 (rd_L2 ab al) aq).f0) == ((rd_T30 (rd_L2 ab ac) ah).f0))) = true then (some false) else (laws_FnStoreTakes.l3 k6 ac ah ((rd_T30 (rd_L2 ab ac) ah).f0) al (wrap64 (aq + 1)) a0_0 ab am ai)) = some r := H
                           have A66 := zK ee; clear ee
                           by_cases cV : (ce == (((rd_T30 (rd_L2 ab al) aq).f0) == ((rd_T30 (rd_L2 ab ac) ah).f0))) = true
                           ·rw [if_pos cV] at H
                            have ef : (ce == (((rd_T30 (rd_L2 ab al) aq).f0) == ((rd_T30 (rd_L2 ab ac) ah).f0))) = true := cV
                            (try (have eg : decide (ce = (((rd_T30 (rd_L2 ab al) aq).f0) == ((rd_T30 (rd_L2 ab ac) ah).f0))) = true := by simpa using cV)); (try (have eh : (ce == (((rd_T30 (rd_L2 ab al) aq).f0) == ((rd_T30 (rd_L2 ab ac) ah).f0))) = true := by simpa using cV)); clear cV
                            exact absurd (H.trans (congrArg some hrt.out)) (by simp)
                           ·rw [if_neg cV] at H
                            have ef : (ce == (((rd_T30 (rd_L2 ab al) aq).f0) == ((rd_T30 (rd_L2 ab ac) ah).f0))) = false := by simpa using cV
                            (try (have eg : decide (ce = (((rd_T30 (rd_L2 ab al) aq).f0) == ((rd_T30 (rd_L2 ab ac) ah).f0))) = false := by simpa using cV)); (try (have eh : (ce == (((rd_T30 (rd_L2 ab al) aq).f0) == ((rd_T30 (rd_L2 ab ac) ah).f0))) = false := by simpa using cV)); (try (have c67b3 : ¬ (ce = (((rd_T30 (rd_L2 ab al) aq).f0) == ((rd_T30 (rd_L2 ab ac) ah).f0))) := by simpa using cV)); clear cV; have H' := zK H; clear H; have hnb68 := aB.out; have hnc68 := aK.out; have hnb69 := aC.out; have hnc69 := aL.out
                            have hcz70_0 : wr.cell? ⟨ad, 0, none⟩ = some (.int .i64 a0_0) := (blk_cell aa.out 0).trans rfl
                            have hcz70_1 : wr.cell? ⟨ad, 1, none⟩ = some (.slice (some ao) ab.length ak) := (blk_cell aa.out 1).trans rfl
                            have hfz70_0 := blk_frozen aa.out 0; have hfz70_1 := blk_frozen aa.out 1
                            have cu : 0 ≤ (al : Int) := of_decide_eq_true (by first | (with_reducible assumption) | assumption)
                            have cv : al < (ab.length : Int) := of_decide_eq_true (by first | (with_reducible assumption) | assumption)
                            obtain ⟨cW, dF, dG, dH, aY, bf, bg⟩ := at_L2 ax.out al cu cv
                            obtain rfl : ao = cW := (by injection dH)
                            replace aY := (HB.out.cell (World.block_lt_of_cell? w _ aY)).trans aY
                            have dk := zK bg; have dl := zK bf; clear bg bf; replace cu := eq_true cu; replace cv := eq_true cv
                            try go_wp2
                            have av := zK (Kd.S_drew ae.out)
                            have aw := zK (Kd.S_drew ag.out)
                            have aR := zK (zD aa.out)
                            have aS := zK (zD af.out)
                            have a7 := zK (zD an.out)
                            have a8 := zK (zE HB.out)
                            clear ae ag aa af an HB; have ae := av; have ag := aw; have aa := aR; have af := aS; have an := a7; have HB := a8; clear av aw aR aS a7 a8
                            have dI : 0 ≤ (al : Int) := of_decide_eq_true (by first | (with_reducible assumption) | assumption)
                            have dJ : al < (ab.length : Int) := of_decide_eq_true (by first | (with_reducible assumption) | assumption)
                            obtain ⟨ei, A868_0, cX, e868, a4, cE, cF⟩ := at_L2 ax.out al dI dJ
                            have b0 := a4
                            obtain rfl : ao = ei := (by injection e868)
                            replace a4 := (HB.out.cell (World.block_lt_of_cell? w _ a4)).trans a4
                            have cG := zK cF; have HC868_0 := zK cE; clear cF cE; replace dI := eq_true dI; replace dJ := eq_true dJ
                            have dK : 0 ≤ (aq : Int) := of_decide_eq_true (by first | (with_reducible assumption) | assumption)
                            have dL : aq < ((rd_L2 ab al).length : Int) := of_decide_eq_true (by first | (with_reducible assumption) | assumption)
                            obtain ⟨bh, e869, bi, bj⟩ := at_T30 cG.out aq dK dL
                            have b1 := bj; have b2 := bi
                            cases e869
                            replace bi := (HB.out.cell (World.block_lt_of_cell? w _ bi)).trans bi
                            replace bj := (HB.out.cell (World.block_lt_of_cell? w _ bj)).trans bj
                            replace dK := eq_true dK; replace dL := eq_true dL
                            have dM : 0 ≤ (al : Int) := of_decide_eq_true (by first | (with_reducible assumption) | assumption)
                            have dN : al < (ab.length : Int) := of_decide_eq_true (by first | (with_reducible assumption) | assumption)
                            obtain ⟨ej, A871_0, c871_0, e871, a5, cH, cI⟩ := at_L2 ax.out al dM dN
                            have b3 := a5
                            obtain rfl : ao = ej := (by injection e871)
                            replace a5 := (HB.out.cell (World.block_lt_of_cell? w _ a5)).trans a5
                            have cJ := zK cI; have HC871_0 := zK cH; clear cI cH; replace dM := eq_true dM; replace dN := eq_true dN
                            have ea_ := Option.some.inj (a4.symm.trans a5)
                            injection ea_ with ea_ en_ ec_
                            subst ea_; subst ec_; clear en_
                            have dO : 0 ≤ (aq : Int) := of_decide_eq_true (by first | (with_reducible assumption) | assumption)
                            have dP : aq < ((rd_L2 ab al).length : Int) := of_decide_eq_true (by first | (with_reducible assumption) | assumption)
                            obtain ⟨ek, e872, bk, bl⟩ := at_T30 cJ.out aq dO dP
                            have b4 := bl; have b5 := bk
                            obtain rfl : bh = ek := (by injection e872)
                            replace bk := (HB.out.cell (World.block_lt_of_cell? w _ bk)).trans bk
                            replace bl := (HB.out.cell (World.block_lt_of_cell? w _ bl)).trans bl
                            replace dO := eq_true dO; replace dP := eq_true dP
                            refine start_ (n := 22) (S := fun w' => w'.cell? ⟨ap, 0, none⟩ = some (.int .i64 am) ∧ w'.cell? ⟨ap, 1, none⟩ = some (.slice az ai.length ay) ∧ w'.cell? ⟨ad, 0, none⟩ = some (.int .i64 a0_0) ∧ w'.cell? ⟨ad, 1, none⟩ = some (.slice (some ao) ab.length ak) ∧ w'.cell? (ao.add (al).toNat) = some (.slice (some bh) (rd_L2 ab al).length cX) ∧ w'.cell? (bh.add ((aq).toNat * 2)) = some (.int .i64 ((rd_T30 (rd_L2 ab al) aq).f0)) ∧ w'.cell? ⟨(bh.add ((aq).toNat * 2)).block, (bh.add ((aq).toNat * 2)).off + 1, none⟩ = some (.int .i64 ((rd_T30 (rd_L2 ab al) aq).f1)) ∧ w'.cell? (ao.add (al).toNat) = some (.slice (some bh) (rd_L2 ab al).length cX) ∧ w'.cell? (bh.add ((aq).toNat * 2)) = some (.int .i64 ((rd_T30 (rd_L2 ab al) aq).f0)) ∧ w'.cell? ⟨(bh.add ((aq).toNat * 2)).block, (bh.add ((aq).toNat * 2)).off + 1, none⟩ = some (.int .i64 ((rd_T30 (rd_L2 ab al) aq).f1))) (ds := []) #[ff, ff, ff, ff, ff, ff, ff, ff, ff, ff, ff, ff, ff, ff, ff, ff, ff, ff, ff, ff, ff, ff] (by kernel_rfl) rfl rfl ⟨(blk_cell af.out 0).trans rfl, (blk_cell af.out 1).trans rfl, (blk_cell aa.out 0).trans rfl, (blk_cell aa.out 1).trans rfl, ((HB.out.cell (World.block_lt_of_cell? w _ b0)).trans b0), ((HB.out.cell (World.block_lt_of_cell? w _ b2)).trans b2), ((HB.out.cell (World.block_lt_of_cell? w _ b1)).trans b1), ((HB.out.cell (World.block_lt_of_cell? w _ b3)).trans b3), ((HB.out.cell (World.block_lt_of_cell? w _ b5)).trans b5), ((HB.out.cell (World.block_lt_of_cell? w _ b4)).trans b4)⟩ (fun hHeld => ?_); refine with_tabW laws_FnStoreTakes.tab25 laws_FnStoreTakes.bits25 (fun HT_ HW_ => ?_)
                            generalize wr.drew = w71 at ae ag aa af an HB cG cJ a4 bi bj a5 bk bl hHeld ⊢
                            refine zu 1 (some 125) #[ff, tt, ff, ff, ff, ff, ff, ff, ff, ff, ff, ff, ff, ff, ff, ff, ff, ff, ff, ff, ff, ff] (any_of HT_.out (by kernel_rfl)) ?_
                            refine zu 3 (some 127) #[ff, tt, ff, tt, ff, ff, ff, ff, ff, ff, ff, ff, ff, ff, ff, ff, ff, ff, ff, ff, ff, ff] (any_of HT_.out (by kernel_rfl)) ?_
                            refine zu 6 (some 130) #[ff, tt, ff, tt, ff, ff, tt, ff, ff, ff, ff, ff, ff, ff, ff, ff, ff, ff, ff, ff, ff, ff] (any_of HT_.out (by kernel_rfl)) ?_
                            refine zu 10 (some 134) #[ff, tt, ff, tt, ff, ff, tt, ff, ff, ff, tt, ff, ff, ff, ff, ff, ff, ff, ff, ff, ff, ff] (any_of HT_.out (by kernel_rfl)) ?_
                            refine zu 12 (some 136) #[ff, tt, ff, tt, ff, ff, tt, ff, ff, ff, tt, ff, tt, ff, ff, ff, ff, ff, ff, ff, ff, ff] (any_of HT_.out (by kernel_rfl)) ?_
                            refine zu 15 (some 139) #[ff, tt, ff, tt, ff, ff, tt, ff, ff, ff, tt, ff, tt, ff, ff, tt, ff, ff, ff, ff, ff, ff] (any_of HT_.out (by kernel_rfl)) ?_
                            refine zu 19 (some 143) #[ff, tt, ff, tt, ff, ff, tt, ff, ff, ff, tt, ff, tt, ff, ff, tt, ff, ff, ff, tt, ff, ff] (any_of HT_.out (by kernel_rfl)) ?_
                            refine zt 0 (some 124) #[tt, tt, ff, tt, ff, ff, tt, ff, ff, ff, tt, ff, tt, ff, ff, tt, ff, ff, ff, tt, ff, ff] (take_ofW HT_.out HW_.out (by kernel_rfl)) hHeld ?_
                            refine zt 2 (some 126) #[tt, tt, tt, tt, ff, ff, tt, ff, ff, ff, tt, ff, tt, ff, ff, tt, ff, ff, ff, tt, ff, ff] (take_ofW HT_.out HW_.out (by kernel_rfl)) hHeld ?_
                            refine zu 4 (some 128) #[tt, tt, tt, tt, tt, ff, tt, ff, ff, ff, tt, ff, tt, ff, ff, tt, ff, ff, ff, tt, ff, ff] (any_of HT_.out (by kernel_rfl)) ?_
                            refine zt 5 (some 129) #[tt, tt, tt, tt, tt, tt, tt, ff, ff, ff, tt, ff, tt, ff, ff, tt, ff, ff, ff, tt, ff, ff] (take_ofW HT_.out HW_.out (by kernel_rfl)) hHeld ?_
                            refine zu 7 (some 131) #[tt, tt, tt, tt, tt, tt, tt, tt, ff, ff, tt, ff, tt, ff, ff, tt, ff, ff, ff, tt, ff, ff] (any_of HT_.out (by kernel_rfl)) ?_
                            refine zt 8 (some 132) #[tt, tt, tt, tt, tt, tt, tt, tt, tt, ff, tt, ff, tt, ff, ff, tt, ff, ff, ff, tt, ff, ff] (take_ofW HT_.out HW_.out (by kernel_rfl)) hHeld ?_
                            refine zt 11 (some 135) #[tt, tt, tt, tt, tt, tt, tt, tt, tt, ff, tt, tt, tt, ff, ff, tt, ff, ff, ff, tt, ff, ff] (take_ofW HT_.out HW_.out (by kernel_rfl)) hHeld ?_
                            refine zu 13 (some 137) #[tt, tt, tt, tt, tt, tt, tt, tt, tt, ff, tt, tt, tt, tt, ff, tt, ff, ff, ff, tt, ff, ff] (any_of HT_.out (by kernel_rfl)) ?_
                            refine zt 14 (some 138) #[tt, tt, tt, tt, tt, tt, tt, tt, tt, ff, tt, tt, tt, tt, tt, tt, ff, ff, ff, tt, ff, ff] (take_ofW HT_.out HW_.out (by kernel_rfl)) hHeld ?_
                            refine zu 16 (some 140) #[tt, tt, tt, tt, tt, tt, tt, tt, tt, ff, tt, tt, tt, tt, tt, tt, tt, ff, ff, tt, ff, ff] (any_of HT_.out (by kernel_rfl)) ?_
                            refine zu 17 (some 141) #[tt, tt, tt, tt, tt, tt, tt, tt, tt, ff, tt, tt, tt, tt, tt, tt, tt, tt, ff, tt, ff, ff] (any_of HT_.out (by kernel_rfl)) ?_
                            refine zt 18 (some 142) #[tt, tt, tt, tt, tt, tt, tt, tt, tt, ff, tt, tt, tt, tt, tt, tt, tt, tt, tt, tt, ff, ff] (take_ofW HT_.out HW_.out (by kernel_rfl)) hHeld ?_
                            refine zu 20 (some 144) #[tt, tt, tt, tt, tt, tt, tt, tt, tt, ff, tt, tt, tt, tt, tt, tt, tt, tt, tt, tt, tt, ff] (any_of HT_.out (by kernel_rfl)) ?_
                            refine one_ (i := 9) (N := some 133) #[tt, tt, tt, tt, tt, tt, tt, tt, tt, tt, tt, tt, tt, tt, tt, tt, tt, tt, tt, tt, tt, ff] rfl rfl (one_of HT_.out (by kernel_rfl)) (by decide) (fun K hK => ?_)
                            refine goes_ Try.func40 (by kernel_rfl) rfl #[.agg #[.int .i64 am, .slice az ai.length ay], .agg #[.int .i64 ((rd_T30 (rd_L2 ab al) aq).f0), .int .i64 ((rd_T30 (rd_L2 ab al) aq).f1)]] (by rfl) rfl rfl (by (try simp only [List.map_toArray, List.map_cons, List.map_nil]); first | done | rfl | (simp only [List.length_drop, List.length_take]; rfl)) ?_
                            with_reducible refine (laws_inStore.calls k6 am _ _ ai ((rd_T30 (rd_L2 ab al) aq).f0) ((rd_T30 (rd_L2 ab al) aq).f1) ce _ ?side1 ?side2 A66.out).mono ?_
                            (case side1 => repeat (first | exact (Kd.S_reads' ae.out).2.2 | (with_reducible refine Kd.C_alloc ?_ _) | (with_reducible refine Kd.C_drewN ?_ _) | (with_reducible refine Kd.C_drew ?_)))
                            (case side2 => exact (Kd.S_reads' ae.out).2.1)
                            rintro e w72 ⟨rfl, hb⟩
                            refine ⟨_, rfl, ?_⟩
                            have av := zK (Kd.S_below (zT ae) hb)
                            have aw := zK (Kd.S_below (zT ag) hb)
                            have aR := zK (blk_below (g := ad) (o := .cells #[.int .i64 a0_0, .slice (some ao) ab.length ak] 24 (0, 0)) (zk aa) hb)
                            have aS := zK (blk_below (g := ap) (o := .cells #[.int .i64 am, .slice az ai.length ay] 24 (0, 0)) (zk af) hb)
                            have a7 := zK (blk_below (g := ar) (o := .cells #[.int .i64 aT, .slice aN aF.length aM] 24 (0, 0)) (zk an) hb)
                            have a8 := zK (below_step (zb HB) hb)
                            clear ae ag aa af an HB; have ae := av; have ag := aw; have aa := aR; have af := aS; have an := a7; have HB := a8; clear av aw aR aS a7 a8; (try clear hb); (try clear hb2); (try clear hk); (try clear hi)
                            refine hK.out _ _ ⟨(blk_cell af.out 0).trans rfl, (blk_cell af.out 1).trans rfl, (blk_cell aa.out 0).trans rfl, (blk_cell aa.out 1).trans rfl, ((HB.out.cell (World.block_lt_of_cell? w _ b0)).trans b0), ((HB.out.cell (World.block_lt_of_cell? w _ b2)).trans b2), ((HB.out.cell (World.block_lt_of_cell? w _ b1)).trans b1), ((HB.out.cell (World.block_lt_of_cell? w _ b3)).trans b3), ((HB.out.cell (World.block_lt_of_cell? w _ b5)).trans b5), ((HB.out.cell (World.block_lt_of_cell? w _ b4)).trans b4)⟩ (fun hHeld => ?_)
                            clear hK K
                            refine norm_ (a' := ?_) ?_ ?_
                            rotate_left
                            ·show Act.put _ (some 133) _ = _
                             simp only [Act.put, zp, zq, zr, i64_w, i32_w]
                             rfl
                            refine zu 21 (some 145) #[tt, tt, tt, tt, tt, tt, tt, tt, tt, tt, tt, tt, tt, tt, tt, tt, tt, tt, tt, tt, tt, tt] (any_of HT_.out (by kernel_rfl)) ?_
                            refine done_ (done_of HT_.out (by kernel_rfl)) ?_
                            try go_wp2
                            go_roundg k6
                            case measure => have := cQ.out; have := cR.out; have := cg.out; have := cP.out; have := dV.out; have := HK6.out; omega
                            case rel => exact ⟨(wrap64 (aq + 1)), (by first | rfl | (simp; done) | (simp [*]; done)), H', ⟨by have := cQ.out; have := cR.out; have := cg.out; have := cP.out; have := dV.out; have := HK6.out; omega⟩, ⟨zT ae⟩, ⟨zT ag⟩, ⟨zk aa⟩, ⟨zk af⟩, ⟨zk an⟩, ⟨zb HB⟩⟩
                          ·rw [if_neg c65] at H
                           exact absurd H (by simp)
                         ·rw [if_neg dW] at H
                          have ed : decide (aq < ((rd_L2 ab al).length : Int)) = false := decide_eq_false dW
                          clear dW; have H' := zK H; clear H; have hnb73 := aB.out; have hnc73 := aK.out; have hnb74 := aC.out; have hnc74 := aL.out
                          have hcz75_0 : wr.cell? ⟨ad, 0, none⟩ = some (.int .i64 a0_0) := (blk_cell aa.out 0).trans rfl
                          have hcz75_1 : wr.cell? ⟨ad, 1, none⟩ = some (.slice (some ao) ab.length ak) := (blk_cell aa.out 1).trans rfl
                          have hfz75_0 := blk_frozen aa.out 0; have hfz75_1 := blk_frozen aa.out 1
                          have cu : 0 ≤ (al : Int) := of_decide_eq_true (by first | (with_reducible assumption) | assumption)
                          have cv : al < (ab.length : Int) := of_decide_eq_true (by first | (with_reducible assumption) | assumption)
                          obtain ⟨cW, dF, dG, dH, aY, bf, bg⟩ := at_L2 ax.out al cu cv
                          obtain rfl : ao = cW := (by injection dH)
                          replace aY := (HB.out.cell (World.block_lt_of_cell? w _ aY)).trans aY
                          have dk := zK bg; have dl := zK bf; clear bg bf; replace cu := eq_true cu; replace cv := eq_true cv
                          go_wp2
                          go_roundg k6
                          case measure => have := cQ.out; have := cR.out; have := cg.out; have := cP.out; have := dV.out; have := HK6.out; omega
                          case rel => exact ⟨(wrap64 (al + 1)), (by first | rfl | (simp; done) | (simp [*]; done)), H', ⟨by have := cQ.out; have := cR.out; have := cg.out; have := cP.out; have := dV.out; have := HK6.out; omega⟩, ⟨zT ae⟩, ⟨zT ag⟩, ⟨zk aa⟩, ⟨zk af⟩, ⟨zk an⟩, ⟨zb HB⟩⟩
                        ·rw [if_neg c63] at H
                         exact absurd H (by simp)
                       ·rw [if_neg c62] at H
                        exact absurd H (by simp)
                    ·rw [if_neg dE] at H
                     have dr : decide (al < (ab.length : Int)) = false := decide_eq_false dE
                     clear dE; have H' := zK H; clear H; have hnb76 := aB.out; have hnc76 := aK.out; have hnb77 := aC.out; have hnc77 := aL.out
                     have hcz78_0 : wr.cell? ⟨ad, 0, none⟩ = some (.int .i64 a0_0) := (blk_cell aa.out 0).trans rfl
                     have hcz78_1 : wr.cell? ⟨ad, 1, none⟩ = some (.slice (some ao) ab.length ak) := (blk_cell aa.out 1).trans rfl
                     have hfz78_0 := blk_frozen aa.out 0; have hfz78_1 := blk_frozen aa.out 1
                     go_wp2
                     go_roundg k5
                     case measure => have := cQ.out; have := cR.out; have := cg.out; have := cP.out; have := dV.out; omega
                     case rel => exact ⟨(wrap64 (ah + 1)), (by first | rfl | (simp; done) | (simp [*]; done)), H', ⟨by have := cQ.out; have := cR.out; have := cg.out; have := cP.out; have := dV.out; omega⟩, ⟨zk aa⟩, ⟨zb HB⟩⟩
              ·replace dy := Bool.eq_false_iff.mpr dy
               subst dy
               have H1 : ((laws_sameStore.f kj14 am ai a0_0 ab).bind fun cM => (if cM = true then (laws_FnStoreTakes.l1 kj14 ac (wrap64 (ah + 1)) a0_0 ab) else (some false))) = some r := by rw [if_neg (show ¬ (false = true) by decide)] at H; exact H
               clear H; have H := H1; clear H1; replace H := Option.bind_eq_some_iff.mp H
               obtain ⟨cM, el, H⟩ := H
               replace H : (if cM = true then (laws_FnStoreTakes.l1 kj14 ac (wrap64 (ah + 1)) a0_0 ab) else (some false)) = some r := H
               have A79 := zK el; clear el
               by_cases c80 : cM = true
               ·subst c80
                have H1 : (laws_FnStoreTakes.l1 kj14 ac (wrap64 (ah + 1)) a0_0 ab) = some r := by rw [if_pos rfl] at H; exact H
                clear H; have H := H1; clear H1; have H' := zK H; clear H; have hnb81 := aK.out; have hnc81 := aB.out; have hnb82 := aV.out; have hnc82 := br.out
                have hcz83_0 : wc.cell? ⟨ap, 0, none⟩ = some (.int .i64 am) := (blk_cell af.out 0).trans rfl
                have hcz83_1 : wc.cell? ⟨ap, 1, none⟩ = some (.slice az ai.length ay) := (blk_cell af.out 1).trans rfl
                have hfz83_0 := blk_frozen af.out 0; have hfz83_1 := blk_frozen af.out 1; have hnb84 := aC.out; have hnc84 := aL.out
                have hcz85_0 : wc.cell? ⟨ad, 0, none⟩ = some (.int .i64 a0_0) := (blk_cell aa.out 0).trans rfl
                have hcz85_1 : wc.cell? ⟨ad, 1, none⟩ = some (.slice (some ao) ab.length ak) := (blk_cell aa.out 1).trans rfl
                have hfz85_0 := blk_frozen aa.out 0; have hfz85_1 := blk_frozen aa.out 1
                go_wp2_with (first | ((with_reducible refine gate_callee (f := 33) rfl ?_); refine goesL_ (some 85) rfl rfl Try.func33 (by kernel_rfl) rfl #[.agg #[.int .i64 am, .slice az ai.length ay], .agg #[.int .i64 a0_0, .slice (some ao) ab.length ak]] rfl (by (try simp only [List.map_toArray, List.map_cons, List.map_nil]); first | done | rfl | (simp only [List.length_drop, List.length_take]; rfl)) ?_; (with_reducible refine (laws_sameStore.calls kj14 am _ _ ai a0_0 _ _ ab true _ ?side1 ?side2 ?side3 ?side4 A79.out).mono ?_); (case side1 => repeat (first | exact (Kd.S_reads' ae.out).2.2 | (with_reducible refine Kd.C_alloc ?_ _) | (with_reducible refine Kd.C_drewN ?_ _) | (with_reducible refine Kd.C_drew ?_))); (case side2 => exact (Kd.S_reads' ae.out).2.1); (case side3 => repeat (first | exact (Kd.C_below ax.out HB.out) | (with_reducible refine Kd.C_alloc ?_ _) | (with_reducible refine Kd.C_drewN ?_ _) | (with_reducible refine Kd.C_drew ?_))); (case side4 => exact aJ.out); rintro e w86 ⟨rfl, hb⟩; refine ⟨_, rfl, ?_⟩; have av := zK (Kd.R_below (zR be) hb); have aw := zK (Kd.S_below (zT ae) hb); have aR := zK (Kd.S_below (zT ag) hb); have aS := zK (blk_below (g := ad) (o := .cells #[.int .i64 a0_0, .slice (some ao) ab.length ak] 24 (0, 0)) (zk aa) hb); have a7 := zK (blk_below (g := ap) (o := .cells #[.int .i64 am, .slice az ai.length ay] 24 (0, 0)) (zk af) hb); have a8 := zK (blk_below (g := ar) (o := .cells #[.int .i64 aT, .slice aN aF.length aM] 24 (0, 0)) (zk an) hb); have bt := zK (below_step (zb HB) hb); clear be; clear ae; clear ag; clear aa; clear af; clear an; clear HB; have be := av; have ae := aw; have ag := aR; have aa := aS; have af := a7; have an := a8; have HB := bt; clear av aw aR aS a7 a8 bt; (try clear hb)))
                go_roundg kj14
                case measure => have := cQ.out; have := cR.out; have := cg.out; omega
                case rel => exact ⟨(wrap64 (ah + 1)), (by first | rfl | (simp; done) | (simp [*]; done)), H', ⟨by have := cQ.out; have := cR.out; have := cg.out; omega⟩, ⟨zk aa⟩, ⟨zb HB⟩⟩
               ·replace c80 := Bool.eq_false_iff.mpr c80
                subst c80
                have H1 : (some false) = some r := by rw [if_neg (show ¬ (false = true) by decide)] at H; exact H
                clear H; have H := H1; clear H1
                exact absurd (H.trans (congrArg some hrt.out)) (by simp)
          ·rw [if_neg dn] at H
           exact absurd H (by simp)
         ·rw [if_neg cZ] at H
          have ci : decide (ah < ((rd_L2 ab ac).length : Int)) = false := decide_eq_false cZ
          clear cZ; have H' := zK H; clear H
          have hcz87_0 : wr.cell? ⟨ad, 0, none⟩ = some (.int .i64 a0_0) := (blk_cell aa.out 0).trans rfl
          have hcz87_1 : wr.cell? ⟨ad, 1, none⟩ = some (.slice au ab.length ak) := (blk_cell aa.out 1).trans rfl
          have hfz87_0 := blk_frozen aa.out 0; have hfz87_1 := blk_frozen aa.out 1
          have ca : 0 ≤ (ac : Int) := of_decide_eq_true (by first | (with_reducible assumption) | assumption)
          have cb : ac < (ab.length : Int) := of_decide_eq_true (by first | (with_reducible assumption) | assumption)
          obtain ⟨ao, du, dv, dw, aH, bb, bc⟩ := at_L2 ax.out ac ca cb
          cases dw
          replace aH := (HB.out.cell (World.block_lt_of_cell? w _ aH)).trans aH
          have dc := zK bc; have dd := zK bb; clear bc bb; replace ca := eq_true ca; replace cb := eq_true cb
          go_wp2
          go_roundg k2
          case measure => have := cQ.out; have := cR.out; omega
          case rel => exact ⟨(wrap64 (ac + 1)), (by first | rfl | (simp; done) | (simp [*]; done)), H', ⟨by have := cQ.out; have := cR.out; omega⟩, ⟨zk aa⟩, ⟨zb HB⟩⟩
        ·rw [if_neg c10] at H
         exact absurd H (by simp)
       ·rw [if_neg c9] at H
        exact absurd H (by simp)
    ·rw [if_neg c7] at H
     have cK : decide (ac < (ab.length : Int)) = false := decide_eq_false c7
     clear c7; replace H := Option.bind_eq_some_iff.mp H
     obtain ⟨⟨a1, bv⟩, em, H⟩ := H
     replace H : ((spec_HopsOf.f k1 a0_0 ab).bind fun bt875 => (if (bv == bt875.2) = true then (if a1 = bt875.1 then ((impl_Buried.f k1 a0_0 ab).bind fun bs => ((spec_Buried.f k1 a0_0 ab).bind fun bm => (if bs = bm then ((impl_NextOut.f k1 a0_0 ab).bind fun a2 => ((spec_NextOut.f k1 a0_0 ab).bind fun a0 => (if a2 = a0 then (if bt875.2 = true then ((impl_Buried.f k1 a0_0 ab).bind fun a6 => (some (decide (a1 ≥ a6)))) else (some true)) else (some false)))) else (some false)))) else (some false)) else (some false))) = some r := H
     have A88 := zK em; clear em; replace H := Option.bind_eq_some_iff.mp H
     obtain ⟨⟨cn, ba⟩, en, H⟩ := H
     replace H : (if (bv == ba) = true then (if a1 = cn then ((impl_Buried.f k1 a0_0 ab).bind fun bs => ((spec_Buried.f k1 a0_0 ab).bind fun bm => (if bs = bm then ((impl_NextOut.f k1 a0_0 ab).bind fun a2 => ((spec_NextOut.f k1 a0_0 ab).bind fun a0 => (if a2 = a0 then (if ba = true then ((impl_Buried.f k1 a0_0 ab).bind fun a6 => (some (decide (a1 ≥ a6)))) else (some true)) else (some false)))) else (some false)))) else (some false)) else (some false)) = some r := H
     have A89 := zK en; clear en
     by_cases cY : (bv == ba) = true
     ·rw [if_pos cY] at H
      have eo : (bv == ba) = true := cY
      (try (have ep : decide (bv = ba) = true := by simpa using cY)); (try (have er : (bv == ba) = true := by simpa using cY)); clear cY
      by_cases dQ : a1 = cn
      ·rw [if_pos dQ] at H
       have es : (a1 == cn) = true := beq_iff_eq.mpr dQ
       have et : (a1 != cn) = false := bne_eq_false_iff_eq.mpr dQ
       clear dQ; replace H := Option.bind_eq_some_iff.mp H
       obtain ⟨bs, eu, H⟩ := H
       replace H : ((spec_Buried.f k1 a0_0 ab).bind fun bm => (if bs = bm then ((impl_NextOut.f k1 a0_0 ab).bind fun a2 => ((spec_NextOut.f k1 a0_0 ab).bind fun a0 => (if a2 = a0 then (if ba = true then ((impl_Buried.f k1 a0_0 ab).bind fun a6 => (some (decide (a1 ≥ a6)))) else (some true)) else (some false)))) else (some false))) = some r := H
       have A92 := zK eu; clear eu; replace H := Option.bind_eq_some_iff.mp H
       obtain ⟨bm, ew, H⟩ := H
       replace H : (if bs = bm then ((impl_NextOut.f k1 a0_0 ab).bind fun a2 => ((spec_NextOut.f k1 a0_0 ab).bind fun a0 => (if a2 = a0 then (if ba = true then ((impl_Buried.f k1 a0_0 ab).bind fun a6 => (some (decide (a1 ≥ a6)))) else (some true)) else (some false)))) else (some false)) = some r := H
       have A93 := zK ew; clear ew
       by_cases dR : bs = bm
       ·rw [if_pos dR] at H
        have ex : (bs == bm) = true := beq_iff_eq.mpr dR
        have ey : (bs != bm) = false := bne_eq_false_iff_eq.mpr dR
        clear dR; replace H := Option.bind_eq_some_iff.mp H
        obtain ⟨a2, ez, H⟩ := H
        replace H : ((spec_NextOut.f k1 a0_0 ab).bind fun a0 => (if a2 = a0 then (if ba = true then ((impl_Buried.f k1 a0_0 ab).bind fun a6 => (some (decide (a1 ≥ a6)))) else (some true)) else (some false))) = some r := H
        have A95 := zK ez; clear ez; replace H := Option.bind_eq_some_iff.mp H
        obtain ⟨a0, eA, H⟩ := H
        replace H : (if a2 = a0 then (if ba = true then ((impl_Buried.f k1 a0_0 ab).bind fun a6 => (some (decide (a1 ≥ a6)))) else (some true)) else (some false)) = some r := H
        have A96 := zK eA; clear eA
        by_cases dS : a2 = a0
        ·rw [if_pos dS] at H
         have eB : (a2 == a0) = true := beq_iff_eq.mpr dS
         have eC : (a2 != a0) = false := bne_eq_false_iff_eq.mpr dS
         clear dS
         by_cases c98 : ba = true
         ·subst c98
          have H1 : ((impl_Buried.f k1 a0_0 ab).bind fun a6 => (some (decide (a1 ≥ a6)))) = some r := by rw [if_pos rfl] at H; exact H
          clear H; have H := H1; clear H1; replace H := Option.bind_eq_some_iff.mp H
          obtain ⟨a6, eD, H⟩ := H
          replace H : (some (decide (a1 ≥ a6))) = some r := H
          have A99 := zK eD; clear eD; obtain rfl := Option.some.inj H
          have eE : wr.cell? ⟨ad, 0, none⟩ = some (.int .i64 a0_0) := (blk_cell aa.out 0).trans rfl
          have eF : wr.cell? ⟨ad, 1, none⟩ = some (.slice au ab.length ak) := (blk_cell aa.out 1).trans rfl
          have eG := blk_frozen aa.out 0; have eH := blk_frozen aa.out 1
          try go_wp2_with (first | ((with_reducible refine gate_callee (f := 41) rfl ?_); refine goesL_ (some 148) rfl rfl Try.func41 (by kernel_rfl) rfl #[.agg #[.int .i64 a0_0, .slice au ab.length ak]] rfl (by (try simp only [List.map_toArray, List.map_cons, List.map_nil]); first | done | rfl | (simp only [List.length_drop, List.length_take]; rfl)) ?_; (with_reducible refine (impl_HopsOf.calls k1 a0_0 (fun k_ => k_ < w.heap.size) _ _ ab a1 bv _ ?side1 A88.out).mono ?_); (case side1 => exact Kd.V_mk aJ.out (Kd.F_below (Kd.C_F (Kd.heap_slice 30 k30_heap) ax.out) (zb HB))); rintro e eI ⟨rfl, hb⟩; refine ⟨_, rfl, ?_⟩; have av := zK (blk_below (g := ad) (o := .cells #[.int .i64 a0_0, .slice au ab.length ak] 24 (0, 0)) (zk aa) hb); have aw := zK (below_step (zb HB) hb); clear aa; clear HB; have aa := av; have HB := aw; clear av aw; (try clear hb); have eJ : eI.cell? ⟨ad, 0, none⟩ = some (.int .i64 a0_0) := (blk_cell aa.out 0).trans rfl; have eK : eI.cell? ⟨ad, 1, none⟩ = some (.slice au ab.length ak) := (blk_cell aa.out 1).trans rfl; have eL := blk_frozen aa.out 0; have eM := blk_frozen aa.out 1) | ((with_reducible refine gate_callee (f := 42) rfl ?_); refine goesL_ (some 153) rfl rfl Try.func42 (by kernel_rfl) rfl #[.agg #[.int .i64 a0_0, .slice au ab.length ak]] rfl (by (try simp only [List.map_toArray, List.map_cons, List.map_nil]); first | done | rfl | (simp only [List.length_drop, List.length_take]; rfl)) ?_; (with_reducible refine (spec_HopsOf.calls k1 a0_0 (fun k_ => k_ < w.heap.size) _ _ ab cn true _ ?side1 A89.out).mono ?_); (case side1 => exact Kd.V_mk aJ.out (Kd.F_below (Kd.C_F (Kd.heap_slice 30 k30_heap) ax.out) (zb HB))); rintro e w103 ⟨rfl, hb⟩; refine ⟨_, rfl, ?_⟩; have av := zK (blk_below (g := ad) (o := .cells #[.int .i64 a0_0, .slice au ab.length ak] 24 (0, 0)) (zk aa) hb); have aw := zK (below_step (zb HB) hb); clear aa; clear HB; have aa := av; have HB := aw; clear av aw; (try clear hb)))
          have av := zK (zD aa.out)
          have aw := zK (zE HB.out)
          clear aa HB; have aa := av; have HB := aw; clear av aw
          refine start_ (n := 33) (S := fun w' => w'.cell? ⟨ad, 0, none⟩ = some (.int .i64 a0_0) ∧ w'.cell? ⟨ad, 1, none⟩ = some (.slice au ab.length ak)) (ds := []) #[ff, ff, ff, ff, ff, ff, ff, ff, ff, ff, ff, ff, ff, ff, ff, ff, ff, ff, ff, ff, ff, ff, ff, ff, ff, ff, ff, ff, ff, ff, ff, ff, ff] (by kernel_rfl) rfl rfl ⟨(blk_cell aa.out 0).trans rfl, (blk_cell aa.out 1).trans rfl⟩ (fun hHeld => ?_); refine with_tabW laws_FnStoreTakes.tab29 laws_FnStoreTakes.bits29 (fun HT_ HW_ => ?_)
          generalize w103.drew = w104 at aa HB hHeld ⊢
          refine zu 0 (some 156) #[tt, ff, ff, ff, ff, ff, ff, ff, ff, ff, ff, ff, ff, ff, ff, ff, ff, ff, ff, ff, ff, ff, ff, ff, ff, ff, ff, ff, ff, ff, ff, ff, ff] (any_of HT_.out (by kernel_rfl)) ?_
          refine zu 1 (some 157) #[tt, tt, ff, ff, ff, ff, ff, ff, ff, ff, ff, ff, ff, ff, ff, ff, ff, ff, ff, ff, ff, ff, ff, ff, ff, ff, ff, ff, ff, ff, ff, ff, ff] (any_of HT_.out (by kernel_rfl)) ?_
          refine zu 2 (some 158) #[tt, tt, tt, ff, ff, ff, ff, ff, ff, ff, ff, ff, ff, ff, ff, ff, ff, ff, ff, ff, ff, ff, ff, ff, ff, ff, ff, ff, ff, ff, ff, ff, ff] (any_of HT_.out (by kernel_rfl)) ?_
          refine zu 3 (some 159) #[tt, tt, tt, tt, ff, ff, ff, ff, ff, ff, ff, ff, ff, ff, ff, ff, ff, ff, ff, ff, ff, ff, ff, ff, ff, ff, ff, ff, ff, ff, ff, ff, ff] (any_of HT_.out (by kernel_rfl)) ?_
          refine zu 4 (some 160) #[tt, tt, tt, tt, tt, ff, ff, ff, ff, ff, ff, ff, ff, ff, ff, ff, ff, ff, ff, ff, ff, ff, ff, ff, ff, ff, ff, ff, ff, ff, ff, ff, ff] (any_of HT_.out (by kernel_rfl)) ?_
          refine zu 5 (some 161) #[tt, tt, tt, tt, tt, tt, ff, ff, ff, ff, ff, ff, ff, ff, ff, ff, ff, ff, ff, ff, ff, ff, ff, ff, ff, ff, ff, ff, ff, ff, ff, ff, ff] (any_of HT_.out (by kernel_rfl)) ?_
          refine zu 6 (some 162) #[tt, tt, tt, tt, tt, tt, tt, ff, ff, ff, ff, ff, ff, ff, ff, ff, ff, ff, ff, ff, ff, ff, ff, ff, ff, ff, ff, ff, ff, ff, ff, ff, ff] (any_of HT_.out (by kernel_rfl)) ?_
          refine zu 7 (some 163) #[tt, tt, tt, tt, tt, tt, tt, tt, ff, ff, ff, ff, ff, ff, ff, ff, ff, ff, ff, ff, ff, ff, ff, ff, ff, ff, ff, ff, ff, ff, ff, ff, ff] (any_of HT_.out (by kernel_rfl)) ?_
          refine zu 8 (some 164) #[tt, tt, tt, tt, tt, tt, tt, tt, tt, ff, ff, ff, ff, ff, ff, ff, ff, ff, ff, ff, ff, ff, ff, ff, ff, ff, ff, ff, ff, ff, ff, ff, ff] (any_of HT_.out (by kernel_rfl)) ?_
          refine zt 9 (some 165) #[tt, tt, tt, tt, tt, tt, tt, tt, tt, tt, ff, ff, ff, ff, ff, ff, ff, ff, ff, ff, ff, ff, ff, ff, ff, ff, ff, ff, ff, ff, ff, ff, ff] (take_ofW HT_.out HW_.out (by kernel_rfl)) hHeld ?_
          refine zt 11 (some 167) #[tt, tt, tt, tt, tt, tt, tt, tt, tt, tt, ff, tt, ff, ff, ff, ff, ff, ff, ff, ff, ff, ff, ff, ff, ff, ff, ff, ff, ff, ff, ff, ff, ff] (take_ofW HT_.out HW_.out (by kernel_rfl)) hHeld ?_
          refine one_ (i := 10) (N := some 166) #[tt, tt, tt, tt, tt, tt, tt, tt, tt, tt, tt, tt, ff, ff, ff, ff, ff, ff, ff, ff, ff, ff, ff, ff, ff, ff, ff, ff, ff, ff, ff, ff, ff] rfl rfl (one_of HT_.out (by kernel_rfl)) (by decide) (fun K hK => ?_)
          refine goes_ Try.func19 (by kernel_rfl) rfl #[.agg #[.int .i64 a0_0, .slice au ab.length ak]] (by rfl) rfl rfl (by (try simp only [List.map_toArray, List.map_cons, List.map_nil]); first | done | rfl | (simp only [List.length_drop, List.length_take]; rfl)) ?_
          with_reducible refine (impl_Buried.calls k1 a0_0 _ _ ab bs _ ?side1 ?side2 A92.out).mono ?_
          (case side1 => repeat (first | exact (Kd.C_below ax.out HB.out) | (with_reducible refine Kd.C_alloc ?_ _) | (with_reducible refine Kd.C_drewN ?_ _) | (with_reducible refine Kd.C_drew ?_)))
          (case side2 => exact aJ.out)
          rintro e w105 ⟨rfl, hb⟩
          refine ⟨_, rfl, ?_⟩
          have av := zK (blk_below (g := ad) (o := .cells #[.int .i64 a0_0, .slice au ab.length ak] 24 (0, 0)) (zk aa) hb)
          have aw := zK (below_step (zb HB) hb)
          clear aa HB; have aa := av; have HB := aw; clear av aw; (try clear hb); (try clear hb2); (try clear hk); (try clear hi)
          refine hK.out _ _ ⟨(blk_cell aa.out 0).trans rfl, (blk_cell aa.out 1).trans rfl⟩ (fun hHeld => ?_)
          clear hK K
          refine norm_ (a' := ?_) ?_ ?_
          rotate_left
          ·show Act.put _ (some 166) _ = _
           simp only [Act.put, zp, zq, zr, i64_w, i32_w]
           rfl
          refine one_ (i := 12) (N := some 168) #[tt, tt, tt, tt, tt, tt, tt, tt, tt, tt, tt, tt, tt, ff, ff, ff, ff, ff, ff, ff, ff, ff, ff, ff, ff, ff, ff, ff, ff, ff, ff, ff, ff] rfl rfl (one_of HT_.out (by kernel_rfl)) (by decide) (fun K hK => ?_)
          refine goes_ Try.func25 (by kernel_rfl) rfl #[.agg #[.int .i64 a0_0, .slice au ab.length ak]] (by rfl) rfl rfl (by (try simp only [List.map_toArray, List.map_cons, List.map_nil]); first | done | rfl | (simp only [List.length_drop, List.length_take]; rfl)) ?_
          with_reducible refine (spec_Buried.calls k1 a0_0 _ _ ab bm _ ?side1 ?side2 A93.out).mono ?_
          (case side1 => repeat (first | exact (Kd.C_below ax.out HB.out) | (with_reducible refine Kd.C_alloc ?_ _) | (with_reducible refine Kd.C_drewN ?_ _) | (with_reducible refine Kd.C_drew ?_)))
          (case side2 => exact aJ.out)
          rintro e w106 ⟨rfl, hb⟩
          refine ⟨_, rfl, ?_⟩
          have av := zK (blk_below (g := ad) (o := .cells #[.int .i64 a0_0, .slice au ab.length ak] 24 (0, 0)) (zk aa) hb)
          have aw := zK (below_step (zb HB) hb)
          clear aa HB; have aa := av; have HB := aw; clear av aw; (try clear hb); (try clear hb2); (try clear hk); (try clear hi)
          refine hK.out _ _ ⟨(blk_cell aa.out 0).trans rfl, (blk_cell aa.out 1).trans rfl⟩ (fun hHeld => ?_)
          clear hK K
          refine norm_ (a' := ?_) ?_ ?_
          rotate_left
          ·show Act.put _ (some 168) _ = _
           simp only [Act.put, zp, zq, zr, i64_w, i32_w]
           rfl
          refine zu 13 (some 169) #[tt, tt, tt, tt, tt, tt, tt, tt, tt, tt, tt, tt, tt, tt, ff, ff, ff, ff, ff, ff, ff, ff, ff, ff, ff, ff, ff, ff, ff, ff, ff, ff, ff] (any_of HT_.out (by kernel_rfl)) ?_
          refine zu 14 (some 170) #[tt, tt, tt, tt, tt, tt, tt, tt, tt, tt, tt, tt, tt, tt, tt, ff, ff, ff, ff, ff, ff, ff, ff, ff, ff, ff, ff, ff, ff, ff, ff, ff, ff] (any_of HT_.out (by kernel_rfl)) ?_
          refine zu 15 (some 171) #[tt, tt, tt, tt, tt, tt, tt, tt, tt, tt, tt, tt, tt, tt, tt, tt, ff, ff, ff, ff, ff, ff, ff, ff, ff, ff, ff, ff, ff, ff, ff, ff, ff] (any_of HT_.out (by kernel_rfl)) ?_
          refine zt 16 (some 172) #[tt, tt, tt, tt, tt, tt, tt, tt, tt, tt, tt, tt, tt, tt, tt, tt, tt, ff, ff, ff, ff, ff, ff, ff, ff, ff, ff, ff, ff, ff, ff, ff, ff] (take_ofW HT_.out HW_.out (by kernel_rfl)) hHeld ?_
          refine zt 18 (some 174) #[tt, tt, tt, tt, tt, tt, tt, tt, tt, tt, tt, tt, tt, tt, tt, tt, tt, ff, tt, ff, ff, ff, ff, ff, ff, ff, ff, ff, ff, ff, ff, ff, ff] (take_ofW HT_.out HW_.out (by kernel_rfl)) hHeld ?_
          refine one_ (i := 17) (N := some 173) #[tt, tt, tt, tt, tt, tt, tt, tt, tt, tt, tt, tt, tt, tt, tt, tt, tt, tt, tt, ff, ff, ff, ff, ff, ff, ff, ff, ff, ff, ff, ff, ff, ff] rfl rfl (one_of HT_.out (by kernel_rfl)) (by decide) (fun K hK => ?_)
          refine goes_ Try.func24 (by kernel_rfl) rfl #[.agg #[.int .i64 a0_0, .slice au ab.length ak]] (by rfl) rfl rfl (by (try simp only [List.map_toArray, List.map_cons, List.map_nil]); first | done | rfl | (simp only [List.length_drop, List.length_take]; rfl)) ?_
          with_reducible refine (impl_NextOut.calls k1 a0_0 _ _ ab a2 _ ?side1 ?side2 A95.out).mono ?_
          (case side1 => repeat (first | exact (Kd.C_below ax.out HB.out) | (with_reducible refine Kd.C_alloc ?_ _) | (with_reducible refine Kd.C_drewN ?_ _) | (with_reducible refine Kd.C_drew ?_)))
          (case side2 => exact aJ.out)
          rintro e w107 ⟨rfl, hb⟩
          refine ⟨_, rfl, ?_⟩
          have av := zK (blk_below (g := ad) (o := .cells #[.int .i64 a0_0, .slice au ab.length ak] 24 (0, 0)) (zk aa) hb)
          have aw := zK (below_step (zb HB) hb)
          clear aa HB; have aa := av; have HB := aw; clear av aw; (try clear hb); (try clear hb2); (try clear hk); (try clear hi)
          refine hK.out _ _ ⟨(blk_cell aa.out 0).trans rfl, (blk_cell aa.out 1).trans rfl⟩ (fun hHeld => ?_)
          clear hK K
          refine norm_ (a' := ?_) ?_ ?_
          rotate_left
          ·show Act.put _ (some 173) _ = _
           simp only [Act.put, zp, zq, zr, i64_w, i32_w]
           rfl
          refine one_ (i := 19) (N := some 175) #[tt, tt, tt, tt, tt, tt, tt, tt, tt, tt, tt, tt, tt, tt, tt, tt, tt, tt, tt, tt, ff, ff, ff, ff, ff, ff, ff, ff, ff, ff, ff, ff, ff] rfl rfl (one_of HT_.out (by kernel_rfl)) (by decide) (fun K hK => ?_)
          refine goes_ Try.func17 (by kernel_rfl) rfl #[.agg #[.int .i64 a0_0, .slice au ab.length ak]] (by rfl) rfl rfl (by (try simp only [List.map_toArray, List.map_cons, List.map_nil]); first | done | rfl | (simp only [List.length_drop, List.length_take]; rfl)) ?_
          with_reducible refine (spec_NextOut.calls k1 a0_0 _ _ ab a0 _ ?side1 ?side2 A96.out).mono ?_
          (case side1 => repeat (first | exact (Kd.C_below ax.out HB.out) | (with_reducible refine Kd.C_alloc ?_ _) | (with_reducible refine Kd.C_drewN ?_ _) | (with_reducible refine Kd.C_drew ?_)))
          (case side2 => exact aJ.out)
          rintro e w108 ⟨rfl, hb⟩
          refine ⟨_, rfl, ?_⟩
          have av := zK (blk_below (g := ad) (o := .cells #[.int .i64 a0_0, .slice au ab.length ak] 24 (0, 0)) (zk aa) hb)
          have aw := zK (below_step (zb HB) hb)
          clear aa HB; have aa := av; have HB := aw; clear av aw; (try clear hb); (try clear hb2); (try clear hk); (try clear hi)
          refine hK.out _ _ ⟨(blk_cell aa.out 0).trans rfl, (blk_cell aa.out 1).trans rfl⟩ (fun hHeld => ?_)
          clear hK K
          refine norm_ (a' := ?_) ?_ ?_
          rotate_left
          ·show Act.put _ (some 175) _ = _
           simp only [Act.put, zp, zq, zr, i64_w, i32_w]
           rfl
          refine zu 20 (some 176) #[tt, tt, tt, tt, tt, tt, tt, tt, tt, tt, tt, tt, tt, tt, tt, tt, tt, tt, tt, tt, tt, ff, ff, ff, ff, ff, ff, ff, ff, ff, ff, ff, ff] (any_of HT_.out (by kernel_rfl)) ?_
          refine zu 21 (some 177) #[tt, tt, tt, tt, tt, tt, tt, tt, tt, tt, tt, tt, tt, tt, tt, tt, tt, tt, tt, tt, tt, tt, ff, ff, ff, ff, ff, ff, ff, ff, ff, ff, ff] (any_of HT_.out (by kernel_rfl)) ?_
          refine zu 22 (some 178) #[tt, tt, tt, tt, tt, tt, tt, tt, tt, tt, tt, tt, tt, tt, tt, tt, tt, tt, tt, tt, tt, tt, tt, ff, ff, ff, ff, ff, ff, ff, ff, ff, ff] (any_of HT_.out (by kernel_rfl)) ?_
          refine zu 23 (some 179) #[tt, tt, tt, tt, tt, tt, tt, tt, tt, tt, tt, tt, tt, tt, tt, tt, tt, tt, tt, tt, tt, tt, tt, tt, ff, ff, ff, ff, ff, ff, ff, ff, ff] (any_of HT_.out (by kernel_rfl)) ?_
          refine zu 24 (some 180) #[tt, tt, tt, tt, tt, tt, tt, tt, tt, tt, tt, tt, tt, tt, tt, tt, tt, tt, tt, tt, tt, tt, tt, tt, tt, ff, ff, ff, ff, ff, ff, ff, ff] (any_of HT_.out (by kernel_rfl)) ?_
          refine zu 25 (some 181) #[tt, tt, tt, tt, tt, tt, tt, tt, tt, tt, tt, tt, tt, tt, tt, tt, tt, tt, tt, tt, tt, tt, tt, tt, tt, tt, ff, ff, ff, ff, ff, ff, ff] (any_of HT_.out (by kernel_rfl)) ?_
          refine zu 26 (some 182) #[tt, tt, tt, tt, tt, tt, tt, tt, tt, tt, tt, tt, tt, tt, tt, tt, tt, tt, tt, tt, tt, tt, tt, tt, tt, tt, tt, ff, ff, ff, ff, ff, ff] (any_of HT_.out (by kernel_rfl)) ?_
          refine zt 27 (some 183) #[tt, tt, tt, tt, tt, tt, tt, tt, tt, tt, tt, tt, tt, tt, tt, tt, tt, tt, tt, tt, tt, tt, tt, tt, tt, tt, tt, tt, ff, ff, ff, ff, ff] (take_ofW HT_.out HW_.out (by kernel_rfl)) hHeld ?_
          refine one_ (i := 28) (N := some 184) #[tt, tt, tt, tt, tt, tt, tt, tt, tt, tt, tt, tt, tt, tt, tt, tt, tt, tt, tt, tt, tt, tt, tt, tt, tt, tt, tt, tt, tt, ff, ff, ff, ff] rfl rfl (one_of HT_.out (by kernel_rfl)) (by decide) (fun K hK => ?_)
          refine goes_ Try.func19 (by kernel_rfl) rfl #[.agg #[.int .i64 a0_0, .slice au ab.length ak]] (by rfl) rfl rfl (by (try simp only [List.map_toArray, List.map_cons, List.map_nil]); first | done | rfl | (simp only [List.length_drop, List.length_take]; rfl)) ?_
          with_reducible refine (impl_Buried.calls k1 a0_0 _ _ ab a6 _ ?side1 ?side2 A99.out).mono ?_
          (case side1 => repeat (first | exact (Kd.C_below ax.out HB.out) | (with_reducible refine Kd.C_alloc ?_ _) | (with_reducible refine Kd.C_drewN ?_ _) | (with_reducible refine Kd.C_drew ?_)))
          (case side2 => exact aJ.out)
          rintro e w109 ⟨rfl, hb⟩
          refine ⟨_, rfl, ?_⟩
          have av := zK (blk_below (g := ad) (o := .cells #[.int .i64 a0_0, .slice au ab.length ak] 24 (0, 0)) (zk aa) hb)
          have aw := zK (below_step (zb HB) hb)
          clear aa HB; have aa := av; have HB := aw; clear av aw; (try clear hb); (try clear hb2); (try clear hk); (try clear hi)
          refine hK.out _ _ ⟨(blk_cell aa.out 0).trans rfl, (blk_cell aa.out 1).trans rfl⟩ (fun hHeld => ?_)
          clear hK K
          refine norm_ (a' := ?_) ?_ ?_
          rotate_left
          ·show Act.put _ (some 184) _ = _
           simp only [Act.put, zp, zq, zr, i64_w, i32_w]
           rfl
          refine zu 29 (some 185) #[tt, tt, tt, tt, tt, tt, tt, tt, tt, tt, tt, tt, tt, tt, tt, tt, tt, tt, tt, tt, tt, tt, tt, tt, tt, tt, tt, tt, tt, tt, ff, ff, ff] (any_of HT_.out (by kernel_rfl)) ?_
          refine zu 30 (some 186) #[tt, tt, tt, tt, tt, tt, tt, tt, tt, tt, tt, tt, tt, tt, tt, tt, tt, tt, tt, tt, tt, tt, tt, tt, tt, tt, tt, tt, tt, tt, tt, ff, ff] (any_of HT_.out (by kernel_rfl)) ?_
          refine zu 31 (some 187) #[tt, tt, tt, tt, tt, tt, tt, tt, tt, tt, tt, tt, tt, tt, tt, tt, tt, tt, tt, tt, tt, tt, tt, tt, tt, tt, tt, tt, tt, tt, tt, tt, ff] (any_of HT_.out (by kernel_rfl)) ?_
          refine zu 32 (some 2) #[tt, tt, tt, tt, tt, tt, tt, tt, tt, tt, tt, tt, tt, tt, tt, tt, tt, tt, tt, tt, tt, tt, tt, tt, tt, tt, tt, tt, tt, tt, tt, tt, tt] (any_of HT_.out (by kernel_rfl)) ?_
          refine done_ (done_of HT_.out (by kernel_rfl)) ?_
          try go_wp2
          go_ret
          exact ⟨by first | rfl | (simp [errW_none, errW_some] <;> rfl) | (simp [*, errW_none, errW_some] <;> rfl), by repeat (first | (with_reducible first | exact HB.out | apply zB | apply zC | apply zE | refine zS ?_ aj.out) | exact HB.out)⟩
         ·replace c98 := Bool.eq_false_iff.mpr c98
          subst c98
          have H1 : (some true) = some r := by rw [if_neg (show ¬ (false = true) by decide)] at H; exact H
          clear H; have H := H1; clear H1; obtain rfl := Option.some.inj H
          have eN : wr.cell? ⟨ad, 0, none⟩ = some (.int .i64 a0_0) := (blk_cell aa.out 0).trans rfl
          have eO : wr.cell? ⟨ad, 1, none⟩ = some (.slice au ab.length ak) := (blk_cell aa.out 1).trans rfl
          have eP := blk_frozen aa.out 0; have eQ := blk_frozen aa.out 1
          try go_wp2_with (first | ((with_reducible refine gate_callee (f := 41) rfl ?_); refine goesL_ (some 148) rfl rfl Try.func41 (by kernel_rfl) rfl #[.agg #[.int .i64 a0_0, .slice au ab.length ak]] rfl (by (try simp only [List.map_toArray, List.map_cons, List.map_nil]); first | done | rfl | (simp only [List.length_drop, List.length_take]; rfl)) ?_; (with_reducible refine (impl_HopsOf.calls k1 a0_0 (fun k_ => k_ < w.heap.size) _ _ ab a1 bv _ ?side1 A88.out).mono ?_); (case side1 => exact Kd.V_mk aJ.out (Kd.F_below (Kd.C_F (Kd.heap_slice 30 k30_heap) ax.out) (zb HB))); rintro e eR ⟨rfl, hb⟩; refine ⟨_, rfl, ?_⟩; have av := zK (blk_below (g := ad) (o := .cells #[.int .i64 a0_0, .slice au ab.length ak] 24 (0, 0)) (zk aa) hb); have aw := zK (below_step (zb HB) hb); clear aa; clear HB; have aa := av; have HB := aw; clear av aw; (try clear hb); have eS : eR.cell? ⟨ad, 0, none⟩ = some (.int .i64 a0_0) := (blk_cell aa.out 0).trans rfl; have eT : eR.cell? ⟨ad, 1, none⟩ = some (.slice au ab.length ak) := (blk_cell aa.out 1).trans rfl; have eU := blk_frozen aa.out 0; have eV := blk_frozen aa.out 1) | ((with_reducible refine gate_callee (f := 42) rfl ?_); refine goesL_ (some 153) rfl rfl Try.func42 (by kernel_rfl) rfl #[.agg #[.int .i64 a0_0, .slice au ab.length ak]] rfl (by (try simp only [List.map_toArray, List.map_cons, List.map_nil]); first | done | rfl | (simp only [List.length_drop, List.length_take]; rfl)) ?_; (with_reducible refine (spec_HopsOf.calls k1 a0_0 (fun k_ => k_ < w.heap.size) _ _ ab cn false _ ?side1 A89.out).mono ?_); (case side1 => exact Kd.V_mk aJ.out (Kd.F_below (Kd.C_F (Kd.heap_slice 30 k30_heap) ax.out) (zb HB))); rintro e w113 ⟨rfl, hb⟩; refine ⟨_, rfl, ?_⟩; have av := zK (blk_below (g := ad) (o := .cells #[.int .i64 a0_0, .slice au ab.length ak] 24 (0, 0)) (zk aa) hb); have aw := zK (below_step (zb HB) hb); clear aa; clear HB; have aa := av; have HB := aw; clear av aw; (try clear hb)))
          have av := zK (zD aa.out)
          have aw := zK (zE HB.out)
          clear aa HB; have aa := av; have HB := aw; clear av aw
          refine start_ (n := 33) (S := fun w' => w'.cell? ⟨ad, 0, none⟩ = some (.int .i64 a0_0) ∧ w'.cell? ⟨ad, 1, none⟩ = some (.slice au ab.length ak)) (ds := []) #[ff, ff, ff, ff, ff, ff, ff, ff, ff, ff, ff, ff, ff, ff, ff, ff, ff, ff, ff, ff, ff, ff, ff, ff, ff, ff, ff, ff, ff, ff, ff, ff, ff] (by kernel_rfl) rfl rfl ⟨(blk_cell aa.out 0).trans rfl, (blk_cell aa.out 1).trans rfl⟩ (fun hHeld => ?_); refine with_tabW laws_FnStoreTakes.tab29 laws_FnStoreTakes.bits29 (fun HT_ HW_ => ?_)
          generalize w113.drew = w114 at aa HB hHeld ⊢
          refine zu 0 (some 156) #[tt, ff, ff, ff, ff, ff, ff, ff, ff, ff, ff, ff, ff, ff, ff, ff, ff, ff, ff, ff, ff, ff, ff, ff, ff, ff, ff, ff, ff, ff, ff, ff, ff] (any_of HT_.out (by kernel_rfl)) ?_
          refine zu 1 (some 157) #[tt, tt, ff, ff, ff, ff, ff, ff, ff, ff, ff, ff, ff, ff, ff, ff, ff, ff, ff, ff, ff, ff, ff, ff, ff, ff, ff, ff, ff, ff, ff, ff, ff] (any_of HT_.out (by kernel_rfl)) ?_
          refine zu 2 (some 158) #[tt, tt, tt, ff, ff, ff, ff, ff, ff, ff, ff, ff, ff, ff, ff, ff, ff, ff, ff, ff, ff, ff, ff, ff, ff, ff, ff, ff, ff, ff, ff, ff, ff] (any_of HT_.out (by kernel_rfl)) ?_
          refine zu 3 (some 159) #[tt, tt, tt, tt, ff, ff, ff, ff, ff, ff, ff, ff, ff, ff, ff, ff, ff, ff, ff, ff, ff, ff, ff, ff, ff, ff, ff, ff, ff, ff, ff, ff, ff] (any_of HT_.out (by kernel_rfl)) ?_
          refine zu 4 (some 160) #[tt, tt, tt, tt, tt, ff, ff, ff, ff, ff, ff, ff, ff, ff, ff, ff, ff, ff, ff, ff, ff, ff, ff, ff, ff, ff, ff, ff, ff, ff, ff, ff, ff] (any_of HT_.out (by kernel_rfl)) ?_
          refine zu 5 (some 161) #[tt, tt, tt, tt, tt, tt, ff, ff, ff, ff, ff, ff, ff, ff, ff, ff, ff, ff, ff, ff, ff, ff, ff, ff, ff, ff, ff, ff, ff, ff, ff, ff, ff] (any_of HT_.out (by kernel_rfl)) ?_
          refine zu 6 (some 162) #[tt, tt, tt, tt, tt, tt, tt, ff, ff, ff, ff, ff, ff, ff, ff, ff, ff, ff, ff, ff, ff, ff, ff, ff, ff, ff, ff, ff, ff, ff, ff, ff, ff] (any_of HT_.out (by kernel_rfl)) ?_
          refine zu 7 (some 163) #[tt, tt, tt, tt, tt, tt, tt, tt, ff, ff, ff, ff, ff, ff, ff, ff, ff, ff, ff, ff, ff, ff, ff, ff, ff, ff, ff, ff, ff, ff, ff, ff, ff] (any_of HT_.out (by kernel_rfl)) ?_
          refine zu 8 (some 164) #[tt, tt, tt, tt, tt, tt, tt, tt, tt, ff, ff, ff, ff, ff, ff, ff, ff, ff, ff, ff, ff, ff, ff, ff, ff, ff, ff, ff, ff, ff, ff, ff, ff] (any_of HT_.out (by kernel_rfl)) ?_
          refine zt 9 (some 165) #[tt, tt, tt, tt, tt, tt, tt, tt, tt, tt, ff, ff, ff, ff, ff, ff, ff, ff, ff, ff, ff, ff, ff, ff, ff, ff, ff, ff, ff, ff, ff, ff, ff] (take_ofW HT_.out HW_.out (by kernel_rfl)) hHeld ?_
          refine zt 11 (some 167) #[tt, tt, tt, tt, tt, tt, tt, tt, tt, tt, ff, tt, ff, ff, ff, ff, ff, ff, ff, ff, ff, ff, ff, ff, ff, ff, ff, ff, ff, ff, ff, ff, ff] (take_ofW HT_.out HW_.out (by kernel_rfl)) hHeld ?_
          refine one_ (i := 10) (N := some 166) #[tt, tt, tt, tt, tt, tt, tt, tt, tt, tt, tt, tt, ff, ff, ff, ff, ff, ff, ff, ff, ff, ff, ff, ff, ff, ff, ff, ff, ff, ff, ff, ff, ff] rfl rfl (one_of HT_.out (by kernel_rfl)) (by decide) (fun K hK => ?_)
          refine goes_ Try.func19 (by kernel_rfl) rfl #[.agg #[.int .i64 a0_0, .slice au ab.length ak]] (by rfl) rfl rfl (by (try simp only [List.map_toArray, List.map_cons, List.map_nil]); first | done | rfl | (simp only [List.length_drop, List.length_take]; rfl)) ?_
          with_reducible refine (impl_Buried.calls k1 a0_0 _ _ ab bs _ ?side1 ?side2 A92.out).mono ?_
          (case side1 => repeat (first | exact (Kd.C_below ax.out HB.out) | (with_reducible refine Kd.C_alloc ?_ _) | (with_reducible refine Kd.C_drewN ?_ _) | (with_reducible refine Kd.C_drew ?_)))
          (case side2 => exact aJ.out)
          rintro e w115 ⟨rfl, hb⟩
          refine ⟨_, rfl, ?_⟩
          have av := zK (blk_below (g := ad) (o := .cells #[.int .i64 a0_0, .slice au ab.length ak] 24 (0, 0)) (zk aa) hb)
          have aw := zK (below_step (zb HB) hb)
          clear aa HB; have aa := av; have HB := aw; clear av aw; (try clear hb); (try clear hb2); (try clear hk); (try clear hi)
          refine hK.out _ _ ⟨(blk_cell aa.out 0).trans rfl, (blk_cell aa.out 1).trans rfl⟩ (fun hHeld => ?_)
          clear hK K
          refine norm_ (a' := ?_) ?_ ?_
          rotate_left
          ·show Act.put _ (some 166) _ = _
           simp only [Act.put, zp, zq, zr, i64_w, i32_w]
           rfl
          refine one_ (i := 12) (N := some 168) #[tt, tt, tt, tt, tt, tt, tt, tt, tt, tt, tt, tt, tt, ff, ff, ff, ff, ff, ff, ff, ff, ff, ff, ff, ff, ff, ff, ff, ff, ff, ff, ff, ff] rfl rfl (one_of HT_.out (by kernel_rfl)) (by decide) (fun K hK => ?_)
          refine goes_ Try.func25 (by kernel_rfl) rfl #[.agg #[.int .i64 a0_0, .slice au ab.length ak]] (by rfl) rfl rfl (by (try simp only [List.map_toArray, List.map_cons, List.map_nil]); first | done | rfl | (simp only [List.length_drop, List.length_take]; rfl)) ?_
          with_reducible refine (spec_Buried.calls k1 a0_0 _ _ ab bm _ ?side1 ?side2 A93.out).mono ?_
          (case side1 => repeat (first | exact (Kd.C_below ax.out HB.out) | (with_reducible refine Kd.C_alloc ?_ _) | (with_reducible refine Kd.C_drewN ?_ _) | (with_reducible refine Kd.C_drew ?_)))
          (case side2 => exact aJ.out)
          rintro e w116 ⟨rfl, hb⟩
          refine ⟨_, rfl, ?_⟩
          have av := zK (blk_below (g := ad) (o := .cells #[.int .i64 a0_0, .slice au ab.length ak] 24 (0, 0)) (zk aa) hb)
          have aw := zK (below_step (zb HB) hb)
          clear aa HB; have aa := av; have HB := aw; clear av aw; (try clear hb); (try clear hb2); (try clear hk); (try clear hi)
          refine hK.out _ _ ⟨(blk_cell aa.out 0).trans rfl, (blk_cell aa.out 1).trans rfl⟩ (fun hHeld => ?_)
          clear hK K
          refine norm_ (a' := ?_) ?_ ?_
          rotate_left
          ·show Act.put _ (some 168) _ = _
           simp only [Act.put, zp, zq, zr, i64_w, i32_w]
           rfl
          refine zu 13 (some 169) #[tt, tt, tt, tt, tt, tt, tt, tt, tt, tt, tt, tt, tt, tt, ff, ff, ff, ff, ff, ff, ff, ff, ff, ff, ff, ff, ff, ff, ff, ff, ff, ff, ff] (any_of HT_.out (by kernel_rfl)) ?_
          refine zu 14 (some 170) #[tt, tt, tt, tt, tt, tt, tt, tt, tt, tt, tt, tt, tt, tt, tt, ff, ff, ff, ff, ff, ff, ff, ff, ff, ff, ff, ff, ff, ff, ff, ff, ff, ff] (any_of HT_.out (by kernel_rfl)) ?_
          refine zu 15 (some 171) #[tt, tt, tt, tt, tt, tt, tt, tt, tt, tt, tt, tt, tt, tt, tt, tt, ff, ff, ff, ff, ff, ff, ff, ff, ff, ff, ff, ff, ff, ff, ff, ff, ff] (any_of HT_.out (by kernel_rfl)) ?_
          refine zt 16 (some 172) #[tt, tt, tt, tt, tt, tt, tt, tt, tt, tt, tt, tt, tt, tt, tt, tt, tt, ff, ff, ff, ff, ff, ff, ff, ff, ff, ff, ff, ff, ff, ff, ff, ff] (take_ofW HT_.out HW_.out (by kernel_rfl)) hHeld ?_
          refine zt 18 (some 174) #[tt, tt, tt, tt, tt, tt, tt, tt, tt, tt, tt, tt, tt, tt, tt, tt, tt, ff, tt, ff, ff, ff, ff, ff, ff, ff, ff, ff, ff, ff, ff, ff, ff] (take_ofW HT_.out HW_.out (by kernel_rfl)) hHeld ?_
          refine one_ (i := 17) (N := some 173) #[tt, tt, tt, tt, tt, tt, tt, tt, tt, tt, tt, tt, tt, tt, tt, tt, tt, tt, tt, ff, ff, ff, ff, ff, ff, ff, ff, ff, ff, ff, ff, ff, ff] rfl rfl (one_of HT_.out (by kernel_rfl)) (by decide) (fun K hK => ?_)
          refine goes_ Try.func24 (by kernel_rfl) rfl #[.agg #[.int .i64 a0_0, .slice au ab.length ak]] (by rfl) rfl rfl (by (try simp only [List.map_toArray, List.map_cons, List.map_nil]); first | done | rfl | (simp only [List.length_drop, List.length_take]; rfl)) ?_
          with_reducible refine (impl_NextOut.calls k1 a0_0 _ _ ab a2 _ ?side1 ?side2 A95.out).mono ?_
          (case side1 => repeat (first | exact (Kd.C_below ax.out HB.out) | (with_reducible refine Kd.C_alloc ?_ _) | (with_reducible refine Kd.C_drewN ?_ _) | (with_reducible refine Kd.C_drew ?_)))
          (case side2 => exact aJ.out)
          rintro e w117 ⟨rfl, hb⟩
          refine ⟨_, rfl, ?_⟩
          have av := zK (blk_below (g := ad) (o := .cells #[.int .i64 a0_0, .slice au ab.length ak] 24 (0, 0)) (zk aa) hb)
          have aw := zK (below_step (zb HB) hb)
          clear aa HB; have aa := av; have HB := aw; clear av aw; (try clear hb); (try clear hb2); (try clear hk); (try clear hi)
          refine hK.out _ _ ⟨(blk_cell aa.out 0).trans rfl, (blk_cell aa.out 1).trans rfl⟩ (fun hHeld => ?_)
          clear hK K
          refine norm_ (a' := ?_) ?_ ?_
          rotate_left
          ·show Act.put _ (some 173) _ = _
           simp only [Act.put, zp, zq, zr, i64_w, i32_w]
           rfl
          refine one_ (i := 19) (N := some 175) #[tt, tt, tt, tt, tt, tt, tt, tt, tt, tt, tt, tt, tt, tt, tt, tt, tt, tt, tt, tt, ff, ff, ff, ff, ff, ff, ff, ff, ff, ff, ff, ff, ff] rfl rfl (one_of HT_.out (by kernel_rfl)) (by decide) (fun K hK => ?_)
          refine goes_ Try.func17 (by kernel_rfl) rfl #[.agg #[.int .i64 a0_0, .slice au ab.length ak]] (by rfl) rfl rfl (by (try simp only [List.map_toArray, List.map_cons, List.map_nil]); first | done | rfl | (simp only [List.length_drop, List.length_take]; rfl)) ?_
          with_reducible refine (spec_NextOut.calls k1 a0_0 _ _ ab a0 _ ?side1 ?side2 A96.out).mono ?_
          (case side1 => repeat (first | exact (Kd.C_below ax.out HB.out) | (with_reducible refine Kd.C_alloc ?_ _) | (with_reducible refine Kd.C_drewN ?_ _) | (with_reducible refine Kd.C_drew ?_)))
          (case side2 => exact aJ.out)
          rintro e w118 ⟨rfl, hb⟩
          refine ⟨_, rfl, ?_⟩
          have av := zK (blk_below (g := ad) (o := .cells #[.int .i64 a0_0, .slice au ab.length ak] 24 (0, 0)) (zk aa) hb)
          have aw := zK (below_step (zb HB) hb)
          clear aa HB; have aa := av; have HB := aw; clear av aw; (try clear hb); (try clear hb2); (try clear hk); (try clear hi)
          refine hK.out _ _ ⟨(blk_cell aa.out 0).trans rfl, (blk_cell aa.out 1).trans rfl⟩ (fun hHeld => ?_)
          clear hK K
          refine norm_ (a' := ?_) ?_ ?_
          rotate_left
          ·show Act.put _ (some 175) _ = _
           simp only [Act.put, zp, zq, zr, i64_w, i32_w]
           rfl
          refine zu 20 (some 176) #[tt, tt, tt, tt, tt, tt, tt, tt, tt, tt, tt, tt, tt, tt, tt, tt, tt, tt, tt, tt, tt, ff, ff, ff, ff, ff, ff, ff, ff, ff, ff, ff, ff] (any_of HT_.out (by kernel_rfl)) ?_
          refine zu 21 (some 177) #[tt, tt, tt, tt, tt, tt, tt, tt, tt, tt, tt, tt, tt, tt, tt, tt, tt, tt, tt, tt, tt, tt, ff, ff, ff, ff, ff, ff, ff, ff, ff, ff, ff] (any_of HT_.out (by kernel_rfl)) ?_
          refine zu 22 (some 178) #[tt, tt, tt, tt, tt, tt, tt, tt, tt, tt, tt, tt, tt, tt, tt, tt, tt, tt, tt, tt, tt, tt, tt, ff, ff, ff, ff, ff, ff, ff, ff, ff, ff] (any_of HT_.out (by kernel_rfl)) ?_
          refine zu 23 (some 179) #[tt, tt, tt, tt, tt, tt, tt, tt, tt, tt, tt, tt, tt, tt, tt, tt, tt, tt, tt, tt, tt, tt, tt, tt, ff, ff, ff, ff, ff, ff, ff, ff, ff] (any_of HT_.out (by kernel_rfl)) ?_
          refine zu 24 (some 180) #[tt, tt, tt, tt, tt, tt, tt, tt, tt, tt, tt, tt, tt, tt, tt, tt, tt, tt, tt, tt, tt, tt, tt, tt, tt, ff, ff, ff, ff, ff, ff, ff, ff] (any_of HT_.out (by kernel_rfl)) ?_
          refine zu 25 (some 181) #[tt, tt, tt, tt, tt, tt, tt, tt, tt, tt, tt, tt, tt, tt, tt, tt, tt, tt, tt, tt, tt, tt, tt, tt, tt, tt, ff, ff, ff, ff, ff, ff, ff] (any_of HT_.out (by kernel_rfl)) ?_
          refine pure_ (i := 26) (N := some 182) (v := undef) (a' := ?_) #[tt, tt, tt, tt, tt, tt, tt, tt, tt, tt, tt, tt, tt, tt, tt, tt, tt, tt, tt, tt, tt, tt, tt, tt, tt, tt, tt, ff, ff, ff, ff, ff, ff] rfl rfl (any_of HT_.out (by kernel_rfl)) (fun _ _ _ h => h) (Or.inr ⟨by rfl, rfl⟩) ?_ ?_
          rotate_left
          ·simp only [Act.put, zp, zq, zr, i64_w, i32_w]
           rfl
          refine pure_ (i := 27) (N := some 183) (v := undef) (a' := ?_) #[tt, tt, tt, tt, tt, tt, tt, tt, tt, tt, tt, tt, tt, tt, tt, tt, tt, tt, tt, tt, tt, tt, tt, tt, tt, tt, tt, tt, ff, ff, ff, ff, ff] rfl rfl (any_of HT_.out (by kernel_rfl)) (fun _ _ _ h => h) (Or.inr ⟨by rfl, rfl⟩) ?_ ?_
          rotate_left
          ·simp only [Act.put, zp, zq, zr, i64_w, i32_w]
           rfl
          refine pure_ (i := 28) (N := some 184) (v := undef) (a' := ?_) #[tt, tt, tt, tt, tt, tt, tt, tt, tt, tt, tt, tt, tt, tt, tt, tt, tt, tt, tt, tt, tt, tt, tt, tt, tt, tt, tt, tt, tt, ff, ff, ff, ff] rfl rfl (any_of HT_.out (by kernel_rfl)) (fun _ _ _ h => h) (Or.inr ⟨by rfl, rfl⟩) ?_ ?_
          rotate_left
          ·simp only [Act.put, zp, zq, zr, i64_w, i32_w]
           rfl
          refine pure_ (i := 29) (N := some 185) (v := undef) (a' := ?_) #[tt, tt, tt, tt, tt, tt, tt, tt, tt, tt, tt, tt, tt, tt, tt, tt, tt, tt, tt, tt, tt, tt, tt, tt, tt, tt, tt, tt, tt, tt, ff, ff, ff] rfl rfl (any_of HT_.out (by kernel_rfl)) (fun _ _ _ h => h) (Or.inr ⟨by rfl, rfl⟩) ?_ ?_
          rotate_left
          ·simp only [Act.put, zp, zq, zr, i64_w, i32_w]
           rfl
          refine zu 30 (some 186) #[tt, tt, tt, tt, tt, tt, tt, tt, tt, tt, tt, tt, tt, tt, tt, tt, tt, tt, tt, tt, tt, tt, tt, tt, tt, tt, tt, tt, tt, tt, tt, ff, ff] (any_of HT_.out (by kernel_rfl)) ?_
          refine zu 31 (some 187) #[tt, tt, tt, tt, tt, tt, tt, tt, tt, tt, tt, tt, tt, tt, tt, tt, tt, tt, tt, tt, tt, tt, tt, tt, tt, tt, tt, tt, tt, tt, tt, tt, ff] (any_of HT_.out (by kernel_rfl)) ?_
          refine zu 32 (some 2) #[tt, tt, tt, tt, tt, tt, tt, tt, tt, tt, tt, tt, tt, tt, tt, tt, tt, tt, tt, tt, tt, tt, tt, tt, tt, tt, tt, tt, tt, tt, tt, tt, tt] (any_of HT_.out (by kernel_rfl)) ?_
          refine done_ (done_of HT_.out (by kernel_rfl)) ?_
          try go_wp2
          go_ret
          exact ⟨by first | rfl | (simp [errW_none, errW_some] <;> rfl) | (simp [*, errW_none, errW_some] <;> rfl), by repeat (first | (with_reducible first | exact HB.out | apply zB | apply zC | apply zE | refine zS ?_ aj.out) | exact HB.out)⟩
        ·rw [if_neg dS] at H
         have eB : (a2 == a0) = false := beq_eq_false_iff_ne.mpr dS
         have eC : (a2 != a0) = true := bne_iff_ne.mpr dS
         exact absurd (H.trans (congrArg some hrt.out)) (by simp)
       ·rw [if_neg dR] at H
        have ex : (bs == bm) = false := beq_eq_false_iff_ne.mpr dR
        have ey : (bs != bm) = true := bne_iff_ne.mpr dR
        exact absurd (H.trans (congrArg some hrt.out)) (by simp)
      ·rw [if_neg dQ] at H
       have es : (a1 == cn) = false := beq_eq_false_iff_ne.mpr dQ
       have et : (a1 != cn) = true := bne_iff_ne.mpr dQ
       exact absurd (H.trans (congrArg some hrt.out)) (by simp)
     ·rw [if_neg cY] at H
      have eo : (bv == ba) = false := by simpa using cY
      (try (have ep : decide (bv = ba) = false := by simpa using cY)); (try (have er : (bv == ba) = false := by simpa using cY)); (try (have c90b3 : ¬ (bv = ba) := by simpa using cY)); clear cY
      exact absurd (H.trans (congrArg some hrt.out)) (by simp)
 ·replace c3 := Bool.eq_false_iff.mpr c3
  subst c3
  have H1 : (some true) = some r := by rw [if_neg (show ¬ (false = true) by decide)] at H; exact H
  clear H; have H := H1; clear H1; obtain rfl := Option.some.inj H
  go_enter Try.func11, Try.ntmps11
  go_wp2_with (first | ((with_reducible refine gate_dst (N := 1) rfl ?_); refine box_event ?hg (N := 1) ?hd (cs := #[.int .i64 a0_0, .slice au ab.length ak]) (t := 24) ?hr ?_; (case hd => rfl); (case hg => rfl); (case hr => first | (go_simp; done) | (go_simp; rfl)); intro ad hg eW hbox hb; have av := zK (below_step (zb HB) hb); have aw := zK (hbox); have aR := zK ((by rw [hg]; exact (below_size (zb HB)) : w.heap.size ≤ ad)); have aS := zK ((by rw [hg]; exact (below_size (zb HB)) : w.heap.size ≤ ad)); clear HB; have HB := av; have aa := aw; have dX := aR; have aj := aS; clear av aw aR aS; clear hb hbox hg; have eX : eW.cell? ⟨ad, 0, none⟩ = some (.int .i64 a0_0) := (blk_cell aa.out 0).trans rfl; have eY : eW.cell? ⟨ad, 1, none⟩ = some (.slice au ab.length ak) := (blk_cell aa.out 1).trans rfl; have eZ := blk_frozen aa.out 0; have e0 := blk_frozen aa.out 1) | ((with_reducible refine gate_callee (f := 15) rfl ?_); refine goesL_ (some 19) rfl rfl Try.func15 (by kernel_rfl) rfl #[.agg #[.int .i64 a0_0, .slice au ab.length ak]] rfl (by (try simp only [List.map_toArray, List.map_cons, List.map_nil]); first | done | rfl | (simp only [List.length_drop, List.length_take]; rfl)) ?_; (with_reducible refine (spec_StoreOk.calls k a0_0 _ _ ab false _ ?side1 ?side2 A2.out).mono ?_); (case side1 => repeat (first | exact (Kd.C_below ax.out HB.out) | (with_reducible refine Kd.C_alloc ?_ _) | (with_reducible refine Kd.C_drewN ?_ _) | (with_reducible refine Kd.C_drew ?_))); (case side2 => exact aJ.out); rintro e w121 ⟨rfl, hb⟩; refine ⟨_, rfl, ?_⟩; have av := zK (blk_below (g := ad) (o := .cells #[.int .i64 a0_0, .slice au ab.length ak] 24 (0, 0)) (zk aa) hb); have aw := zK (below_step (zb HB) hb); clear aa; clear HB; have aa := av; have HB := aw; clear av aw; (try clear hb)))
  go_ret
  exact ⟨by first | rfl | (simp [errW_none, errW_some] <;> rfl) | (simp [*, errW_none, errW_some] <;> rfl), by repeat (first | (with_reducible first | exact HB.out | apply zB | apply zC | apply zE | refine zS ?_ aj.out) | exact HB.out)⟩
end Go.Proofs.Ytheckjlldkkceaa.Px
