import Derived.Test.YtdmbfmfdijgdkaaZvPx0
import Derived.Test.YtdmbfmfdijgdkaaZvPx1
import Derived.Test.YtdmbfmfdijgdkaaZvPx7
namespace Go.Proofs.Ytdmbfmfdijgdkaa.Px
open Go.RowKit Go.Proofs.YtdmbfmfdijgdkaaW.PrintWords Go.Proofs.YtdmbfmfdijgdkaaW.PrintLast Go.Proofs.YtdmbfmfdijgdkaaW.PrintMore
attribute [local go_sem] max2_int min2_int max_two min_two max_three min_three max_four min_four   
set_option linter.unusedVariables false
set_option linter.unusedSimpArgs false
mutual
def spec_SightsOk.l0 : Nat → List (S89) → Int → Option (Bool)
 | 0, _, _ => none
 | k + 1, x0, x3 => if x3 < (x0.length : Int) then (if 0 ≤ x3 then ((spec_l01In.f ((rd_T89 x0 x3).f0) 0 100000).bind fun t647 => (if t647 = true then (if ((rd_T89 x0 x3).f1) < 0 then (spec_SightsOk.j1 k x0 x3 true) else (if x3 > 0 then (if 0 ≤ (wrap64 (x3 - 1)) then (if (wrap64 (x3 - 1)) < (x0.length : Int) then (spec_SightsOk.j1 k x0 x3 (decide (((rd_T89 x0 x3).f0) < ((rd_T89 x0 (wrap64 (x3 - 1))).f0)))) else (none)) else (none)) else (spec_SightsOk.j1 k x0 x3 false))) else (spec_SightsOk.j1 k x0 x3 true))) else (none)) else (some true)
def spec_SightsOk.j1 : Nat → List (S89) → Int → Bool → Option (Bool)
 | 0, _, _, _ => none
 | k + 1, x0, x3, x46 => if x46 = true then (some false) else (spec_SightsOk.l1 k x0 x3 0)
def spec_SightsOk.l1 : Nat → List (S89) → Int → Int → Option (Bool)
 | 0, _, _, _ => none
 | k + 1, x0, x3, x4 => if x4 < x3 then (if 0 ≤ x3 then (if x3 < (x0.length : Int) then (if ((rd_T89 x0 x3).f1) = 0 then (spec_SightsOk.l1 k x0 x3 (wrap64 (x4 + 1))) else (if 0 ≤ x4 then (if x4 < (x0.length : Int) then (if ((rd_T89 x0 x4).f1) = ((rd_T89 x0 x3).f1) then (some false) else (spec_SightsOk.l1 k x0 x3 (wrap64 (x4 + 1)))) else (none)) else (none))) else (none)) else (none)) else (spec_SightsOk.l0 k x0 (wrap64 (x3 + 1)))
end
def spec_SightsOk.f (k : Nat) (l0 : List (S89)) : Option (Bool) := if (l0.length : Int) > 6 then (some false) else (spec_SightsOk.l0 k l0 0)
def spec_SightsOk.T6 : Bool × List (List Nat × List Nat) := (true, [([], []), ([], []), ([0, 1], [0, 1]), ([2], [2]), ([3], [3]), ([4], [4]), ([5], [5]), ([6, 5], [6]), ([7], [7]), ([7], [7]), ([8, 9, 7], [7, 8, 9]), ([10, 7], [7, 10]), ([11, 7], [7, 11]), ([12, 7], [7, 12]), ([7, 13], [7, 13]), ([14, 7], [14]), ([15], [15]), ([16, 15], [15, 16]), ([17, 15, 15], [15, 17]), ([18], [18]), ([18], [18]), ([19, 20, 18], [18, 19, 20]), ([21, 18], [18, 21]), ([22, 18], [18, 22]), ([18], [18]), ([18], [18]), ([25, 18], [18, 25]), ([24, 26, 18], [18, 24, 26]), ([27, 18], [18, 27]), ([28, 18], [18, 28]), ([23, 29, 18], [18, 23, 29]), ([18, 30, 15], [15, 18, 30]), ([15, 31], [15, 31])])
def spec_SightsOk.B6 : List Nat := [0, 0, 3, 7, 15, 31, 63, 127, 255, 255, 1023, 2047, 4095, 8191, 16383, 32767, 65535, 131071, 262143, 524287, 524287, 2097151, 4194303, 8388607, 524287, 524287, 34078719, 117964799, 252182527, 520617983, 1073741823, 2147483647, 4294967295]
theorem spec_SightsOk.tab6 : rtab .any (opsOf Try.f39 6) = spec_SightsOk.T6 := by kernel_rfl
theorem spec_SightsOk.bits6 : waitsOk spec_SightsOk.T6.2 spec_SightsOk.B6 = true := by kernel_rfl
def spec_SightsOk.T11 : Bool × List (List Nat × List Nat) := (true, [([], []), ([], []), ([0, 1], [0, 1]), ([2], [2]), ([3], [3]), ([4], [4]), ([5], [5]), ([6], [6]), ([6], [6]), ([7, 8, 6], [6, 7, 8]), ([9, 6], [6, 9]), ([10, 6], [6, 10]), ([6], [6]), ([6], [6]), ([12, 13, 6], [6, 12, 13]), ([14, 6], [6, 14]), ([15, 6], [6, 15]), ([11, 16, 6], [6, 11, 16]), ([6, 17], [6, 17])])
def spec_SightsOk.B11 : List Nat := [0, 0, 3, 7, 15, 31, 63, 127, 127, 511, 1023, 2047, 127, 127, 12415, 28799, 61567, 131071, 262143]
theorem spec_SightsOk.tab11 : rtab .any (opsOf Try.f39 11) = spec_SightsOk.T11 := by kernel_rfl
theorem spec_SightsOk.bits11 : waitsOk spec_SightsOk.T11.2 spec_SightsOk.B11 = true := by kernel_rfl
set_option maxHeartbeats 8000000 in
set_option maxRecDepth 100000 in
theorem spec_SightsOk.calls (k : Nat) (A0 : Option Addr) (c0 : Nat) (l0 : List (S89)) (r : Bool) (w : World) (hr0 : Kd.C k89 w A0 l0.length l0) (hc0 : l0.length ≤ c0) (h : spec_SightsOk.f k l0 = some r) :
  Calls Try.prog 39 #[.slice A0 l0.length c0] w fun e w' => e = .returned (.bool r) ∧ Below w.heap.size w w' := by
 have aS := zK hr0; have HC0 := zK hc0; clear hr0 hc0
 have HB := zK (Below.refl w.heap.size w)
 have H : (if (l0.length : Int) > 6 then (some false) else (spec_SightsOk.l0 k l0 0)) = some r := h
 clear h
 by_cases c2 : (l0.length : Int) > 6
 ·rw [if_pos c2] at H
  have bi : decide (6 < (l0.length : Int)) = true := decide_eq_true c2
  have bj : decide (6 < l0.length) = true := decide_eq_true (by omega)
  clear c2; obtain rfl := Option.some.inj H
  go_enter Try.func39, Try.ntmps39
  go_wp2
  go_ret
  exact ⟨by first | rfl | (simp [errW_none, errW_some] <;> rfl) | (simp [*, errW_none, errW_some] <;> rfl), by repeat (first | (with_reducible first | exact HB.out | apply zB | apply zC | apply zE) | exact HB.out)⟩
 ·rw [if_neg c2] at H
  have bi : decide (6 < (l0.length : Int)) = false := decide_eq_false c2
  have bj : decide (6 < l0.length) = false := decide_eq_false (by omega)
  clear c2; have H' := zK H; clear H
  go_enter Try.func39, Try.ntmps39
  go_wp2
  go_loopg [3] k (fun kq v3 w' => ∃ (aa : Int), v3 = .int .i64 aa ∧ Aside0 (spec_SightsOk.l0 kq l0 aa = some r) ∧ Aside0 (kq ≤ k) ∧ Aside0 (Below w.heap.size w w'))
  case atStart => exact ⟨(0), (by first | rfl | (simp; done) | (simp [*]; done)), H', ⟨Nat.le_refl _⟩, ⟨zb HB⟩⟩
  case round =>
   clear H'
   try clear c2
   try clear bi
   try clear bj
   try clear p2
   obtain ⟨aa, rfl, HA, a4, HB⟩ := hrel
   cases gk with
   | zero => exact absurd HA.out (by simp [spec_SightsOk.l0])
   | succ k1 =>
    have H := HA.out; clear HA
    simp only [spec_SightsOk.l0] at H
    by_cases c3 : aa < (l0.length : Int)
    ·rw [if_pos c3] at H
     have c3b0 : decide (aa < (l0.length : Int)) = true := decide_eq_true c3
     clear c3; have HC4 := zK H; clear H
     go_upto_region 6 with (fail)
     go_cut [46] (fun v46 wc => ∃ (kq : Nat) (aY : Bool), v46 = .bool aY ∧ Aside0 (spec_SightsOk.j1 kq l0 aa aY = some r) ∧ Aside0 (kq ≤ k1) ∧ Aside0 (Below w.heap.size w wc))
     case first =>
      have H := HC4.out; clear HC4
      by_cases c5 : 0 ≤ aa
      ·rw [if_pos c5] at H
       have bk : decide (0 ≤ aa) = true := decide_eq_true c5
       clear c5
       (first | rw [bk] | (simp only [i64_w, i32_w]; rw [bk]) | skip)
       replace H := Option.bind_eq_some_iff.mp H
       obtain ⟨bl, A60, H⟩ := H
       replace H : (if bl = true then (if ((rd_T89 l0 aa).f1) < 0 then (spec_SightsOk.j1 k1 l0 aa true) else (if aa > 0 then (if 0 ≤ (wrap64 (aa - 1)) then (if (wrap64 (aa - 1)) < (l0.length : Int) then (spec_SightsOk.j1 k1 l0 aa (decide (((rd_T89 l0 aa).f0) < ((rd_T89 l0 (wrap64 (aa - 1))).f0)))) else (none)) else (none)) else (spec_SightsOk.j1 k1 l0 aa false))) else (spec_SightsOk.j1 k1 l0 aa true)) = some r := H
       have A6 := zK A60; clear A60
       by_cases c7 : bl = true
       ·subst c7
        have H1 : (if ((rd_T89 l0 aa).f1) < 0 then (spec_SightsOk.j1 k1 l0 aa true) else (if aa > 0 then (if 0 ≤ (wrap64 (aa - 1)) then (if (wrap64 (aa - 1)) < (l0.length : Int) then (spec_SightsOk.j1 k1 l0 aa (decide (((rd_T89 l0 aa).f0) < ((rd_T89 l0 (wrap64 (aa - 1))).f0)))) else (none)) else (none)) else (spec_SightsOk.j1 k1 l0 aa false))) = some r := by rw [if_pos rfl] at H; exact H
        clear H; have H := H1; clear H1
        by_cases c8 : ((rd_T89 l0 aa).f1) < 0
        ·rw [if_pos c8] at H
         have c8b0 : decide (((rd_T89 l0 aa).f1) < 0) = true := decide_eq_true c8
         clear c8; have H' := zK H; clear H
         try go_wp2
         have aP := zK (zE HB.out)
         clear HB; have HB := aP; clear aP
         have aw : 0 ≤ (aa : Int) := of_decide_eq_true (by first | (with_reducible assumption) | assumption)
         have ax : aa < (l0.length : Int) := of_decide_eq_true (by first | (with_reducible assumption) | assumption)
         obtain ⟨ad, aT, ab, ac⟩ := at_T89 aS.out aa aw ax
         have ae := ac; have af := ab
         cases aT
         replace ab := (HB.out.cell (World.block_lt_of_cell? w _ ab)).trans ab
         replace ac := (HB.out.cell (World.block_lt_of_cell? w _ ac)).trans ac
         replace aw := eq_true aw; replace ax := eq_true ax
         have aH : 0 ≤ (aa : Int) := of_decide_eq_true (by first | (with_reducible assumption) | assumption)
         have aI : aa < (l0.length : Int) := of_decide_eq_true (by first | (with_reducible assumption) | assumption)
         obtain ⟨aQ, aZ, ag, ah⟩ := at_T89 aS.out aa aH aI
         have al := ah; have am := ag
         obtain rfl : ad = aQ := (by injection aZ)
         replace ag := (HB.out.cell (World.block_lt_of_cell? w _ ag)).trans ag
         replace ah := (HB.out.cell (World.block_lt_of_cell? w _ ah)).trans ah
         replace aH := eq_true aH; replace aI := eq_true aI
         refine start_ (n := 33) (S := fun w' => w'.cell? (ad.add ((aa).toNat * 2)) = some (.int .i64 ((rd_T89 l0 aa).f0)) ∧ w'.cell? ⟨(ad.add ((aa).toNat * 2)).block, (ad.add ((aa).toNat * 2)).off + 1, none⟩ = some (.int .i64 ((rd_T89 l0 aa).f1)) ∧ w'.cell? (ad.add ((aa).toNat * 2)) = some (.int .i64 ((rd_T89 l0 aa).f0)) ∧ w'.cell? ⟨(ad.add ((aa).toNat * 2)).block, (ad.add ((aa).toNat * 2)).off + 1, none⟩ = some (.int .i64 ((rd_T89 l0 aa).f1))) (ds := []) #[ff, ff, ff, ff, ff, ff, ff, ff, ff, ff, ff, ff, ff, ff, ff, ff, ff, ff, ff, ff, ff, ff, ff, ff, ff, ff, ff, ff, ff, ff, ff, ff, ff] (by kernel_rfl) rfl rfl ⟨((HB.out.cell (World.block_lt_of_cell? w _ af)).trans af), ((HB.out.cell (World.block_lt_of_cell? w _ ae)).trans ae), ((HB.out.cell (World.block_lt_of_cell? w _ am)).trans am), ((HB.out.cell (World.block_lt_of_cell? w _ al)).trans al)⟩ (fun hHeld => ?_); refine with_tabW spec_SightsOk.tab6 spec_SightsOk.bits6 (fun HT_ HW_ => ?_)
         generalize wr.drew = w9 at HB ab ac ag ah hHeld ⊢
         refine zu 0 (some 14) #[tt, ff, ff, ff, ff, ff, ff, ff, ff, ff, ff, ff, ff, ff, ff, ff, ff, ff, ff, ff, ff, ff, ff, ff, ff, ff, ff, ff, ff, ff, ff, ff, ff] (any_of HT_.out (by kernel_rfl)) ?_
         refine zu 1 (some 15) #[tt, tt, ff, ff, ff, ff, ff, ff, ff, ff, ff, ff, ff, ff, ff, ff, ff, ff, ff, ff, ff, ff, ff, ff, ff, ff, ff, ff, ff, ff, ff, ff, ff] (any_of HT_.out (by kernel_rfl)) ?_
         refine zu 2 (some 16) #[tt, tt, tt, ff, ff, ff, ff, ff, ff, ff, ff, ff, ff, ff, ff, ff, ff, ff, ff, ff, ff, ff, ff, ff, ff, ff, ff, ff, ff, ff, ff, ff, ff] (any_of HT_.out (by kernel_rfl)) ?_
         refine zu 3 (some 17) #[tt, tt, tt, tt, ff, ff, ff, ff, ff, ff, ff, ff, ff, ff, ff, ff, ff, ff, ff, ff, ff, ff, ff, ff, ff, ff, ff, ff, ff, ff, ff, ff, ff] (any_of HT_.out (by kernel_rfl)) ?_
         refine zt 4 (some 18) #[tt, tt, tt, tt, tt, ff, ff, ff, ff, ff, ff, ff, ff, ff, ff, ff, ff, ff, ff, ff, ff, ff, ff, ff, ff, ff, ff, ff, ff, ff, ff, ff, ff] (take_ofW HT_.out HW_.out (by kernel_rfl)) hHeld ?_
         refine one_ (i := 5) (N := some 19) #[tt, tt, tt, tt, tt, tt, ff, ff, ff, ff, ff, ff, ff, ff, ff, ff, ff, ff, ff, ff, ff, ff, ff, ff, ff, ff, ff, ff, ff, ff, ff, ff, ff] rfl rfl (one_of HT_.out (by kernel_rfl)) (by decide) (fun K hK => ?_)
         refine goes_ Try.func80 (by kernel_rfl) rfl #[.int .i64 ((rd_T89 l0 aa).f0), .int .i64 0, .int .i64 100000] (by rfl) rfl rfl (by (try simp only [List.map_toArray, List.map_cons, List.map_nil]); first | done | rfl | (simp only [List.length_drop, List.length_take]; rfl)) ?_
         with_reducible refine (spec_l01In.calls ((rd_T89 l0 aa).f0) 0 100000 true _ A6.out).mono ?_
         rintro e w' ⟨rfl, ⟨nd, rfl⟩⟩
         refine ⟨_, rfl, ?_⟩
         refine hK.out _ _ ⟨((HB.out.cell (World.block_lt_of_cell? w _ af)).trans af), ((HB.out.cell (World.block_lt_of_cell? w _ ae)).trans ae), ((HB.out.cell (World.block_lt_of_cell? w _ am)).trans am), ((HB.out.cell (World.block_lt_of_cell? w _ al)).trans al)⟩ (fun hHeld => ?_)
         clear hK K
         refine norm_ (a' := ?_) ?_ ?_
         rotate_left
         ·show Act.put _ (some 19) _ = _
          simp only [Act.put, zp, zq, zr, i64_w, i32_w]
          rfl
         refine zu 6 (some 20) #[tt, tt, tt, tt, tt, tt, tt, ff, ff, ff, ff, ff, ff, ff, ff, ff, ff, ff, ff, ff, ff, ff, ff, ff, ff, ff, ff, ff, ff, ff, ff, ff, ff] (any_of HT_.out (by kernel_rfl)) ?_
         refine zu 7 (some 21) #[tt, tt, tt, tt, tt, tt, tt, tt, ff, ff, ff, ff, ff, ff, ff, ff, ff, ff, ff, ff, ff, ff, ff, ff, ff, ff, ff, ff, ff, ff, ff, ff, ff] (any_of HT_.out (by kernel_rfl)) ?_
         refine zu 8 (some 22) #[tt, tt, tt, tt, tt, tt, tt, tt, tt, ff, ff, ff, ff, ff, ff, ff, ff, ff, ff, ff, ff, ff, ff, ff, ff, ff, ff, ff, ff, ff, ff, ff, ff] (any_of HT_.out (by kernel_rfl)) ?_
         refine zu 9 (some 23) #[tt, tt, tt, tt, tt, tt, tt, tt, tt, tt, ff, ff, ff, ff, ff, ff, ff, ff, ff, ff, ff, ff, ff, ff, ff, ff, ff, ff, ff, ff, ff, ff, ff] (any_of HT_.out (by kernel_rfl)) ?_
         refine zu 10 (some 24) #[tt, tt, tt, tt, tt, tt, tt, tt, tt, tt, tt, ff, ff, ff, ff, ff, ff, ff, ff, ff, ff, ff, ff, ff, ff, ff, ff, ff, ff, ff, ff, ff, ff] (any_of HT_.out (by kernel_rfl)) ?_
         refine zu 11 (some 25) #[tt, tt, tt, tt, tt, tt, tt, tt, tt, tt, tt, tt, ff, ff, ff, ff, ff, ff, ff, ff, ff, ff, ff, ff, ff, ff, ff, ff, ff, ff, ff, ff, ff] (any_of HT_.out (by kernel_rfl)) ?_
         refine zt 12 (some 26) #[tt, tt, tt, tt, tt, tt, tt, tt, tt, tt, tt, tt, tt, ff, ff, ff, ff, ff, ff, ff, ff, ff, ff, ff, ff, ff, ff, ff, ff, ff, ff, ff, ff] (take_ofW HT_.out HW_.out (by kernel_rfl)) hHeld ?_
         refine zu 13 (some 27) #[tt, tt, tt, tt, tt, tt, tt, tt, tt, tt, tt, tt, tt, tt, ff, ff, ff, ff, ff, ff, ff, ff, ff, ff, ff, ff, ff, ff, ff, ff, ff, ff, ff] (any_of HT_.out (by kernel_rfl)) ?_
         refine zu 14 (some 28) #[tt, tt, tt, tt, tt, tt, tt, tt, tt, tt, tt, tt, tt, tt, tt, ff, ff, ff, ff, ff, ff, ff, ff, ff, ff, ff, ff, ff, ff, ff, ff, ff, ff] (any_of HT_.out (by kernel_rfl)) ?_
         refine zu 15 (some 29) #[tt, tt, tt, tt, tt, tt, tt, tt, tt, tt, tt, tt, tt, tt, tt, tt, ff, ff, ff, ff, ff, ff, ff, ff, ff, ff, ff, ff, ff, ff, ff, ff, ff] (any_of HT_.out (by kernel_rfl)) ?_
         refine pure_ (i := 16) (N := some 30) (v := undef) (a' := ?_) #[tt, tt, tt, tt, tt, tt, tt, tt, tt, tt, tt, tt, tt, tt, tt, tt, tt, ff, ff, ff, ff, ff, ff, ff, ff, ff, ff, ff, ff, ff, ff, ff, ff] rfl rfl (any_of HT_.out (by kernel_rfl)) (fun _ _ _ h => h) (Or.inr ⟨by rfl, rfl⟩) ?_ ?_
         rotate_left
         ·simp only [Act.put, zp, zq, zr, i64_w, i32_w]
          rfl
         refine pure_ (i := 17) (N := some 31) (v := undef) (a' := ?_) #[tt, tt, tt, tt, tt, tt, tt, tt, tt, tt, tt, tt, tt, tt, tt, tt, tt, tt, ff, ff, ff, ff, ff, ff, ff, ff, ff, ff, ff, ff, ff, ff, ff] rfl rfl (any_of HT_.out (by kernel_rfl)) (fun _ _ _ h => h) (Or.inr ⟨by rfl, rfl⟩) ?_ ?_
         rotate_left
         ·simp only [Act.put, zp, zq, zr, i64_w, i32_w]
          rfl
         refine pure_ (i := 18) (N := some 32) (v := undef) (a' := ?_) #[tt, tt, tt, tt, tt, tt, tt, tt, tt, tt, tt, tt, tt, tt, tt, tt, tt, tt, tt, ff, ff, ff, ff, ff, ff, ff, ff, ff, ff, ff, ff, ff, ff] rfl rfl (any_of HT_.out (by kernel_rfl)) (fun _ _ _ h => h) (Or.inr ⟨by rfl, rfl⟩) ?_ ?_
         rotate_left
         ·simp only [Act.put, zp, zq, zr, i64_w, i32_w]
          rfl
         refine pure_ (i := 19) (N := some 33) (v := undef) (a' := ?_) #[tt, tt, tt, tt, tt, tt, tt, tt, tt, tt, tt, tt, tt, tt, tt, tt, tt, tt, tt, tt, ff, ff, ff, ff, ff, ff, ff, ff, ff, ff, ff, ff, ff] rfl rfl (any_of HT_.out (by kernel_rfl)) (fun _ _ _ h => h) (Or.inr ⟨by rfl, rfl⟩) ?_ ?_
         rotate_left
         ·simp only [Act.put, zp, zq, zr, i64_w, i32_w]
          rfl
         refine pure_ (i := 20) (N := some 34) (v := undef) (a' := ?_) #[tt, tt, tt, tt, tt, tt, tt, tt, tt, tt, tt, tt, tt, tt, tt, tt, tt, tt, tt, tt, tt, ff, ff, ff, ff, ff, ff, ff, ff, ff, ff, ff, ff] rfl rfl (any_of HT_.out (by kernel_rfl)) (fun _ _ _ h => h) (Or.inr ⟨by rfl, rfl⟩) ?_ ?_
         rotate_left
         ·simp only [Act.put, zp, zq, zr, i64_w, i32_w]
          rfl
         refine pure_ (i := 21) (N := some 35) (v := undef) (a' := ?_) #[tt, tt, tt, tt, tt, tt, tt, tt, tt, tt, tt, tt, tt, tt, tt, tt, tt, tt, tt, tt, tt, tt, ff, ff, ff, ff, ff, ff, ff, ff, ff, ff, ff] rfl rfl (any_of HT_.out (by kernel_rfl)) (fun _ _ _ h => h) (Or.inr ⟨by rfl, rfl⟩) ?_ ?_
         rotate_left
         ·simp only [Act.put, zp, zq, zr, i64_w, i32_w]
          rfl
         refine pure_ (i := 22) (N := some 36) (v := undef) (a' := ?_) #[tt, tt, tt, tt, tt, tt, tt, tt, tt, tt, tt, tt, tt, tt, tt, tt, tt, tt, tt, tt, tt, tt, tt, ff, ff, ff, ff, ff, ff, ff, ff, ff, ff] rfl rfl (any_of HT_.out (by kernel_rfl)) (fun _ _ _ h => h) (Or.inr ⟨by rfl, rfl⟩) ?_ ?_
         rotate_left
         ·simp only [Act.put, zp, zq, zr, i64_w, i32_w]
          rfl
         refine pure_ (i := 23) (N := some 37) (v := undef) (a' := ?_) #[tt, tt, tt, tt, tt, tt, tt, tt, tt, tt, tt, tt, tt, tt, tt, tt, tt, tt, tt, tt, tt, tt, tt, tt, ff, ff, ff, ff, ff, ff, ff, ff, ff] rfl rfl (any_of HT_.out (by kernel_rfl)) (fun _ _ _ h => h) (Or.inr ⟨by rfl, rfl⟩) ?_ ?_
         rotate_left
         ·simp only [Act.put, zp, zq, zr, i64_w, i32_w]
          rfl
         refine pure_ (i := 24) (N := some 38) (v := undef) (a' := ?_) #[tt, tt, tt, tt, tt, tt, tt, tt, tt, tt, tt, tt, tt, tt, tt, tt, tt, tt, tt, tt, tt, tt, tt, tt, tt, ff, ff, ff, ff, ff, ff, ff, ff] rfl rfl (any_of HT_.out (by kernel_rfl)) (fun _ _ _ h => h) (Or.inr ⟨by rfl, rfl⟩) ?_ ?_
         rotate_left
         ·simp only [Act.put, zp, zq, zr, i64_w, i32_w]
          rfl
         refine pure_ (i := 25) (N := some 39) (v := undef) (a' := ?_) #[tt, tt, tt, tt, tt, tt, tt, tt, tt, tt, tt, tt, tt, tt, tt, tt, tt, tt, tt, tt, tt, tt, tt, tt, tt, tt, ff, ff, ff, ff, ff, ff, ff] rfl rfl (any_of HT_.out (by kernel_rfl)) (fun _ _ _ h => h) (Or.inr ⟨by rfl, rfl⟩) ?_ ?_
         rotate_left
         ·simp only [Act.put, zp, zq, zr, i64_w, i32_w]
          rfl
         refine pure_ (i := 26) (N := some 40) (v := undef) (a' := ?_) #[tt, tt, tt, tt, tt, tt, tt, tt, tt, tt, tt, tt, tt, tt, tt, tt, tt, tt, tt, tt, tt, tt, tt, tt, tt, tt, tt, ff, ff, ff, ff, ff, ff] rfl rfl (any_of HT_.out (by kernel_rfl)) (fun _ _ _ h => h) (Or.inr ⟨by rfl, rfl⟩) ?_ ?_
         rotate_left
         ·simp only [Act.put, zp, zq, zr, i64_w, i32_w]
          rfl
         refine pure_ (i := 27) (N := some 41) (v := undef) (a' := ?_) #[tt, tt, tt, tt, tt, tt, tt, tt, tt, tt, tt, tt, tt, tt, tt, tt, tt, tt, tt, tt, tt, tt, tt, tt, tt, tt, tt, tt, ff, ff, ff, ff, ff] rfl rfl (any_of HT_.out (by kernel_rfl)) (fun _ _ _ h => h) (Or.inr ⟨by rfl, rfl⟩) ?_ ?_
         rotate_left
         ·simp only [Act.put, zp, zq, zr, i64_w, i32_w]
          rfl
         refine pure_ (i := 28) (N := some 42) (v := undef) (a' := ?_) #[tt, tt, tt, tt, tt, tt, tt, tt, tt, tt, tt, tt, tt, tt, tt, tt, tt, tt, tt, tt, tt, tt, tt, tt, tt, tt, tt, tt, tt, ff, ff, ff, ff] rfl rfl (any_of HT_.out (by kernel_rfl)) (fun _ _ _ h => h) (Or.inr ⟨by rfl, rfl⟩) ?_ ?_
         rotate_left
         ·simp only [Act.put, zp, zq, zr, i64_w, i32_w]
          rfl
         refine pure_ (i := 29) (N := some 43) (v := undef) (a' := ?_) #[tt, tt, tt, tt, tt, tt, tt, tt, tt, tt, tt, tt, tt, tt, tt, tt, tt, tt, tt, tt, tt, tt, tt, tt, tt, tt, tt, tt, tt, tt, ff, ff, ff] rfl rfl (any_of HT_.out (by kernel_rfl)) (fun _ _ _ h => h) (Or.inr ⟨by rfl, rfl⟩) ?_ ?_
         rotate_left
         ·simp only [Act.put, zp, zq, zr, i64_w, i32_w]
          rfl
         refine pure_ (i := 30) (N := some 44) (v := undef) (a' := ?_) #[tt, tt, tt, tt, tt, tt, tt, tt, tt, tt, tt, tt, tt, tt, tt, tt, tt, tt, tt, tt, tt, tt, tt, tt, tt, tt, tt, tt, tt, tt, tt, ff, ff] rfl rfl (any_of HT_.out (by kernel_rfl)) (fun _ _ _ h => h) (Or.inr ⟨by rfl, rfl⟩) ?_ ?_
         rotate_left
         ·simp only [Act.put, zp, zq, zr, i64_w, i32_w]
          rfl
         refine pure_ (i := 31) (N := some 45) (v := undef) (a' := ?_) #[tt, tt, tt, tt, tt, tt, tt, tt, tt, tt, tt, tt, tt, tt, tt, tt, tt, tt, tt, tt, tt, tt, tt, tt, tt, tt, tt, tt, tt, tt, tt, tt, ff] rfl rfl (any_of HT_.out (by kernel_rfl)) (fun _ _ _ h => h) (Or.inr ⟨by rfl, rfl⟩) ?_ ?_
         rotate_left
         ·simp only [Act.put, zp, zq, zr, i64_w, i32_w]
          rfl
         refine zu 32 (some 46) #[tt, tt, tt, tt, tt, tt, tt, tt, tt, tt, tt, tt, tt, tt, tt, tt, tt, tt, tt, tt, tt, tt, tt, tt, tt, tt, tt, tt, tt, tt, tt, tt, tt] (any_of HT_.out (by kernel_rfl)) ?_
         refine done_ (done_of HT_.out (by kernel_rfl)) ?_
         try go_wp2
         go_meet
         case rel => exact ⟨_, (true), (by first | rfl | (simp; done) | (simp [*]; done)), H', ⟨by have := a4.out; first | omega | exact Nat.le_refl _⟩, ⟨zb HB⟩⟩
        ·rw [if_neg c8] at H
         have c8b0 : decide (((rd_T89 l0 aa).f1) < 0) = false := decide_eq_false c8
         clear c8
         by_cases c10 : aa > 0
         ·rw [if_pos c10] at H
          have a0 : decide (0 < aa) = true := decide_eq_true c10
          clear c10
          obtain ⟨ay, aR⟩ : ∃ j_ : Int, (wrap64 (aa - 1)) = j_ := ⟨_, rfl⟩
          replace H : (if 0 ≤ (ay) then (if (ay) < (l0.length : Int) then (spec_SightsOk.j1 k1 l0 aa (decide (((rd_T89 l0 aa).f0) < ((rd_T89 l0 (ay)).f0)))) else (none)) else (none)) = some r := by first | (rw [aR] at H; exact H) | (simp only [aR] at H ⊢; exact H)
          (try rw [aR] at A6)
          have hji11w : (IntKind.i64.wrap (aa - 1)) = ay := (i64_w _).trans aR
          by_cases bd : 0 ≤ (ay)
          ·rw [if_pos bd] at H
           have c12b0 : decide (0 ≤ (ay)) = true := decide_eq_true bd
           clear bd
           by_cases be : (ay) < (l0.length : Int)
           ·rw [if_pos be] at H
            have c13b0 : decide ((ay) < (l0.length : Int)) = true := decide_eq_true be
            clear be; have H' := zK H; clear H
            try go_wp2
            have aP := zK (zE HB.out)
            clear HB; have HB := aP; clear aP
            have aw : 0 ≤ (aa : Int) := of_decide_eq_true (by first | (with_reducible assumption) | assumption)
            have ax : aa < (l0.length : Int) := of_decide_eq_true (by first | (with_reducible assumption) | assumption)
            obtain ⟨ad, aT, ab, ac⟩ := at_T89 aS.out aa aw ax
            have ae := ac; have af := ab
            cases aT
            replace ab := (HB.out.cell (World.block_lt_of_cell? w _ ab)).trans ab
            replace ac := (HB.out.cell (World.block_lt_of_cell? w _ ac)).trans ac
            replace aw := eq_true aw; replace ax := eq_true ax
            have aH : 0 ≤ (aa : Int) := of_decide_eq_true (by first | (with_reducible assumption) | assumption)
            have aI : aa < (l0.length : Int) := of_decide_eq_true (by first | (with_reducible assumption) | assumption)
            obtain ⟨aQ, aZ, ag, ah⟩ := at_T89 aS.out aa aH aI
            have al := ah; have am := ag
            obtain rfl : ad = aQ := (by injection aZ)
            replace ag := (HB.out.cell (World.block_lt_of_cell? w _ ag)).trans ag
            replace ah := (HB.out.cell (World.block_lt_of_cell? w _ ah)).trans ah
            replace aH := eq_true aH; replace aI := eq_true aI
            have a5 : 0 ≤ (aa : Int) := of_decide_eq_true (by first | (with_reducible assumption) | assumption)
            have a6 : aa < (l0.length : Int) := of_decide_eq_true (by first | (with_reducible assumption) | assumption)
            obtain ⟨bm, e649, az, aA⟩ := at_T89 aS.out aa a5 a6
            have aJ := aA; have aK := az
            obtain rfl : ad = bm := (by injection e649)
            replace az := (HB.out.cell (World.block_lt_of_cell? w _ az)).trans az
            replace aA := (HB.out.cell (World.block_lt_of_cell? w _ aA)).trans aA
            replace a5 := eq_true a5; replace a6 := eq_true a6
            have a7 : 0 ≤ ((ay) : Int) := of_decide_eq_true (by first | (with_reducible assumption) | assumption)
            have a8 : (ay) < (l0.length : Int) := of_decide_eq_true (by first | (with_reducible assumption) | assumption)
            obtain ⟨bn, e650, aB, aC⟩ := at_T89 aS.out (ay) a7 a8
            have aL := aC; have aM := aB
            obtain rfl : ad = bn := (by injection e650)
            replace aB := (HB.out.cell (World.block_lt_of_cell? w _ aB)).trans aB
            replace aC := (HB.out.cell (World.block_lt_of_cell? w _ aC)).trans aC
            replace a7 := eq_true a7; replace a8 := eq_true a8
            refine start_ (n := 33) (S := fun w' => w'.cell? (ad.add ((aa).toNat * 2)) = some (.int .i64 ((rd_T89 l0 aa).f0)) ∧ w'.cell? ⟨(ad.add ((aa).toNat * 2)).block, (ad.add ((aa).toNat * 2)).off + 1, none⟩ = some (.int .i64 ((rd_T89 l0 aa).f1)) ∧ w'.cell? (ad.add ((aa).toNat * 2)) = some (.int .i64 ((rd_T89 l0 aa).f0)) ∧ w'.cell? ⟨(ad.add ((aa).toNat * 2)).block, (ad.add ((aa).toNat * 2)).off + 1, none⟩ = some (.int .i64 ((rd_T89 l0 aa).f1)) ∧ w'.cell? (ad.add ((aa).toNat * 2)) = some (.int .i64 ((rd_T89 l0 aa).f0)) ∧ w'.cell? ⟨(ad.add ((aa).toNat * 2)).block, (ad.add ((aa).toNat * 2)).off + 1, none⟩ = some (.int .i64 ((rd_T89 l0 aa).f1)) ∧ w'.cell? (ad.add (((ay)).toNat * 2)) = some (.int .i64 ((rd_T89 l0 (ay)).f0)) ∧ w'.cell? ⟨(ad.add (((ay)).toNat * 2)).block, (ad.add (((ay)).toNat * 2)).off + 1, none⟩ = some (.int .i64 ((rd_T89 l0 (ay)).f1))) (ds := []) #[ff, ff, ff, ff, ff, ff, ff, ff, ff, ff, ff, ff, ff, ff, ff, ff, ff, ff, ff, ff, ff, ff, ff, ff, ff, ff, ff, ff, ff, ff, ff, ff, ff] (by kernel_rfl) rfl rfl ⟨((HB.out.cell (World.block_lt_of_cell? w _ af)).trans af), ((HB.out.cell (World.block_lt_of_cell? w _ ae)).trans ae), ((HB.out.cell (World.block_lt_of_cell? w _ am)).trans am), ((HB.out.cell (World.block_lt_of_cell? w _ al)).trans al), ((HB.out.cell (World.block_lt_of_cell? w _ aK)).trans aK), ((HB.out.cell (World.block_lt_of_cell? w _ aJ)).trans aJ), ((HB.out.cell (World.block_lt_of_cell? w _ aM)).trans aM), ((HB.out.cell (World.block_lt_of_cell? w _ aL)).trans aL)⟩ (fun hHeld => ?_); refine with_tabW spec_SightsOk.tab6 spec_SightsOk.bits6 (fun HT_ HW_ => ?_)
            generalize wr.drew = w14 at HB ab ac ag ah az aA aB aC hHeld ⊢
            refine zu 0 (some 14) #[tt, ff, ff, ff, ff, ff, ff, ff, ff, ff, ff, ff, ff, ff, ff, ff, ff, ff, ff, ff, ff, ff, ff, ff, ff, ff, ff, ff, ff, ff, ff, ff, ff] (any_of HT_.out (by kernel_rfl)) ?_
            refine zu 1 (some 15) #[tt, tt, ff, ff, ff, ff, ff, ff, ff, ff, ff, ff, ff, ff, ff, ff, ff, ff, ff, ff, ff, ff, ff, ff, ff, ff, ff, ff, ff, ff, ff, ff, ff] (any_of HT_.out (by kernel_rfl)) ?_
            refine zu 2 (some 16) #[tt, tt, tt, ff, ff, ff, ff, ff, ff, ff, ff, ff, ff, ff, ff, ff, ff, ff, ff, ff, ff, ff, ff, ff, ff, ff, ff, ff, ff, ff, ff, ff, ff] (any_of HT_.out (by kernel_rfl)) ?_
            refine zu 3 (some 17) #[tt, tt, tt, tt, ff, ff, ff, ff, ff, ff, ff, ff, ff, ff, ff, ff, ff, ff, ff, ff, ff, ff, ff, ff, ff, ff, ff, ff, ff, ff, ff, ff, ff] (any_of HT_.out (by kernel_rfl)) ?_
            refine zt 4 (some 18) #[tt, tt, tt, tt, tt, ff, ff, ff, ff, ff, ff, ff, ff, ff, ff, ff, ff, ff, ff, ff, ff, ff, ff, ff, ff, ff, ff, ff, ff, ff, ff, ff, ff] (take_ofW HT_.out HW_.out (by kernel_rfl)) hHeld ?_
            refine one_ (i := 5) (N := some 19) #[tt, tt, tt, tt, tt, tt, ff, ff, ff, ff, ff, ff, ff, ff, ff, ff, ff, ff, ff, ff, ff, ff, ff, ff, ff, ff, ff, ff, ff, ff, ff, ff, ff] rfl rfl (one_of HT_.out (by kernel_rfl)) (by decide) (fun K hK => ?_)
            refine goes_ Try.func80 (by kernel_rfl) rfl #[.int .i64 ((rd_T89 l0 aa).f0), .int .i64 0, .int .i64 100000] (by rfl) rfl rfl (by (try simp only [List.map_toArray, List.map_cons, List.map_nil]); first | done | rfl | (simp only [List.length_drop, List.length_take]; rfl)) ?_
            with_reducible refine (spec_l01In.calls ((rd_T89 l0 aa).f0) 0 100000 true _ A6.out).mono ?_
            rintro e w' ⟨rfl, ⟨nd, rfl⟩⟩
            refine ⟨_, rfl, ?_⟩
            refine hK.out _ _ ⟨((HB.out.cell (World.block_lt_of_cell? w _ af)).trans af), ((HB.out.cell (World.block_lt_of_cell? w _ ae)).trans ae), ((HB.out.cell (World.block_lt_of_cell? w _ am)).trans am), ((HB.out.cell (World.block_lt_of_cell? w _ al)).trans al), ((HB.out.cell (World.block_lt_of_cell? w _ aK)).trans aK), ((HB.out.cell (World.block_lt_of_cell? w _ aJ)).trans aJ), ((HB.out.cell (World.block_lt_of_cell? w _ aM)).trans aM), ((HB.out.cell (World.block_lt_of_cell? w _ aL)).trans aL)⟩ (fun hHeld => ?_)
            clear hK K
            refine norm_ (a' := ?_) ?_ ?_
            rotate_left
            ·show Act.put _ (some 19) _ = _
             simp only [Act.put, zp, zq, zr, i64_w, i32_w]
             rfl
            refine zu 6 (some 20) #[tt, tt, tt, tt, tt, tt, tt, ff, ff, ff, ff, ff, ff, ff, ff, ff, ff, ff, ff, ff, ff, ff, ff, ff, ff, ff, ff, ff, ff, ff, ff, ff, ff] (any_of HT_.out (by kernel_rfl)) ?_
            refine zu 7 (some 21) #[tt, tt, tt, tt, tt, tt, tt, tt, ff, ff, ff, ff, ff, ff, ff, ff, ff, ff, ff, ff, ff, ff, ff, ff, ff, ff, ff, ff, ff, ff, ff, ff, ff] (any_of HT_.out (by kernel_rfl)) ?_
            refine zu 8 (some 22) #[tt, tt, tt, tt, tt, tt, tt, tt, tt, ff, ff, ff, ff, ff, ff, ff, ff, ff, ff, ff, ff, ff, ff, ff, ff, ff, ff, ff, ff, ff, ff, ff, ff] (any_of HT_.out (by kernel_rfl)) ?_
            refine zu 9 (some 23) #[tt, tt, tt, tt, tt, tt, tt, tt, tt, tt, ff, ff, ff, ff, ff, ff, ff, ff, ff, ff, ff, ff, ff, ff, ff, ff, ff, ff, ff, ff, ff, ff, ff] (any_of HT_.out (by kernel_rfl)) ?_
            refine zu 10 (some 24) #[tt, tt, tt, tt, tt, tt, tt, tt, tt, tt, tt, ff, ff, ff, ff, ff, ff, ff, ff, ff, ff, ff, ff, ff, ff, ff, ff, ff, ff, ff, ff, ff, ff] (any_of HT_.out (by kernel_rfl)) ?_
            refine zu 11 (some 25) #[tt, tt, tt, tt, tt, tt, tt, tt, tt, tt, tt, tt, ff, ff, ff, ff, ff, ff, ff, ff, ff, ff, ff, ff, ff, ff, ff, ff, ff, ff, ff, ff, ff] (any_of HT_.out (by kernel_rfl)) ?_
            refine zt 12 (some 26) #[tt, tt, tt, tt, tt, tt, tt, tt, tt, tt, tt, tt, tt, ff, ff, ff, ff, ff, ff, ff, ff, ff, ff, ff, ff, ff, ff, ff, ff, ff, ff, ff, ff] (take_ofW HT_.out HW_.out (by kernel_rfl)) hHeld ?_
            refine zu 13 (some 27) #[tt, tt, tt, tt, tt, tt, tt, tt, tt, tt, tt, tt, tt, tt, ff, ff, ff, ff, ff, ff, ff, ff, ff, ff, ff, ff, ff, ff, ff, ff, ff, ff, ff] (any_of HT_.out (by kernel_rfl)) ?_
            refine zu 14 (some 28) #[tt, tt, tt, tt, tt, tt, tt, tt, tt, tt, tt, tt, tt, tt, tt, ff, ff, ff, ff, ff, ff, ff, ff, ff, ff, ff, ff, ff, ff, ff, ff, ff, ff] (any_of HT_.out (by kernel_rfl)) ?_
            refine zu 15 (some 29) #[tt, tt, tt, tt, tt, tt, tt, tt, tt, tt, tt, tt, tt, tt, tt, tt, ff, ff, ff, ff, ff, ff, ff, ff, ff, ff, ff, ff, ff, ff, ff, ff, ff] (any_of HT_.out (by kernel_rfl)) ?_
            refine zu 16 (some 30) #[tt, tt, tt, tt, tt, tt, tt, tt, tt, tt, tt, tt, tt, tt, tt, tt, tt, ff, ff, ff, ff, ff, ff, ff, ff, ff, ff, ff, ff, ff, ff, ff, ff] (any_of HT_.out (by kernel_rfl)) ?_
            refine zu 17 (some 31) #[tt, tt, tt, tt, tt, tt, tt, tt, tt, tt, tt, tt, tt, tt, tt, tt, tt, tt, ff, ff, ff, ff, ff, ff, ff, ff, ff, ff, ff, ff, ff, ff, ff] (any_of HT_.out (by kernel_rfl)) ?_
            refine zu 18 (some 32) #[tt, tt, tt, tt, tt, tt, tt, tt, tt, tt, tt, tt, tt, tt, tt, tt, tt, tt, tt, ff, ff, ff, ff, ff, ff, ff, ff, ff, ff, ff, ff, ff, ff] (any_of HT_.out (by kernel_rfl)) ?_
            refine zu 19 (some 33) #[tt, tt, tt, tt, tt, tt, tt, tt, tt, tt, tt, tt, tt, tt, tt, tt, tt, tt, tt, tt, ff, ff, ff, ff, ff, ff, ff, ff, ff, ff, ff, ff, ff] (any_of HT_.out (by kernel_rfl)) ?_
            refine zu 20 (some 34) #[tt, tt, tt, tt, tt, tt, tt, tt, tt, tt, tt, tt, tt, tt, tt, tt, tt, tt, tt, tt, tt, ff, ff, ff, ff, ff, ff, ff, ff, ff, ff, ff, ff] (any_of HT_.out (by kernel_rfl)) ?_
            refine zu 21 (some 35) #[tt, tt, tt, tt, tt, tt, tt, tt, tt, tt, tt, tt, tt, tt, tt, tt, tt, tt, tt, tt, tt, tt, ff, ff, ff, ff, ff, ff, ff, ff, ff, ff, ff] (any_of HT_.out (by kernel_rfl)) ?_
            refine zu 22 (some 36) #[tt, tt, tt, tt, tt, tt, tt, tt, tt, tt, tt, tt, tt, tt, tt, tt, tt, tt, tt, tt, tt, tt, tt, ff, ff, ff, ff, ff, ff, ff, ff, ff, ff] (any_of HT_.out (by kernel_rfl)) ?_
            refine zu 24 (some 38) #[tt, tt, tt, tt, tt, tt, tt, tt, tt, tt, tt, tt, tt, tt, tt, tt, tt, tt, tt, tt, tt, tt, tt, ff, tt, ff, ff, ff, ff, ff, ff, ff, ff] (any_of HT_.out (by kernel_rfl)) ?_
            refine zu 25 (some 39) #[tt, tt, tt, tt, tt, tt, tt, tt, tt, tt, tt, tt, tt, tt, tt, tt, tt, tt, tt, tt, tt, tt, tt, ff, tt, tt, ff, ff, ff, ff, ff, ff, ff] (any_of HT_.out (by kernel_rfl)) ?_
            refine zu 26 (some 40) #[tt, tt, tt, tt, tt, tt, tt, tt, tt, tt, tt, tt, tt, tt, tt, tt, tt, tt, tt, tt, tt, tt, tt, ff, tt, tt, tt, ff, ff, ff, ff, ff, ff] (any_of HT_.out (by kernel_rfl)) ?_
            refine zu 27 (some 41) #[tt, tt, tt, tt, tt, tt, tt, tt, tt, tt, tt, tt, tt, tt, tt, tt, tt, tt, tt, tt, tt, tt, tt, ff, tt, tt, tt, tt, ff, ff, ff, ff, ff] (any_of HT_.out (by kernel_rfl)) ?_
            refine zu 28 (some 42) #[tt, tt, tt, tt, tt, tt, tt, tt, tt, tt, tt, tt, tt, tt, tt, tt, tt, tt, tt, tt, tt, tt, tt, ff, tt, tt, tt, tt, tt, ff, ff, ff, ff] (any_of HT_.out (by kernel_rfl)) ?_
            refine zt 23 (some 37) #[tt, tt, tt, tt, tt, tt, tt, tt, tt, tt, tt, tt, tt, tt, tt, tt, tt, tt, tt, tt, tt, tt, tt, tt, tt, tt, tt, tt, tt, ff, ff, ff, ff] (take_ofW HT_.out HW_.out (by kernel_rfl)) hHeld ?_
            refine zt 29 (some 43) #[tt, tt, tt, tt, tt, tt, tt, tt, tt, tt, tt, tt, tt, tt, tt, tt, tt, tt, tt, tt, tt, tt, tt, tt, tt, tt, tt, tt, tt, tt, ff, ff, ff] (take_ofW HT_.out HW_.out (by kernel_rfl)) hHeld ?_
            refine zu 30 (some 44) #[tt, tt, tt, tt, tt, tt, tt, tt, tt, tt, tt, tt, tt, tt, tt, tt, tt, tt, tt, tt, tt, tt, tt, tt, tt, tt, tt, tt, tt, tt, tt, ff, ff] (any_of HT_.out (by kernel_rfl)) ?_
            refine zu 31 (some 45) #[tt, tt, tt, tt, tt, tt, tt, tt, tt, tt, tt, tt, tt, tt, tt, tt, tt, tt, tt, tt, tt, tt, tt, tt, tt, tt, tt, tt, tt, tt, tt, tt, ff] (any_of HT_.out (by kernel_rfl)) ?_
            refine zu 32 (some 46) #[tt, tt, tt, tt, tt, tt, tt, tt, tt, tt, tt, tt, tt, tt, tt, tt, tt, tt, tt, tt, tt, tt, tt, tt, tt, tt, tt, tt, tt, tt, tt, tt, tt] (any_of HT_.out (by kernel_rfl)) ?_
            refine done_ (done_of HT_.out (by kernel_rfl)) ?_
            try go_wp2
            go_meet
            case rel => exact ⟨_, (decide (((rd_T89 l0 aa).f0) < ((rd_T89 l0 (ay)).f0))), (by first | rfl | (simp; done) | (simp only [← aR] <;> (first | rfl | simp)) | (simp [*]; done)), H', ⟨by have := a4.out; first | omega | exact Nat.le_refl _⟩, ⟨zb HB⟩⟩
           ·rw [if_neg be] at H
            exact absurd H (by simp)
          ·rw [if_neg bd] at H
           exact absurd H (by simp)
         ·rw [if_neg c10] at H
          have a0 : decide (0 < aa) = false := decide_eq_false c10
          clear c10; have H' := zK H; clear H
          try go_wp2
          have aP := zK (zE HB.out)
          clear HB; have HB := aP; clear aP
          have aw : 0 ≤ (aa : Int) := of_decide_eq_true (by first | (with_reducible assumption) | assumption)
          have ax : aa < (l0.length : Int) := of_decide_eq_true (by first | (with_reducible assumption) | assumption)
          obtain ⟨ad, aT, ab, ac⟩ := at_T89 aS.out aa aw ax
          have ae := ac; have af := ab
          cases aT
          replace ab := (HB.out.cell (World.block_lt_of_cell? w _ ab)).trans ab
          replace ac := (HB.out.cell (World.block_lt_of_cell? w _ ac)).trans ac
          replace aw := eq_true aw; replace ax := eq_true ax
          have aH : 0 ≤ (aa : Int) := of_decide_eq_true (by first | (with_reducible assumption) | assumption)
          have aI : aa < (l0.length : Int) := of_decide_eq_true (by first | (with_reducible assumption) | assumption)
          obtain ⟨aQ, aZ, ag, ah⟩ := at_T89 aS.out aa aH aI
          have al := ah; have am := ag
          obtain rfl : ad = aQ := (by injection aZ)
          replace ag := (HB.out.cell (World.block_lt_of_cell? w _ ag)).trans ag
          replace ah := (HB.out.cell (World.block_lt_of_cell? w _ ah)).trans ah
          replace aH := eq_true aH; replace aI := eq_true aI
          refine start_ (n := 33) (S := fun w' => w'.cell? (ad.add ((aa).toNat * 2)) = some (.int .i64 ((rd_T89 l0 aa).f0)) ∧ w'.cell? ⟨(ad.add ((aa).toNat * 2)).block, (ad.add ((aa).toNat * 2)).off + 1, none⟩ = some (.int .i64 ((rd_T89 l0 aa).f1)) ∧ w'.cell? (ad.add ((aa).toNat * 2)) = some (.int .i64 ((rd_T89 l0 aa).f0)) ∧ w'.cell? ⟨(ad.add ((aa).toNat * 2)).block, (ad.add ((aa).toNat * 2)).off + 1, none⟩ = some (.int .i64 ((rd_T89 l0 aa).f1))) (ds := []) #[ff, ff, ff, ff, ff, ff, ff, ff, ff, ff, ff, ff, ff, ff, ff, ff, ff, ff, ff, ff, ff, ff, ff, ff, ff, ff, ff, ff, ff, ff, ff, ff, ff] (by kernel_rfl) rfl rfl ⟨((HB.out.cell (World.block_lt_of_cell? w _ af)).trans af), ((HB.out.cell (World.block_lt_of_cell? w _ ae)).trans ae), ((HB.out.cell (World.block_lt_of_cell? w _ am)).trans am), ((HB.out.cell (World.block_lt_of_cell? w _ al)).trans al)⟩ (fun hHeld => ?_); refine with_tabW spec_SightsOk.tab6 spec_SightsOk.bits6 (fun HT_ HW_ => ?_)
          generalize wr.drew = w15 at HB ab ac ag ah hHeld ⊢
          refine zu 0 (some 14) #[tt, ff, ff, ff, ff, ff, ff, ff, ff, ff, ff, ff, ff, ff, ff, ff, ff, ff, ff, ff, ff, ff, ff, ff, ff, ff, ff, ff, ff, ff, ff, ff, ff] (any_of HT_.out (by kernel_rfl)) ?_
          refine zu 1 (some 15) #[tt, tt, ff, ff, ff, ff, ff, ff, ff, ff, ff, ff, ff, ff, ff, ff, ff, ff, ff, ff, ff, ff, ff, ff, ff, ff, ff, ff, ff, ff, ff, ff, ff] (any_of HT_.out (by kernel_rfl)) ?_
          refine zu 2 (some 16) #[tt, tt, tt, ff, ff, ff, ff, ff, ff, ff, ff, ff, ff, ff, ff, ff, ff, ff, ff, ff, ff, ff, ff, ff, ff, ff, ff, ff, ff, ff, ff, ff, ff] (any_of HT_.out (by kernel_rfl)) ?_
          refine zu 3 (some 17) #[tt, tt, tt, tt, ff, ff, ff, ff, ff, ff, ff, ff, ff, ff, ff, ff, ff, ff, ff, ff, ff, ff, ff, ff, ff, ff, ff, ff, ff, ff, ff, ff, ff] (any_of HT_.out (by kernel_rfl)) ?_
          refine zt 4 (some 18) #[tt, tt, tt, tt, tt, ff, ff, ff, ff, ff, ff, ff, ff, ff, ff, ff, ff, ff, ff, ff, ff, ff, ff, ff, ff, ff, ff, ff, ff, ff, ff, ff, ff] (take_ofW HT_.out HW_.out (by kernel_rfl)) hHeld ?_
          refine one_ (i := 5) (N := some 19) #[tt, tt, tt, tt, tt, tt, ff, ff, ff, ff, ff, ff, ff, ff, ff, ff, ff, ff, ff, ff, ff, ff, ff, ff, ff, ff, ff, ff, ff, ff, ff, ff, ff] rfl rfl (one_of HT_.out (by kernel_rfl)) (by decide) (fun K hK => ?_)
          refine goes_ Try.func80 (by kernel_rfl) rfl #[.int .i64 ((rd_T89 l0 aa).f0), .int .i64 0, .int .i64 100000] (by rfl) rfl rfl (by (try simp only [List.map_toArray, List.map_cons, List.map_nil]); first | done | rfl | (simp only [List.length_drop, List.length_take]; rfl)) ?_
          with_reducible refine (spec_l01In.calls ((rd_T89 l0 aa).f0) 0 100000 true _ A6.out).mono ?_
          rintro e w' ⟨rfl, ⟨nd, rfl⟩⟩
          refine ⟨_, rfl, ?_⟩
          refine hK.out _ _ ⟨((HB.out.cell (World.block_lt_of_cell? w _ af)).trans af), ((HB.out.cell (World.block_lt_of_cell? w _ ae)).trans ae), ((HB.out.cell (World.block_lt_of_cell? w _ am)).trans am), ((HB.out.cell (World.block_lt_of_cell? w _ al)).trans al)⟩ (fun hHeld => ?_)
          clear hK K
          refine norm_ (a' := ?_) ?_ ?_
          rotate_left
          ·show Act.put _ (some 19) _ = _
           simp only [Act.put, zp, zq, zr, i64_w, i32_w]
           rfl
          refine zu 6 (some 20) #[tt, tt, tt, tt, tt, tt, tt, ff, ff, ff, ff, ff, ff, ff, ff, ff, ff, ff, ff, ff, ff, ff, ff, ff, ff, ff, ff, ff, ff, ff, ff, ff, ff] (any_of HT_.out (by kernel_rfl)) ?_
          refine zu 7 (some 21) #[tt, tt, tt, tt, tt, tt, tt, tt, ff, ff, ff, ff, ff, ff, ff, ff, ff, ff, ff, ff, ff, ff, ff, ff, ff, ff, ff, ff, ff, ff, ff, ff, ff] (any_of HT_.out (by kernel_rfl)) ?_
          refine zu 8 (some 22) #[tt, tt, tt, tt, tt, tt, tt, tt, tt, ff, ff, ff, ff, ff, ff, ff, ff, ff, ff, ff, ff, ff, ff, ff, ff, ff, ff, ff, ff, ff, ff, ff, ff] (any_of HT_.out (by kernel_rfl)) ?_
          refine zu 9 (some 23) #[tt, tt, tt, tt, tt, tt, tt, tt, tt, tt, ff, ff, ff, ff, ff, ff, ff, ff, ff, ff, ff, ff, ff, ff, ff, ff, ff, ff, ff, ff, ff, ff, ff] (any_of HT_.out (by kernel_rfl)) ?_
          refine zu 10 (some 24) #[tt, tt, tt, tt, tt, tt, tt, tt, tt, tt, tt, ff, ff, ff, ff, ff, ff, ff, ff, ff, ff, ff, ff, ff, ff, ff, ff, ff, ff, ff, ff, ff, ff] (any_of HT_.out (by kernel_rfl)) ?_
          refine zu 11 (some 25) #[tt, tt, tt, tt, tt, tt, tt, tt, tt, tt, tt, tt, ff, ff, ff, ff, ff, ff, ff, ff, ff, ff, ff, ff, ff, ff, ff, ff, ff, ff, ff, ff, ff] (any_of HT_.out (by kernel_rfl)) ?_
          refine zt 12 (some 26) #[tt, tt, tt, tt, tt, tt, tt, tt, tt, tt, tt, tt, tt, ff, ff, ff, ff, ff, ff, ff, ff, ff, ff, ff, ff, ff, ff, ff, ff, ff, ff, ff, ff] (take_ofW HT_.out HW_.out (by kernel_rfl)) hHeld ?_
          refine zu 13 (some 27) #[tt, tt, tt, tt, tt, tt, tt, tt, tt, tt, tt, tt, tt, tt, ff, ff, ff, ff, ff, ff, ff, ff, ff, ff, ff, ff, ff, ff, ff, ff, ff, ff, ff] (any_of HT_.out (by kernel_rfl)) ?_
          refine zu 14 (some 28) #[tt, tt, tt, tt, tt, tt, tt, tt, tt, tt, tt, tt, tt, tt, tt, ff, ff, ff, ff, ff, ff, ff, ff, ff, ff, ff, ff, ff, ff, ff, ff, ff, ff] (any_of HT_.out (by kernel_rfl)) ?_
          refine zu 15 (some 29) #[tt, tt, tt, tt, tt, tt, tt, tt, tt, tt, tt, tt, tt, tt, tt, tt, ff, ff, ff, ff, ff, ff, ff, ff, ff, ff, ff, ff, ff, ff, ff, ff, ff] (any_of HT_.out (by kernel_rfl)) ?_
          refine zu 16 (some 30) #[tt, tt, tt, tt, tt, tt, tt, tt, tt, tt, tt, tt, tt, tt, tt, tt, tt, ff, ff, ff, ff, ff, ff, ff, ff, ff, ff, ff, ff, ff, ff, ff, ff] (any_of HT_.out (by kernel_rfl)) ?_
          refine zu 17 (some 31) #[tt, tt, tt, tt, tt, tt, tt, tt, tt, tt, tt, tt, tt, tt, tt, tt, tt, tt, ff, ff, ff, ff, ff, ff, ff, ff, ff, ff, ff, ff, ff, ff, ff] (any_of HT_.out (by kernel_rfl)) ?_
          refine zu 18 (some 32) #[tt, tt, tt, tt, tt, tt, tt, tt, tt, tt, tt, tt, tt, tt, tt, tt, tt, tt, tt, ff, ff, ff, ff, ff, ff, ff, ff, ff, ff, ff, ff, ff, ff] (any_of HT_.out (by kernel_rfl)) ?_
          refine pure_ (i := 19) (N := some 33) (v := undef) (a' := ?_) #[tt, tt, tt, tt, tt, tt, tt, tt, tt, tt, tt, tt, tt, tt, tt, tt, tt, tt, tt, tt, ff, ff, ff, ff, ff, ff, ff, ff, ff, ff, ff, ff, ff] rfl rfl (any_of HT_.out (by kernel_rfl)) (fun _ _ _ h => h) (Or.inr ⟨by rfl, rfl⟩) ?_ ?_
          rotate_left
          ·simp only [Act.put, zp, zq, zr, i64_w, i32_w]
           rfl
          refine pure_ (i := 20) (N := some 34) (v := undef) (a' := ?_) #[tt, tt, tt, tt, tt, tt, tt, tt, tt, tt, tt, tt, tt, tt, tt, tt, tt, tt, tt, tt, tt, ff, ff, ff, ff, ff, ff, ff, ff, ff, ff, ff, ff] rfl rfl (any_of HT_.out (by kernel_rfl)) (fun _ _ _ h => h) (Or.inr ⟨by rfl, rfl⟩) ?_ ?_
          rotate_left
          ·simp only [Act.put, zp, zq, zr, i64_w, i32_w]
           rfl
          refine pure_ (i := 21) (N := some 35) (v := undef) (a' := ?_) #[tt, tt, tt, tt, tt, tt, tt, tt, tt, tt, tt, tt, tt, tt, tt, tt, tt, tt, tt, tt, tt, tt, ff, ff, ff, ff, ff, ff, ff, ff, ff, ff, ff] rfl rfl (any_of HT_.out (by kernel_rfl)) (fun _ _ _ h => h) (Or.inr ⟨by rfl, rfl⟩) ?_ ?_
          rotate_left
          ·simp only [Act.put, zp, zq, zr, i64_w, i32_w]
           rfl
          refine pure_ (i := 22) (N := some 36) (v := undef) (a' := ?_) #[tt, tt, tt, tt, tt, tt, tt, tt, tt, tt, tt, tt, tt, tt, tt, tt, tt, tt, tt, tt, tt, tt, tt, ff, ff, ff, ff, ff, ff, ff, ff, ff, ff] rfl rfl (any_of HT_.out (by kernel_rfl)) (fun _ _ _ h => h) (Or.inr ⟨by rfl, rfl⟩) ?_ ?_
          rotate_left
          ·simp only [Act.put, zp, zq, zr, i64_w, i32_w]
           rfl
          refine pure_ (i := 23) (N := some 37) (v := undef) (a' := ?_) #[tt, tt, tt, tt, tt, tt, tt, tt, tt, tt, tt, tt, tt, tt, tt, tt, tt, tt, tt, tt, tt, tt, tt, tt, ff, ff, ff, ff, ff, ff, ff, ff, ff] rfl rfl (any_of HT_.out (by kernel_rfl)) (fun _ _ _ h => h) (Or.inr ⟨by rfl, rfl⟩) ?_ ?_
          rotate_left
          ·simp only [Act.put, zp, zq, zr, i64_w, i32_w]
           rfl
          refine pure_ (i := 24) (N := some 38) (v := undef) (a' := ?_) #[tt, tt, tt, tt, tt, tt, tt, tt, tt, tt, tt, tt, tt, tt, tt, tt, tt, tt, tt, tt, tt, tt, tt, tt, tt, ff, ff, ff, ff, ff, ff, ff, ff] rfl rfl (any_of HT_.out (by kernel_rfl)) (fun _ _ _ h => h) (Or.inr ⟨by rfl, rfl⟩) ?_ ?_
          rotate_left
          ·simp only [Act.put, zp, zq, zr, i64_w, i32_w]
           rfl
          refine pure_ (i := 25) (N := some 39) (v := undef) (a' := ?_) #[tt, tt, tt, tt, tt, tt, tt, tt, tt, tt, tt, tt, tt, tt, tt, tt, tt, tt, tt, tt, tt, tt, tt, tt, tt, tt, ff, ff, ff, ff, ff, ff, ff] rfl rfl (any_of HT_.out (by kernel_rfl)) (fun _ _ _ h => h) (Or.inr ⟨by rfl, rfl⟩) ?_ ?_
          rotate_left
          ·simp only [Act.put, zp, zq, zr, i64_w, i32_w]
           rfl
          refine pure_ (i := 26) (N := some 40) (v := undef) (a' := ?_) #[tt, tt, tt, tt, tt, tt, tt, tt, tt, tt, tt, tt, tt, tt, tt, tt, tt, tt, tt, tt, tt, tt, tt, tt, tt, tt, tt, ff, ff, ff, ff, ff, ff] rfl rfl (any_of HT_.out (by kernel_rfl)) (fun _ _ _ h => h) (Or.inr ⟨by rfl, rfl⟩) ?_ ?_
          rotate_left
          ·simp only [Act.put, zp, zq, zr, i64_w, i32_w]
           rfl
          refine pure_ (i := 27) (N := some 41) (v := undef) (a' := ?_) #[tt, tt, tt, tt, tt, tt, tt, tt, tt, tt, tt, tt, tt, tt, tt, tt, tt, tt, tt, tt, tt, tt, tt, tt, tt, tt, tt, tt, ff, ff, ff, ff, ff] rfl rfl (any_of HT_.out (by kernel_rfl)) (fun _ _ _ h => h) (Or.inr ⟨by rfl, rfl⟩) ?_ ?_
          rotate_left
          ·simp only [Act.put, zp, zq, zr, i64_w, i32_w]
           rfl
          refine pure_ (i := 28) (N := some 42) (v := undef) (a' := ?_) #[tt, tt, tt, tt, tt, tt, tt, tt, tt, tt, tt, tt, tt, tt, tt, tt, tt, tt, tt, tt, tt, tt, tt, tt, tt, tt, tt, tt, tt, ff, ff, ff, ff] rfl rfl (any_of HT_.out (by kernel_rfl)) (fun _ _ _ h => h) (Or.inr ⟨by rfl, rfl⟩) ?_ ?_
          rotate_left
          ·simp only [Act.put, zp, zq, zr, i64_w, i32_w]
           rfl
          refine pure_ (i := 29) (N := some 43) (v := undef) (a' := ?_) #[tt, tt, tt, tt, tt, tt, tt, tt, tt, tt, tt, tt, tt, tt, tt, tt, tt, tt, tt, tt, tt, tt, tt, tt, tt, tt, tt, tt, tt, tt, ff, ff, ff] rfl rfl (any_of HT_.out (by kernel_rfl)) (fun _ _ _ h => h) (Or.inr ⟨by rfl, rfl⟩) ?_ ?_
          rotate_left
          ·simp only [Act.put, zp, zq, zr, i64_w, i32_w]
           rfl
          refine pure_ (i := 30) (N := some 44) (v := undef) (a' := ?_) #[tt, tt, tt, tt, tt, tt, tt, tt, tt, tt, tt, tt, tt, tt, tt, tt, tt, tt, tt, tt, tt, tt, tt, tt, tt, tt, tt, tt, tt, tt, tt, ff, ff] rfl rfl (any_of HT_.out (by kernel_rfl)) (fun _ _ _ h => h) (Or.inr ⟨by rfl, rfl⟩) ?_ ?_
          rotate_left
          ·simp only [Act.put, zp, zq, zr, i64_w, i32_w]
           rfl
          refine zu 31 (some 45) #[tt, tt, tt, tt, tt, tt, tt, tt, tt, tt, tt, tt, tt, tt, tt, tt, tt, tt, tt, tt, tt, tt, tt, tt, tt, tt, tt, tt, tt, tt, tt, tt, ff] (any_of HT_.out (by kernel_rfl)) ?_
          refine zu 32 (some 46) #[tt, tt, tt, tt, tt, tt, tt, tt, tt, tt, tt, tt, tt, tt, tt, tt, tt, tt, tt, tt, tt, tt, tt, tt, tt, tt, tt, tt, tt, tt, tt, tt, tt] (any_of HT_.out (by kernel_rfl)) ?_
          refine done_ (done_of HT_.out (by kernel_rfl)) ?_
          try go_wp2
          go_meet
          case rel => exact ⟨_, (false), (by first | rfl | (simp; done) | (simp [*]; done)), H', ⟨by have := a4.out; first | omega | exact Nat.le_refl _⟩, ⟨zb HB⟩⟩
       ·replace c7 := Bool.eq_false_iff.mpr c7
        subst c7
        have H1 : (spec_SightsOk.j1 k1 l0 aa true) = some r := by rw [if_neg (show ¬ (false = true) by decide)] at H; exact H
        clear H; have H := H1; clear H1; have H' := zK H; clear H
        try go_wp2
        have aP := zK (zE HB.out)
        clear HB; have HB := aP; clear aP
        have aw : 0 ≤ (aa : Int) := of_decide_eq_true (by first | (with_reducible assumption) | assumption)
        have ax : aa < (l0.length : Int) := of_decide_eq_true (by first | (with_reducible assumption) | assumption)
        obtain ⟨ad, aT, ab, ac⟩ := at_T89 aS.out aa aw ax
        have ae := ac; have af := ab
        cases aT
        replace ab := (HB.out.cell (World.block_lt_of_cell? w _ ab)).trans ab
        replace ac := (HB.out.cell (World.block_lt_of_cell? w _ ac)).trans ac
        replace aw := eq_true aw; replace ax := eq_true ax
        refine start_ (n := 33) (S := fun w' => w'.cell? (ad.add ((aa).toNat * 2)) = some (.int .i64 ((rd_T89 l0 aa).f0)) ∧ w'.cell? ⟨(ad.add ((aa).toNat * 2)).block, (ad.add ((aa).toNat * 2)).off + 1, none⟩ = some (.int .i64 ((rd_T89 l0 aa).f1))) (ds := []) #[ff, ff, ff, ff, ff, ff, ff, ff, ff, ff, ff, ff, ff, ff, ff, ff, ff, ff, ff, ff, ff, ff, ff, ff, ff, ff, ff, ff, ff, ff, ff, ff, ff] (by kernel_rfl) rfl rfl ⟨((HB.out.cell (World.block_lt_of_cell? w _ af)).trans af), ((HB.out.cell (World.block_lt_of_cell? w _ ae)).trans ae)⟩ (fun hHeld => ?_); refine with_tabW spec_SightsOk.tab6 spec_SightsOk.bits6 (fun HT_ HW_ => ?_)
        generalize wr.drew = w16 at HB ab ac hHeld ⊢
        refine zu 0 (some 14) #[tt, ff, ff, ff, ff, ff, ff, ff, ff, ff, ff, ff, ff, ff, ff, ff, ff, ff, ff, ff, ff, ff, ff, ff, ff, ff, ff, ff, ff, ff, ff, ff, ff] (any_of HT_.out (by kernel_rfl)) ?_
        refine zu 1 (some 15) #[tt, tt, ff, ff, ff, ff, ff, ff, ff, ff, ff, ff, ff, ff, ff, ff, ff, ff, ff, ff, ff, ff, ff, ff, ff, ff, ff, ff, ff, ff, ff, ff, ff] (any_of HT_.out (by kernel_rfl)) ?_
        refine zu 2 (some 16) #[tt, tt, tt, ff, ff, ff, ff, ff, ff, ff, ff, ff, ff, ff, ff, ff, ff, ff, ff, ff, ff, ff, ff, ff, ff, ff, ff, ff, ff, ff, ff, ff, ff] (any_of HT_.out (by kernel_rfl)) ?_
        refine zu 3 (some 17) #[tt, tt, tt, tt, ff, ff, ff, ff, ff, ff, ff, ff, ff, ff, ff, ff, ff, ff, ff, ff, ff, ff, ff, ff, ff, ff, ff, ff, ff, ff, ff, ff, ff] (any_of HT_.out (by kernel_rfl)) ?_
        refine zt 4 (some 18) #[tt, tt, tt, tt, tt, ff, ff, ff, ff, ff, ff, ff, ff, ff, ff, ff, ff, ff, ff, ff, ff, ff, ff, ff, ff, ff, ff, ff, ff, ff, ff, ff, ff] (take_ofW HT_.out HW_.out (by kernel_rfl)) hHeld ?_
        refine one_ (i := 5) (N := some 19) #[tt, tt, tt, tt, tt, tt, ff, ff, ff, ff, ff, ff, ff, ff, ff, ff, ff, ff, ff, ff, ff, ff, ff, ff, ff, ff, ff, ff, ff, ff, ff, ff, ff] rfl rfl (one_of HT_.out (by kernel_rfl)) (by decide) (fun K hK => ?_)
        refine goes_ Try.func80 (by kernel_rfl) rfl #[.int .i64 ((rd_T89 l0 aa).f0), .int .i64 0, .int .i64 100000] (by rfl) rfl rfl (by (try simp only [List.map_toArray, List.map_cons, List.map_nil]); first | done | rfl | (simp only [List.length_drop, List.length_take]; rfl)) ?_
        with_reducible refine (spec_l01In.calls ((rd_T89 l0 aa).f0) 0 100000 false _ A6.out).mono ?_
        rintro e w' ⟨rfl, ⟨nd, rfl⟩⟩
        refine ⟨_, rfl, ?_⟩
        refine hK.out _ _ ⟨((HB.out.cell (World.block_lt_of_cell? w _ af)).trans af), ((HB.out.cell (World.block_lt_of_cell? w _ ae)).trans ae)⟩ (fun hHeld => ?_)
        clear hK K
        refine norm_ (a' := ?_) ?_ ?_
        rotate_left
        ·show Act.put _ (some 19) _ = _
         simp only [Act.put, zp, zq, zr, i64_w, i32_w]
         rfl
        refine zu 6 (some 20) #[tt, tt, tt, tt, tt, tt, tt, ff, ff, ff, ff, ff, ff, ff, ff, ff, ff, ff, ff, ff, ff, ff, ff, ff, ff, ff, ff, ff, ff, ff, ff, ff, ff] (any_of HT_.out (by kernel_rfl)) ?_
        refine zu 7 (some 21) #[tt, tt, tt, tt, tt, tt, tt, tt, ff, ff, ff, ff, ff, ff, ff, ff, ff, ff, ff, ff, ff, ff, ff, ff, ff, ff, ff, ff, ff, ff, ff, ff, ff] (any_of HT_.out (by kernel_rfl)) ?_
        refine pure_ (i := 8) (N := some 22) (v := undef) (a' := ?_) #[tt, tt, tt, tt, tt, tt, tt, tt, tt, ff, ff, ff, ff, ff, ff, ff, ff, ff, ff, ff, ff, ff, ff, ff, ff, ff, ff, ff, ff, ff, ff, ff, ff] rfl rfl (any_of HT_.out (by kernel_rfl)) (fun _ _ _ h => h) (Or.inr ⟨by rfl, rfl⟩) ?_ ?_
        rotate_left
        ·simp only [Act.put, zp, zq, zr, i64_w, i32_w]
         rfl
        refine pure_ (i := 9) (N := some 23) (v := undef) (a' := ?_) #[tt, tt, tt, tt, tt, tt, tt, tt, tt, tt, ff, ff, ff, ff, ff, ff, ff, ff, ff, ff, ff, ff, ff, ff, ff, ff, ff, ff, ff, ff, ff, ff, ff] rfl rfl (any_of HT_.out (by kernel_rfl)) (fun _ _ _ h => h) (Or.inr ⟨by rfl, rfl⟩) ?_ ?_
        rotate_left
        ·simp only [Act.put, zp, zq, zr, i64_w, i32_w]
         rfl
        refine pure_ (i := 10) (N := some 24) (v := undef) (a' := ?_) #[tt, tt, tt, tt, tt, tt, tt, tt, tt, tt, tt, ff, ff, ff, ff, ff, ff, ff, ff, ff, ff, ff, ff, ff, ff, ff, ff, ff, ff, ff, ff, ff, ff] rfl rfl (any_of HT_.out (by kernel_rfl)) (fun _ _ _ h => h) (Or.inr ⟨by rfl, rfl⟩) ?_ ?_
        rotate_left
        ·simp only [Act.put, zp, zq, zr, i64_w, i32_w]
         rfl
        refine pure_ (i := 11) (N := some 25) (v := undef) (a' := ?_) #[tt, tt, tt, tt, tt, tt, tt, tt, tt, tt, tt, tt, ff, ff, ff, ff, ff, ff, ff, ff, ff, ff, ff, ff, ff, ff, ff, ff, ff, ff, ff, ff, ff] rfl rfl (any_of HT_.out (by kernel_rfl)) (fun _ _ _ h => h) (Or.inr ⟨by rfl, rfl⟩) ?_ ?_
        rotate_left
        ·simp only [Act.put, zp, zq, zr, i64_w, i32_w]
         rfl
        refine pure_ (i := 12) (N := some 26) (v := undef) (a' := ?_) #[tt, tt, tt, tt, tt, tt, tt, tt, tt, tt, tt, tt, tt, ff, ff, ff, ff, ff, ff, ff, ff, ff, ff, ff, ff, ff, ff, ff, ff, ff, ff, ff, ff] rfl rfl (any_of HT_.out (by kernel_rfl)) (fun _ _ _ h => h) (Or.inr ⟨by rfl, rfl⟩) ?_ ?_
        rotate_left
        ·simp only [Act.put, zp, zq, zr, i64_w, i32_w]
         rfl
        refine pure_ (i := 13) (N := some 27) (v := undef) (a' := ?_) #[tt, tt, tt, tt, tt, tt, tt, tt, tt, tt, tt, tt, tt, tt, ff, ff, ff, ff, ff, ff, ff, ff, ff, ff, ff, ff, ff, ff, ff, ff, ff, ff, ff] rfl rfl (any_of HT_.out (by kernel_rfl)) (fun _ _ _ h => h) (Or.inr ⟨by rfl, rfl⟩) ?_ ?_
        rotate_left
        ·simp only [Act.put, zp, zq, zr, i64_w, i32_w]
         rfl
        refine zu 14 (some 28) #[tt, tt, tt, tt, tt, tt, tt, tt, tt, tt, tt, tt, tt, tt, tt, ff, ff, ff, ff, ff, ff, ff, ff, ff, ff, ff, ff, ff, ff, ff, ff, ff, ff] (any_of HT_.out (by kernel_rfl)) ?_
        refine zu 15 (some 29) #[tt, tt, tt, tt, tt, tt, tt, tt, tt, tt, tt, tt, tt, tt, tt, tt, ff, ff, ff, ff, ff, ff, ff, ff, ff, ff, ff, ff, ff, ff, ff, ff, ff] (any_of HT_.out (by kernel_rfl)) ?_
        refine pure_ (i := 16) (N := some 30) (v := undef) (a' := ?_) #[tt, tt, tt, tt, tt, tt, tt, tt, tt, tt, tt, tt, tt, tt, tt, tt, tt, ff, ff, ff, ff, ff, ff, ff, ff, ff, ff, ff, ff, ff, ff, ff, ff] rfl rfl (any_of HT_.out (by kernel_rfl)) (fun _ _ _ h => h) (Or.inr ⟨by rfl, rfl⟩) ?_ ?_
        rotate_left
        ·simp only [Act.put, zp, zq, zr, i64_w, i32_w]
         rfl
        refine pure_ (i := 17) (N := some 31) (v := undef) (a' := ?_) #[tt, tt, tt, tt, tt, tt, tt, tt, tt, tt, tt, tt, tt, tt, tt, tt, tt, tt, ff, ff, ff, ff, ff, ff, ff, ff, ff, ff, ff, ff, ff, ff, ff] rfl rfl (any_of HT_.out (by kernel_rfl)) (fun _ _ _ h => h) (Or.inr ⟨by rfl, rfl⟩) ?_ ?_
        rotate_left
        ·simp only [Act.put, zp, zq, zr, i64_w, i32_w]
         rfl
        refine pure_ (i := 18) (N := some 32) (v := undef) (a' := ?_) #[tt, tt, tt, tt, tt, tt, tt, tt, tt, tt, tt, tt, tt, tt, tt, tt, tt, tt, tt, ff, ff, ff, ff, ff, ff, ff, ff, ff, ff, ff, ff, ff, ff] rfl rfl (any_of HT_.out (by kernel_rfl)) (fun _ _ _ h => h) (Or.inr ⟨by rfl, rfl⟩) ?_ ?_
        rotate_left
        ·simp only [Act.put, zp, zq, zr, i64_w, i32_w]
         rfl
        refine pure_ (i := 19) (N := some 33) (v := undef) (a' := ?_) #[tt, tt, tt, tt, tt, tt, tt, tt, tt, tt, tt, tt, tt, tt, tt, tt, tt, tt, tt, tt, ff, ff, ff, ff, ff, ff, ff, ff, ff, ff, ff, ff, ff] rfl rfl (any_of HT_.out (by kernel_rfl)) (fun _ _ _ h => h) (Or.inr ⟨by rfl, rfl⟩) ?_ ?_
        rotate_left
        ·simp only [Act.put, zp, zq, zr, i64_w, i32_w]
         rfl
        refine pure_ (i := 20) (N := some 34) (v := undef) (a' := ?_) #[tt, tt, tt, tt, tt, tt, tt, tt, tt, tt, tt, tt, tt, tt, tt, tt, tt, tt, tt, tt, tt, ff, ff, ff, ff, ff, ff, ff, ff, ff, ff, ff, ff] rfl rfl (any_of HT_.out (by kernel_rfl)) (fun _ _ _ h => h) (Or.inr ⟨by rfl, rfl⟩) ?_ ?_
        rotate_left
        ·simp only [Act.put, zp, zq, zr, i64_w, i32_w]
         rfl
        refine pure_ (i := 21) (N := some 35) (v := undef) (a' := ?_) #[tt, tt, tt, tt, tt, tt, tt, tt, tt, tt, tt, tt, tt, tt, tt, tt, tt, tt, tt, tt, tt, tt, ff, ff, ff, ff, ff, ff, ff, ff, ff, ff, ff] rfl rfl (any_of HT_.out (by kernel_rfl)) (fun _ _ _ h => h) (Or.inr ⟨by rfl, rfl⟩) ?_ ?_
        rotate_left
        ·simp only [Act.put, zp, zq, zr, i64_w, i32_w]
         rfl
        refine pure_ (i := 22) (N := some 36) (v := undef) (a' := ?_) #[tt, tt, tt, tt, tt, tt, tt, tt, tt, tt, tt, tt, tt, tt, tt, tt, tt, tt, tt, tt, tt, tt, tt, ff, ff, ff, ff, ff, ff, ff, ff, ff, ff] rfl rfl (any_of HT_.out (by kernel_rfl)) (fun _ _ _ h => h) (Or.inr ⟨by rfl, rfl⟩) ?_ ?_
        rotate_left
        ·simp only [Act.put, zp, zq, zr, i64_w, i32_w]
         rfl
        refine pure_ (i := 23) (N := some 37) (v := undef) (a' := ?_) #[tt, tt, tt, tt, tt, tt, tt, tt, tt, tt, tt, tt, tt, tt, tt, tt, tt, tt, tt, tt, tt, tt, tt, tt, ff, ff, ff, ff, ff, ff, ff, ff, ff] rfl rfl (any_of HT_.out (by kernel_rfl)) (fun _ _ _ h => h) (Or.inr ⟨by rfl, rfl⟩) ?_ ?_
        rotate_left
        ·simp only [Act.put, zp, zq, zr, i64_w, i32_w]
         rfl
        refine pure_ (i := 24) (N := some 38) (v := undef) (a' := ?_) #[tt, tt, tt, tt, tt, tt, tt, tt, tt, tt, tt, tt, tt, tt, tt, tt, tt, tt, tt, tt, tt, tt, tt, tt, tt, ff, ff, ff, ff, ff, ff, ff, ff] rfl rfl (any_of HT_.out (by kernel_rfl)) (fun _ _ _ h => h) (Or.inr ⟨by rfl, rfl⟩) ?_ ?_
        rotate_left
        ·simp only [Act.put, zp, zq, zr, i64_w, i32_w]
         rfl
        refine pure_ (i := 25) (N := some 39) (v := undef) (a' := ?_) #[tt, tt, tt, tt, tt, tt, tt, tt, tt, tt, tt, tt, tt, tt, tt, tt, tt, tt, tt, tt, tt, tt, tt, tt, tt, tt, ff, ff, ff, ff, ff, ff, ff] rfl rfl (any_of HT_.out (by kernel_rfl)) (fun _ _ _ h => h) (Or.inr ⟨by rfl, rfl⟩) ?_ ?_
        rotate_left
        ·simp only [Act.put, zp, zq, zr, i64_w, i32_w]
         rfl
        refine pure_ (i := 26) (N := some 40) (v := undef) (a' := ?_) #[tt, tt, tt, tt, tt, tt, tt, tt, tt, tt, tt, tt, tt, tt, tt, tt, tt, tt, tt, tt, tt, tt, tt, tt, tt, tt, tt, ff, ff, ff, ff, ff, ff] rfl rfl (any_of HT_.out (by kernel_rfl)) (fun _ _ _ h => h) (Or.inr ⟨by rfl, rfl⟩) ?_ ?_
        rotate_left
        ·simp only [Act.put, zp, zq, zr, i64_w, i32_w]
         rfl
        refine pure_ (i := 27) (N := some 41) (v := undef) (a' := ?_) #[tt, tt, tt, tt, tt, tt, tt, tt, tt, tt, tt, tt, tt, tt, tt, tt, tt, tt, tt, tt, tt, tt, tt, tt, tt, tt, tt, tt, ff, ff, ff, ff, ff] rfl rfl (any_of HT_.out (by kernel_rfl)) (fun _ _ _ h => h) (Or.inr ⟨by rfl, rfl⟩) ?_ ?_
        rotate_left
        ·simp only [Act.put, zp, zq, zr, i64_w, i32_w]
         rfl
        refine pure_ (i := 28) (N := some 42) (v := undef) (a' := ?_) #[tt, tt, tt, tt, tt, tt, tt, tt, tt, tt, tt, tt, tt, tt, tt, tt, tt, tt, tt, tt, tt, tt, tt, tt, tt, tt, tt, tt, tt, ff, ff, ff, ff] rfl rfl (any_of HT_.out (by kernel_rfl)) (fun _ _ _ h => h) (Or.inr ⟨by rfl, rfl⟩) ?_ ?_
        rotate_left
        ·simp only [Act.put, zp, zq, zr, i64_w, i32_w]
         rfl
        refine pure_ (i := 29) (N := some 43) (v := undef) (a' := ?_) #[tt, tt, tt, tt, tt, tt, tt, tt, tt, tt, tt, tt, tt, tt, tt, tt, tt, tt, tt, tt, tt, tt, tt, tt, tt, tt, tt, tt, tt, tt, ff, ff, ff] rfl rfl (any_of HT_.out (by kernel_rfl)) (fun _ _ _ h => h) (Or.inr ⟨by rfl, rfl⟩) ?_ ?_
        rotate_left
        ·simp only [Act.put, zp, zq, zr, i64_w, i32_w]
         rfl
        refine pure_ (i := 30) (N := some 44) (v := undef) (a' := ?_) #[tt, tt, tt, tt, tt, tt, tt, tt, tt, tt, tt, tt, tt, tt, tt, tt, tt, tt, tt, tt, tt, tt, tt, tt, tt, tt, tt, tt, tt, tt, tt, ff, ff] rfl rfl (any_of HT_.out (by kernel_rfl)) (fun _ _ _ h => h) (Or.inr ⟨by rfl, rfl⟩) ?_ ?_
        rotate_left
        ·simp only [Act.put, zp, zq, zr, i64_w, i32_w]
         rfl
        refine pure_ (i := 31) (N := some 45) (v := undef) (a' := ?_) #[tt, tt, tt, tt, tt, tt, tt, tt, tt, tt, tt, tt, tt, tt, tt, tt, tt, tt, tt, tt, tt, tt, tt, tt, tt, tt, tt, tt, tt, tt, tt, tt, ff] rfl rfl (any_of HT_.out (by kernel_rfl)) (fun _ _ _ h => h) (Or.inr ⟨by rfl, rfl⟩) ?_ ?_
        rotate_left
        ·simp only [Act.put, zp, zq, zr, i64_w, i32_w]
         rfl
        refine zu 32 (some 46) #[tt, tt, tt, tt, tt, tt, tt, tt, tt, tt, tt, tt, tt, tt, tt, tt, tt, tt, tt, tt, tt, tt, tt, tt, tt, tt, tt, tt, tt, tt, tt, tt, tt] (any_of HT_.out (by kernel_rfl)) ?_
        refine done_ (done_of HT_.out (by kernel_rfl)) ?_
        try go_wp2
        go_meet
        case rel => exact ⟨_, (true), (by first | rfl | (simp; done) | (simp [*]; done)), H', ⟨by have := a4.out; first | omega | exact Nat.le_refl _⟩, ⟨zb HB⟩⟩
      ·rw [if_neg c5] at H
       exact absurd H (by simp)
     case rest =>
      clear HC4
      try clear c1
      try clear p2
      try clear c5
      try clear p6
      try clear q6
      try clear hx6
      try clear c7
      try clear c8
      try clear c10
      try clear a0
      try clear bd
      try clear be
      try clear ab
      try clear ac
      try clear ag
      try clear ah
      try clear aw
      try clear aH
      try clear ax
      try clear aI
      obtain ⟨kq, aY, rfl, HA, bf, HB⟩ := hcut
      cases kq with
      | zero => exact absurd HA.out (by simp [spec_SightsOk.j1])
      | succ kj3 =>
       have H := HA.out; clear HA
       simp only [spec_SightsOk.j1] at H
       by_cases bo : aY = true
       ·subst bo
        have H1 : (some false) = some r := by rw [if_pos rfl] at H; exact H
        clear H; have H := H1; clear H1; obtain rfl := Option.some.inj H
        go_wp2
        go_ret
        exact ⟨by first | rfl | (simp [errW_none, errW_some] <;> rfl) | (simp [*, errW_none, errW_some] <;> rfl), by repeat (first | (with_reducible first | exact HB.out | apply zB | apply zC | apply zE) | exact HB.out)⟩
       ·replace bo := Bool.eq_false_iff.mpr bo
        subst bo
        have H1 : (spec_SightsOk.l1 kj3 l0 aa 0) = some r := by rw [if_neg (show ¬ (false = true) by decide)] at H; exact H
        clear H; have H := H1; clear H1; have H' := zK H; clear H
        go_wp2
        go_loopg [4] kj3 (fun kq v4 w' => ∃ (an : Int), v4 = .int .i64 an ∧ Aside0 (spec_SightsOk.l1 kq l0 aa an = some r) ∧ Aside0 (kq ≤ kj3) ∧ Aside0 (Below w.heap.size w w'))
        case atStart => exact ⟨(0), (by first | rfl | (simp; done) | (simp [*]; done)), H', ⟨Nat.le_refl _⟩, ⟨zb HB⟩⟩
        case round =>
         clear H'
         try clear c1
         try clear p2
         try clear c5
         try clear p6
         try clear q6
         try clear hx6
         try clear c7
         try clear c8
         try clear c10
         try clear a0
         try clear bd
         try clear be
         try clear bo
         try clear ab
         try clear ac
         try clear ag
         try clear ah
         try clear p2
         try clear p6
         try clear aw
         try clear aH
         try clear q6
         try clear ax
         try clear aI
         obtain ⟨an, rfl, HA, bg, HB⟩ := hrel
         cases gk with
         | zero => exact absurd HA.out (by simp [spec_SightsOk.l1])
         | succ k3 =>
          have H := HA.out; clear HA
          simp only [spec_SightsOk.l1] at H
          by_cases bh : an < aa
          ·rw [if_pos bh] at H
           have bp : decide (an < aa) = true := decide_eq_true bh
           clear bh
           by_cases c19 : 0 ≤ aa
           ·rw [if_pos c19] at H
            have c19b0 : decide (0 ≤ aa) = true := decide_eq_true c19
            clear c19
            by_cases c20 : aa < (l0.length : Int)
            ·rw [if_pos c20] at H
             have c20b0 : decide (aa < (l0.length : Int)) = true := decide_eq_true c20
             clear c20
             by_cases a9 : ((rd_T89 l0 aa).f1) = 0
             ·rw [if_pos a9] at H
              have bq : (((rd_T89 l0 aa).f1) == 0) = true := beq_iff_eq.mpr a9
              have br : (((rd_T89 l0 aa).f1) != 0) = false := bne_eq_false_iff_eq.mpr a9
              clear a9; have H' := zK H; clear H
              try go_wp2
              have aP := zK (zE HB.out)
              clear HB; have HB := aP; clear aP
              have aN : 0 ≤ (aa : Int) := of_decide_eq_true (by first | (with_reducible assumption) | assumption)
              have aO : aa < (l0.length : Int) := of_decide_eq_true (by first | (with_reducible assumption) | assumption)
              obtain ⟨ak, a1, ai, aj⟩ := at_T89 aS.out aa aN aO
              have au := aj; have av := ai
              cases a1
              replace ai := (HB.out.cell (World.block_lt_of_cell? w _ ai)).trans ai
              replace aj := (HB.out.cell (World.block_lt_of_cell? w _ aj)).trans aj
              replace aN := eq_true aN; replace aO := eq_true aO
              refine start_ (n := 19) (S := fun w' => w'.cell? (ak.add ((aa).toNat * 2)) = some (.int .i64 ((rd_T89 l0 aa).f0)) ∧ w'.cell? ⟨(ak.add ((aa).toNat * 2)).block, (ak.add ((aa).toNat * 2)).off + 1, none⟩ = some (.int .i64 ((rd_T89 l0 aa).f1))) (ds := []) #[ff, ff, ff, ff, ff, ff, ff, ff, ff, ff, ff, ff, ff, ff, ff, ff, ff, ff, ff] (by kernel_rfl) rfl rfl ⟨((HB.out.cell (World.block_lt_of_cell? w _ av)).trans av), ((HB.out.cell (World.block_lt_of_cell? w _ au)).trans au)⟩ (fun hHeld => ?_); refine with_tabW spec_SightsOk.tab11 spec_SightsOk.bits11 (fun HT_ HW_ => ?_)
              generalize wr.drew = w22 at HB ai aj hHeld ⊢
              refine zu 0 (some 52) #[tt, ff, ff, ff, ff, ff, ff, ff, ff, ff, ff, ff, ff, ff, ff, ff, ff, ff, ff] (any_of HT_.out (by kernel_rfl)) ?_
              refine zu 1 (some 53) #[tt, tt, ff, ff, ff, ff, ff, ff, ff, ff, ff, ff, ff, ff, ff, ff, ff, ff, ff] (any_of HT_.out (by kernel_rfl)) ?_
              refine zu 2 (some 54) #[tt, tt, tt, ff, ff, ff, ff, ff, ff, ff, ff, ff, ff, ff, ff, ff, ff, ff, ff] (any_of HT_.out (by kernel_rfl)) ?_
              refine zu 3 (some 55) #[tt, tt, tt, tt, ff, ff, ff, ff, ff, ff, ff, ff, ff, ff, ff, ff, ff, ff, ff] (any_of HT_.out (by kernel_rfl)) ?_
              refine zt 4 (some 56) #[tt, tt, tt, tt, tt, ff, ff, ff, ff, ff, ff, ff, ff, ff, ff, ff, ff, ff, ff] (take_ofW HT_.out HW_.out (by kernel_rfl)) hHeld ?_
              refine zu 5 (some 57) #[tt, tt, tt, tt, tt, tt, ff, ff, ff, ff, ff, ff, ff, ff, ff, ff, ff, ff, ff] (any_of HT_.out (by kernel_rfl)) ?_
              refine zu 6 (some 58) #[tt, tt, tt, tt, tt, tt, tt, ff, ff, ff, ff, ff, ff, ff, ff, ff, ff, ff, ff] (any_of HT_.out (by kernel_rfl)) ?_
              refine pure_ (i := 7) (N := some 59) (v := undef) (a' := ?_) #[tt, tt, tt, tt, tt, tt, tt, tt, ff, ff, ff, ff, ff, ff, ff, ff, ff, ff, ff] rfl rfl (any_of HT_.out (by kernel_rfl)) (fun _ _ _ h => h) (Or.inr ⟨by rfl, rfl⟩) ?_ ?_
              rotate_left
              ·simp only [Act.put, zp, zq, zr, i64_w, i32_w]
               rfl
              refine pure_ (i := 8) (N := some 60) (v := undef) (a' := ?_) #[tt, tt, tt, tt, tt, tt, tt, tt, tt, ff, ff, ff, ff, ff, ff, ff, ff, ff, ff] rfl rfl (any_of HT_.out (by kernel_rfl)) (fun _ _ _ h => h) (Or.inr ⟨by rfl, rfl⟩) ?_ ?_
              rotate_left
              ·simp only [Act.put, zp, zq, zr, i64_w, i32_w]
               rfl
              refine pure_ (i := 9) (N := some 61) (v := undef) (a' := ?_) #[tt, tt, tt, tt, tt, tt, tt, tt, tt, tt, ff, ff, ff, ff, ff, ff, ff, ff, ff] rfl rfl (any_of HT_.out (by kernel_rfl)) (fun _ _ _ h => h) (Or.inr ⟨by rfl, rfl⟩) ?_ ?_
              rotate_left
              ·simp only [Act.put, zp, zq, zr, i64_w, i32_w]
               rfl
              refine pure_ (i := 10) (N := some 62) (v := undef) (a' := ?_) #[tt, tt, tt, tt, tt, tt, tt, tt, tt, tt, tt, ff, ff, ff, ff, ff, ff, ff, ff] rfl rfl (any_of HT_.out (by kernel_rfl)) (fun _ _ _ h => h) (Or.inr ⟨by rfl, rfl⟩) ?_ ?_
              rotate_left
              ·simp only [Act.put, zp, zq, zr, i64_w, i32_w]
               rfl
              refine pure_ (i := 11) (N := some 63) (v := undef) (a' := ?_) #[tt, tt, tt, tt, tt, tt, tt, tt, tt, tt, tt, tt, ff, ff, ff, ff, ff, ff, ff] rfl rfl (any_of HT_.out (by kernel_rfl)) (fun _ _ _ h => h) (Or.inr ⟨by rfl, rfl⟩) ?_ ?_
              rotate_left
              ·simp only [Act.put, zp, zq, zr, i64_w, i32_w]
               rfl
              refine pure_ (i := 12) (N := some 64) (v := undef) (a' := ?_) #[tt, tt, tt, tt, tt, tt, tt, tt, tt, tt, tt, tt, tt, ff, ff, ff, ff, ff, ff] rfl rfl (any_of HT_.out (by kernel_rfl)) (fun _ _ _ h => h) (Or.inr ⟨by rfl, rfl⟩) ?_ ?_
              rotate_left
              ·simp only [Act.put, zp, zq, zr, i64_w, i32_w]
               rfl
              refine pure_ (i := 13) (N := some 65) (v := undef) (a' := ?_) #[tt, tt, tt, tt, tt, tt, tt, tt, tt, tt, tt, tt, tt, tt, ff, ff, ff, ff, ff] rfl rfl (any_of HT_.out (by kernel_rfl)) (fun _ _ _ h => h) (Or.inr ⟨by rfl, rfl⟩) ?_ ?_
              rotate_left
              ·simp only [Act.put, zp, zq, zr, i64_w, i32_w]
               rfl
              refine pure_ (i := 14) (N := some 66) (v := undef) (a' := ?_) #[tt, tt, tt, tt, tt, tt, tt, tt, tt, tt, tt, tt, tt, tt, tt, ff, ff, ff, ff] rfl rfl (any_of HT_.out (by kernel_rfl)) (fun _ _ _ h => h) (Or.inr ⟨by rfl, rfl⟩) ?_ ?_
              rotate_left
              ·simp only [Act.put, zp, zq, zr, i64_w, i32_w]
               rfl
              refine pure_ (i := 15) (N := some 67) (v := undef) (a' := ?_) #[tt, tt, tt, tt, tt, tt, tt, tt, tt, tt, tt, tt, tt, tt, tt, tt, ff, ff, ff] rfl rfl (any_of HT_.out (by kernel_rfl)) (fun _ _ _ h => h) (Or.inr ⟨by rfl, rfl⟩) ?_ ?_
              rotate_left
              ·simp only [Act.put, zp, zq, zr, i64_w, i32_w]
               rfl
              refine pure_ (i := 16) (N := some 68) (v := undef) (a' := ?_) #[tt, tt, tt, tt, tt, tt, tt, tt, tt, tt, tt, tt, tt, tt, tt, tt, tt, ff, ff] rfl rfl (any_of HT_.out (by kernel_rfl)) (fun _ _ _ h => h) (Or.inr ⟨by rfl, rfl⟩) ?_ ?_
              rotate_left
              ·simp only [Act.put, zp, zq, zr, i64_w, i32_w]
               rfl
              refine pure_ (i := 17) (N := some 69) (v := undef) (a' := ?_) #[tt, tt, tt, tt, tt, tt, tt, tt, tt, tt, tt, tt, tt, tt, tt, tt, tt, tt, ff] rfl rfl (any_of HT_.out (by kernel_rfl)) (fun _ _ _ h => h) (Or.inr ⟨by rfl, rfl⟩) ?_ ?_
              rotate_left
              ·simp only [Act.put, zp, zq, zr, i64_w, i32_w]
               rfl
              refine zu 18 (some 70) #[tt, tt, tt, tt, tt, tt, tt, tt, tt, tt, tt, tt, tt, tt, tt, tt, tt, tt, tt] (any_of HT_.out (by kernel_rfl)) ?_
              refine done_ (done_of HT_.out (by kernel_rfl)) ?_
              try go_wp2
              go_roundg k3
              case measure => have := a4.out; have := bf.out; have := bg.out; omega
              case rel => exact ⟨(wrap64 (an + 1)), (by first | rfl | (simp; done) | (simp [*]; done)), H', ⟨by have := a4.out; have := bf.out; have := bg.out; omega⟩, ⟨zb HB⟩⟩
             ·rw [if_neg a9] at H
              have bq : (((rd_T89 l0 aa).f1) == 0) = false := beq_eq_false_iff_ne.mpr a9
              have br : (((rd_T89 l0 aa).f1) != 0) = true := bne_iff_ne.mpr a9
              by_cases c23 : 0 ≤ an
              ·rw [if_pos c23] at H
               have c23b0 : decide (0 ≤ an) = true := decide_eq_true c23
               clear c23
               by_cases c24 : an < (l0.length : Int)
               ·rw [if_pos c24] at H
                have c24b0 : decide (an < (l0.length : Int)) = true := decide_eq_true c24
                clear c24
                by_cases ba : ((rd_T89 l0 an).f1) = ((rd_T89 l0 aa).f1)
                ·rw [if_pos ba] at H
                 have bs : (((rd_T89 l0 an).f1) == ((rd_T89 l0 aa).f1)) = true := beq_iff_eq.mpr ba
                 have bt : (((rd_T89 l0 an).f1) != ((rd_T89 l0 aa).f1)) = false := bne_eq_false_iff_eq.mpr ba
                 clear ba; obtain rfl := Option.some.inj H
                 try go_wp2
                 have aP := zK (zE HB.out)
                 clear HB; have HB := aP; clear aP
                 have aN : 0 ≤ (aa : Int) := of_decide_eq_true (by first | (with_reducible assumption) | assumption)
                 have aO : aa < (l0.length : Int) := of_decide_eq_true (by first | (with_reducible assumption) | assumption)
                 obtain ⟨ak, a1, ai, aj⟩ := at_T89 aS.out aa aN aO
                 have au := aj; have av := ai
                 cases a1
                 replace ai := (HB.out.cell (World.block_lt_of_cell? w _ ai)).trans ai
                 replace aj := (HB.out.cell (World.block_lt_of_cell? w _ aj)).trans aj
                 replace aN := eq_true aN; replace aO := eq_true aO
                 have aU : 0 ≤ (an : Int) := of_decide_eq_true (by first | (with_reducible assumption) | assumption)
                 have aV : an < (l0.length : Int) := of_decide_eq_true (by first | (with_reducible assumption) | assumption)
                 obtain ⟨a2, bb, ao, ap⟩ := at_T89 aS.out an aU aV
                 have aD := ap; have aE := ao
                 obtain rfl : ak = a2 := (by injection bb)
                 replace ao := (HB.out.cell (World.block_lt_of_cell? w _ ao)).trans ao
                 replace ap := (HB.out.cell (World.block_lt_of_cell? w _ ap)).trans ap
                 replace aU := eq_true aU; replace aV := eq_true aV
                 have aW : 0 ≤ (aa : Int) := of_decide_eq_true (by first | (with_reducible assumption) | assumption)
                 have aX : aa < (l0.length : Int) := of_decide_eq_true (by first | (with_reducible assumption) | assumption)
                 obtain ⟨a3, bc, aq, ar⟩ := at_T89 aS.out aa aW aX
                 have aF := ar; have aG := aq
                 obtain rfl : ak = a3 := (by injection bc)
                 replace aq := (HB.out.cell (World.block_lt_of_cell? w _ aq)).trans aq
                 replace ar := (HB.out.cell (World.block_lt_of_cell? w _ ar)).trans ar
                 replace aW := eq_true aW; replace aX := eq_true aX
                 refine start_ (n := 19) (S := fun w' => w'.cell? (ak.add ((aa).toNat * 2)) = some (.int .i64 ((rd_T89 l0 aa).f0)) ∧ w'.cell? ⟨(ak.add ((aa).toNat * 2)).block, (ak.add ((aa).toNat * 2)).off + 1, none⟩ = some (.int .i64 ((rd_T89 l0 aa).f1)) ∧ w'.cell? (ak.add ((an).toNat * 2)) = some (.int .i64 ((rd_T89 l0 an).f0)) ∧ w'.cell? ⟨(ak.add ((an).toNat * 2)).block, (ak.add ((an).toNat * 2)).off + 1, none⟩ = some (.int .i64 ((rd_T89 l0 an).f1)) ∧ w'.cell? (ak.add ((aa).toNat * 2)) = some (.int .i64 ((rd_T89 l0 aa).f0)) ∧ w'.cell? ⟨(ak.add ((aa).toNat * 2)).block, (ak.add ((aa).toNat * 2)).off + 1, none⟩ = some (.int .i64 ((rd_T89 l0 aa).f1))) (ds := []) #[ff, ff, ff, ff, ff, ff, ff, ff, ff, ff, ff, ff, ff, ff, ff, ff, ff, ff, ff] (by kernel_rfl) rfl rfl ⟨((HB.out.cell (World.block_lt_of_cell? w _ av)).trans av), ((HB.out.cell (World.block_lt_of_cell? w _ au)).trans au), ((HB.out.cell (World.block_lt_of_cell? w _ aE)).trans aE), ((HB.out.cell (World.block_lt_of_cell? w _ aD)).trans aD), ((HB.out.cell (World.block_lt_of_cell? w _ aG)).trans aG), ((HB.out.cell (World.block_lt_of_cell? w _ aF)).trans aF)⟩ (fun hHeld => ?_); refine with_tabW spec_SightsOk.tab11 spec_SightsOk.bits11 (fun HT_ HW_ => ?_)
                 generalize wr.drew = w26 at HB ai aj ao ap aq ar hHeld ⊢
                 refine zu 0 (some 52) #[tt, ff, ff, ff, ff, ff, ff, ff, ff, ff, ff, ff, ff, ff, ff, ff, ff, ff, ff] (any_of HT_.out (by kernel_rfl)) ?_
                 refine zu 1 (some 53) #[tt, tt, ff, ff, ff, ff, ff, ff, ff, ff, ff, ff, ff, ff, ff, ff, ff, ff, ff] (any_of HT_.out (by kernel_rfl)) ?_
                 refine zu 2 (some 54) #[tt, tt, tt, ff, ff, ff, ff, ff, ff, ff, ff, ff, ff, ff, ff, ff, ff, ff, ff] (any_of HT_.out (by kernel_rfl)) ?_
                 refine zu 3 (some 55) #[tt, tt, tt, tt, ff, ff, ff, ff, ff, ff, ff, ff, ff, ff, ff, ff, ff, ff, ff] (any_of HT_.out (by kernel_rfl)) ?_
                 refine zt 4 (some 56) #[tt, tt, tt, tt, tt, ff, ff, ff, ff, ff, ff, ff, ff, ff, ff, ff, ff, ff, ff] (take_ofW HT_.out HW_.out (by kernel_rfl)) hHeld ?_
                 refine zu 5 (some 57) #[tt, tt, tt, tt, tt, tt, ff, ff, ff, ff, ff, ff, ff, ff, ff, ff, ff, ff, ff] (any_of HT_.out (by kernel_rfl)) ?_
                 refine zu 6 (some 58) #[tt, tt, tt, tt, tt, tt, tt, ff, ff, ff, ff, ff, ff, ff, ff, ff, ff, ff, ff] (any_of HT_.out (by kernel_rfl)) ?_
                 refine zu 7 (some 59) #[tt, tt, tt, tt, tt, tt, tt, tt, ff, ff, ff, ff, ff, ff, ff, ff, ff, ff, ff] (any_of HT_.out (by kernel_rfl)) ?_
                 refine zu 8 (some 60) #[tt, tt, tt, tt, tt, tt, tt, tt, tt, ff, ff, ff, ff, ff, ff, ff, ff, ff, ff] (any_of HT_.out (by kernel_rfl)) ?_
                 refine zu 9 (some 61) #[tt, tt, tt, tt, tt, tt, tt, tt, tt, tt, ff, ff, ff, ff, ff, ff, ff, ff, ff] (any_of HT_.out (by kernel_rfl)) ?_
                 refine zu 10 (some 62) #[tt, tt, tt, tt, tt, tt, tt, tt, tt, tt, tt, ff, ff, ff, ff, ff, ff, ff, ff] (any_of HT_.out (by kernel_rfl)) ?_
                 refine zu 12 (some 64) #[tt, tt, tt, tt, tt, tt, tt, tt, tt, tt, tt, ff, tt, ff, ff, ff, ff, ff, ff] (any_of HT_.out (by kernel_rfl)) ?_
                 refine zu 13 (some 65) #[tt, tt, tt, tt, tt, tt, tt, tt, tt, tt, tt, ff, tt, tt, ff, ff, ff, ff, ff] (any_of HT_.out (by kernel_rfl)) ?_
                 refine zu 14 (some 66) #[tt, tt, tt, tt, tt, tt, tt, tt, tt, tt, tt, ff, tt, tt, tt, ff, ff, ff, ff] (any_of HT_.out (by kernel_rfl)) ?_
                 refine zu 15 (some 67) #[tt, tt, tt, tt, tt, tt, tt, tt, tt, tt, tt, ff, tt, tt, tt, tt, ff, ff, ff] (any_of HT_.out (by kernel_rfl)) ?_
                 refine zt 11 (some 63) #[tt, tt, tt, tt, tt, tt, tt, tt, tt, tt, tt, tt, tt, tt, tt, tt, ff, ff, ff] (take_ofW HT_.out HW_.out (by kernel_rfl)) hHeld ?_
                 refine zt 16 (some 68) #[tt, tt, tt, tt, tt, tt, tt, tt, tt, tt, tt, tt, tt, tt, tt, tt, tt, ff, ff] (take_ofW HT_.out HW_.out (by kernel_rfl)) hHeld ?_
                 refine zu 17 (some 69) #[tt, tt, tt, tt, tt, tt, tt, tt, tt, tt, tt, tt, tt, tt, tt, tt, tt, tt, ff] (any_of HT_.out (by kernel_rfl)) ?_
                 refine zu 18 (some 70) #[tt, tt, tt, tt, tt, tt, tt, tt, tt, tt, tt, tt, tt, tt, tt, tt, tt, tt, tt] (any_of HT_.out (by kernel_rfl)) ?_
                 refine done_ (done_of HT_.out (by kernel_rfl)) ?_
                 try go_wp2
                 go_ret
                 exact ⟨by first | rfl | (simp [errW_none, errW_some] <;> rfl) | (simp [*, errW_none, errW_some] <;> rfl), by repeat (first | (with_reducible first | exact HB.out | apply zB | apply zC | apply zE) | exact HB.out)⟩
                ·rw [if_neg ba] at H
                 have bs : (((rd_T89 l0 an).f1) == ((rd_T89 l0 aa).f1)) = false := beq_eq_false_iff_ne.mpr ba
                 have bt : (((rd_T89 l0 an).f1) != ((rd_T89 l0 aa).f1)) = true := bne_iff_ne.mpr ba
                 have H' := zK H; clear H
                 try go_wp2
                 have aP := zK (zE HB.out)
                 clear HB; have HB := aP; clear aP
                 have aN : 0 ≤ (aa : Int) := of_decide_eq_true (by first | (with_reducible assumption) | assumption)
                 have aO : aa < (l0.length : Int) := of_decide_eq_true (by first | (with_reducible assumption) | assumption)
                 obtain ⟨ak, a1, ai, aj⟩ := at_T89 aS.out aa aN aO
                 have au := aj; have av := ai
                 cases a1
                 replace ai := (HB.out.cell (World.block_lt_of_cell? w _ ai)).trans ai
                 replace aj := (HB.out.cell (World.block_lt_of_cell? w _ aj)).trans aj
                 replace aN := eq_true aN; replace aO := eq_true aO
                 have aU : 0 ≤ (an : Int) := of_decide_eq_true (by first | (with_reducible assumption) | assumption)
                 have aV : an < (l0.length : Int) := of_decide_eq_true (by first | (with_reducible assumption) | assumption)
                 obtain ⟨a2, bb, ao, ap⟩ := at_T89 aS.out an aU aV
                 have aD := ap; have aE := ao
                 obtain rfl : ak = a2 := (by injection bb)
                 replace ao := (HB.out.cell (World.block_lt_of_cell? w _ ao)).trans ao
                 replace ap := (HB.out.cell (World.block_lt_of_cell? w _ ap)).trans ap
                 replace aU := eq_true aU; replace aV := eq_true aV
                 have aW : 0 ≤ (aa : Int) := of_decide_eq_true (by first | (with_reducible assumption) | assumption)
                 have aX : aa < (l0.length : Int) := of_decide_eq_true (by first | (with_reducible assumption) | assumption)
                 obtain ⟨a3, bc, aq, ar⟩ := at_T89 aS.out aa aW aX
                 have aF := ar; have aG := aq
                 obtain rfl : ak = a3 := (by injection bc)
                 replace aq := (HB.out.cell (World.block_lt_of_cell? w _ aq)).trans aq
                 replace ar := (HB.out.cell (World.block_lt_of_cell? w _ ar)).trans ar
                 replace aW := eq_true aW; replace aX := eq_true aX
                 refine start_ (n := 19) (S := fun w' => w'.cell? (ak.add ((aa).toNat * 2)) = some (.int .i64 ((rd_T89 l0 aa).f0)) ∧ w'.cell? ⟨(ak.add ((aa).toNat * 2)).block, (ak.add ((aa).toNat * 2)).off + 1, none⟩ = some (.int .i64 ((rd_T89 l0 aa).f1)) ∧ w'.cell? (ak.add ((an).toNat * 2)) = some (.int .i64 ((rd_T89 l0 an).f0)) ∧ w'.cell? ⟨(ak.add ((an).toNat * 2)).block, (ak.add ((an).toNat * 2)).off + 1, none⟩ = some (.int .i64 ((rd_T89 l0 an).f1)) ∧ w'.cell? (ak.add ((aa).toNat * 2)) = some (.int .i64 ((rd_T89 l0 aa).f0)) ∧ w'.cell? ⟨(ak.add ((aa).toNat * 2)).block, (ak.add ((aa).toNat * 2)).off + 1, none⟩ = some (.int .i64 ((rd_T89 l0 aa).f1))) (ds := []) #[ff, ff, ff, ff, ff, ff, ff, ff, ff, ff, ff, ff, ff, ff, ff, ff, ff, ff, ff] (by kernel_rfl) rfl rfl ⟨((HB.out.cell (World.block_lt_of_cell? w _ av)).trans av), ((HB.out.cell (World.block_lt_of_cell? w _ au)).trans au), ((HB.out.cell (World.block_lt_of_cell? w _ aE)).trans aE), ((HB.out.cell (World.block_lt_of_cell? w _ aD)).trans aD), ((HB.out.cell (World.block_lt_of_cell? w _ aG)).trans aG), ((HB.out.cell (World.block_lt_of_cell? w _ aF)).trans aF)⟩ (fun hHeld => ?_); refine with_tabW spec_SightsOk.tab11 spec_SightsOk.bits11 (fun HT_ HW_ => ?_)
                 generalize wr.drew = w27 at HB ai aj ao ap aq ar hHeld ⊢
                 refine zu 0 (some 52) #[tt, ff, ff, ff, ff, ff, ff, ff, ff, ff, ff, ff, ff, ff, ff, ff, ff, ff, ff] (any_of HT_.out (by kernel_rfl)) ?_
                 refine zu 1 (some 53) #[tt, tt, ff, ff, ff, ff, ff, ff, ff, ff, ff, ff, ff, ff, ff, ff, ff, ff, ff] (any_of HT_.out (by kernel_rfl)) ?_
                 refine zu 2 (some 54) #[tt, tt, tt, ff, ff, ff, ff, ff, ff, ff, ff, ff, ff, ff, ff, ff, ff, ff, ff] (any_of HT_.out (by kernel_rfl)) ?_
                 refine zu 3 (some 55) #[tt, tt, tt, tt, ff, ff, ff, ff, ff, ff, ff, ff, ff, ff, ff, ff, ff, ff, ff] (any_of HT_.out (by kernel_rfl)) ?_
                 refine zt 4 (some 56) #[tt, tt, tt, tt, tt, ff, ff, ff, ff, ff, ff, ff, ff, ff, ff, ff, ff, ff, ff] (take_ofW HT_.out HW_.out (by kernel_rfl)) hHeld ?_
                 refine zu 5 (some 57) #[tt, tt, tt, tt, tt, tt, ff, ff, ff, ff, ff, ff, ff, ff, ff, ff, ff, ff, ff] (any_of HT_.out (by kernel_rfl)) ?_
                 refine zu 6 (some 58) #[tt, tt, tt, tt, tt, tt, tt, ff, ff, ff, ff, ff, ff, ff, ff, ff, ff, ff, ff] (any_of HT_.out (by kernel_rfl)) ?_
                 refine zu 7 (some 59) #[tt, tt, tt, tt, tt, tt, tt, tt, ff, ff, ff, ff, ff, ff, ff, ff, ff, ff, ff] (any_of HT_.out (by kernel_rfl)) ?_
                 refine zu 8 (some 60) #[tt, tt, tt, tt, tt, tt, tt, tt, tt, ff, ff, ff, ff, ff, ff, ff, ff, ff, ff] (any_of HT_.out (by kernel_rfl)) ?_
                 refine zu 9 (some 61) #[tt, tt, tt, tt, tt, tt, tt, tt, tt, tt, ff, ff, ff, ff, ff, ff, ff, ff, ff] (any_of HT_.out (by kernel_rfl)) ?_
                 refine zu 10 (some 62) #[tt, tt, tt, tt, tt, tt, tt, tt, tt, tt, tt, ff, ff, ff, ff, ff, ff, ff, ff] (any_of HT_.out (by kernel_rfl)) ?_
                 refine zu 12 (some 64) #[tt, tt, tt, tt, tt, tt, tt, tt, tt, tt, tt, ff, tt, ff, ff, ff, ff, ff, ff] (any_of HT_.out (by kernel_rfl)) ?_
                 refine zu 13 (some 65) #[tt, tt, tt, tt, tt, tt, tt, tt, tt, tt, tt, ff, tt, tt, ff, ff, ff, ff, ff] (any_of HT_.out (by kernel_rfl)) ?_
                 refine zu 14 (some 66) #[tt, tt, tt, tt, tt, tt, tt, tt, tt, tt, tt, ff, tt, tt, tt, ff, ff, ff, ff] (any_of HT_.out (by kernel_rfl)) ?_
                 refine zu 15 (some 67) #[tt, tt, tt, tt, tt, tt, tt, tt, tt, tt, tt, ff, tt, tt, tt, tt, ff, ff, ff] (any_of HT_.out (by kernel_rfl)) ?_
                 refine zt 11 (some 63) #[tt, tt, tt, tt, tt, tt, tt, tt, tt, tt, tt, tt, tt, tt, tt, tt, ff, ff, ff] (take_ofW HT_.out HW_.out (by kernel_rfl)) hHeld ?_
                 refine zt 16 (some 68) #[tt, tt, tt, tt, tt, tt, tt, tt, tt, tt, tt, tt, tt, tt, tt, tt, tt, ff, ff] (take_ofW HT_.out HW_.out (by kernel_rfl)) hHeld ?_
                 refine zu 17 (some 69) #[tt, tt, tt, tt, tt, tt, tt, tt, tt, tt, tt, tt, tt, tt, tt, tt, tt, tt, ff] (any_of HT_.out (by kernel_rfl)) ?_
                 refine zu 18 (some 70) #[tt, tt, tt, tt, tt, tt, tt, tt, tt, tt, tt, tt, tt, tt, tt, tt, tt, tt, tt] (any_of HT_.out (by kernel_rfl)) ?_
                 refine done_ (done_of HT_.out (by kernel_rfl)) ?_
                 try go_wp2
                 go_roundg k3
                 case measure => have := a4.out; have := bf.out; have := bg.out; omega
                 case rel => exact ⟨(wrap64 (an + 1)), (by first | rfl | (simp; done) | (simp [*]; done)), H', ⟨by have := a4.out; have := bf.out; have := bg.out; omega⟩, ⟨zb HB⟩⟩
               ·rw [if_neg c24] at H
                exact absurd H (by simp)
              ·rw [if_neg c23] at H
               exact absurd H (by simp)
            ·rw [if_neg c20] at H
             exact absurd H (by simp)
           ·rw [if_neg c19] at H
            exact absurd H (by simp)
          ·rw [if_neg bh] at H
           have bp : decide (an < aa) = false := decide_eq_false bh
           clear bh; have H' := zK H; clear H
           go_wp2
           go_roundg k3
           case measure => have := a4.out; have := bf.out; have := bg.out; omega
           case rel => exact ⟨(wrap64 (aa + 1)), (by first | rfl | (simp; done) | (simp [*]; done)), H', ⟨by have := a4.out; have := bf.out; have := bg.out; omega⟩, ⟨zb HB⟩⟩
    ·rw [if_neg c3] at H
     have c3b0 : decide (aa < (l0.length : Int)) = false := decide_eq_false c3
     clear c3; obtain rfl := Option.some.inj H
     go_wp2
     go_ret
     exact ⟨by first | rfl | (simp [errW_none, errW_some] <;> rfl) | (simp [*, errW_none, errW_some] <;> rfl), by repeat (first | (with_reducible first | exact HB.out | apply zB | apply zC | apply zE) | exact HB.out)⟩
def spec_l03Has.l0 : Nat → List Int → Int → Int → Option (Bool)
 | 0, _, _, _ => none
 | k + 1, x0, x1, x5 => if x5 < (x0.length : Int) then (if 0 ≤ x5 then (if (rd x0 x5) = x1 then (some true) else (spec_l03Has.l0 k x0 x1 (wrap64 (x5 + 1)))) else (none)) else (some false)
def spec_l03Has.f (k : Nat) (l0 : List Int) (a1 : Int) : Option (Bool) := spec_l03Has.l0 k l0 a1 0
set_option maxHeartbeats 8000000 in
set_option maxRecDepth 100000 in
theorem spec_l03Has.calls (k : Nat) (A0 : Option Addr) (c0 : Nat) (l0 : List Int) (a1 : Int) (r : Bool) (w : World) (hr0 : Kd.C (Kd.int .i64) w A0 l0.length l0) (hc0 : l0.length ≤ c0) (h : spec_l03Has.f k l0 a1 = some r) :
  Calls Try.prog 76 #[.slice A0 l0.length c0, .int .i64 a1] w fun e w' => e = .returned (.bool r) ∧ Drawn0 w w' := by
 have HR0 := zK hr0; have HC0 := zK hc0; clear hr0 hc0
 have H : (spec_l03Has.l0 k l0 a1 0) = some r := h
 clear h; have H' := zK H; clear H
 go_enter Try.func76, Try.ntmps76
 go_wp2
 go_loopg [5] k (fun kq v5 w' => ∃ (aa : Int), v5 = .int .i64 aa ∧ Aside0 (spec_l03Has.l0 kq l0 a1 aa = some r) ∧ Aside0 (kq ≤ k) ∧ Drawn0 w w')
 case atStart => exact ⟨(0), (by first | rfl | (simp; done) | (simp [*]; done)), H', ⟨Nat.le_refl _⟩, by repeat (first | exact Drawn0.refl _ | apply Drawn0.step)⟩
 case round =>
  clear H'
  try clear p2
  obtain ⟨aa, rfl, HA, HK1, ⟨m1, rfl⟩⟩ := hrel
  cases gk with
  | zero => exact absurd HA.out (by simp [spec_l03Has.l0])
  | succ k1 =>
   have H := HA.out; clear HA
   simp only [spec_l03Has.l0] at H
   by_cases c3 : aa < (l0.length : Int)
   ·rw [if_pos c3] at H
    have c3b0 : decide (aa < (l0.length : Int)) = true := decide_eq_true c3
    clear c3
    by_cases c4 : 0 ≤ aa
    ·rw [if_pos c4] at H
     have c4b0 : decide (0 ≤ aa) = true := decide_eq_true c4
     clear c4
     by_cases c5 : (rd l0 aa) = a1
     ·rw [if_pos c5] at H
      have c5b0 : ((rd l0 aa) == a1) = true := beq_iff_eq.mpr c5
      have c5b1 : ((rd l0 aa) != a1) = false := bne_eq_false_iff_eq.mpr c5
      clear c5; obtain rfl := Option.some.inj H
      have ab : 0 ≤ (aa : Int) := of_decide_eq_true (by first | (with_reducible assumption) | assumption)
      have ac : aa < (l0.length : Int) := of_decide_eq_true (by first | (with_reducible assumption) | assumption)
      obtain ⟨af, ae, ad⟩ := Kd.at_int HR0.out aa ab ac
      cases ae
      replace ab := eq_true ab; replace ac := eq_true ac
      go_wp2
      go_ret
      exact ⟨by first | rfl | (simp; done) | (simp [*]; done), by repeat (first | exact Drawn0.refl _ | apply Drawn0.step)⟩
     ·rw [if_neg c5] at H
      have c5b0 : ((rd l0 aa) == a1) = false := beq_eq_false_iff_ne.mpr c5
      have c5b1 : ((rd l0 aa) != a1) = true := bne_iff_ne.mpr c5
      have H' := zK H; clear H
      have ab : 0 ≤ (aa : Int) := of_decide_eq_true (by first | (with_reducible assumption) | assumption)
      have ac : aa < (l0.length : Int) := of_decide_eq_true (by first | (with_reducible assumption) | assumption)
      obtain ⟨af, ae, ad⟩ := Kd.at_int HR0.out aa ab ac
      cases ae
      replace ab := eq_true ab; replace ac := eq_true ac
      go_wp2
      go_roundg k1
      case measure => have := HK1.out; omega
      case rel => exact ⟨(wrap64 (aa + 1)), (by first | rfl | (simp; done) | (simp [*]; done)), H', ⟨by have := HK1.out; omega⟩, by repeat (first | exact Drawn0.refl _ | apply Drawn0.step)⟩
    ·rw [if_neg c4] at H
     exact absurd H (by simp)
   ·rw [if_neg c3] at H
    have c3b0 : decide (aa < (l0.length : Int)) = false := decide_eq_false c3
    clear c3; obtain rfl := Option.some.inj H
    go_wp2
    go_ret
    exact ⟨by first | rfl | (simp; done) | (simp [*]; done), by repeat (first | exact Drawn0.refl _ | apply Drawn0.step)⟩
def spec_l03Fits.l0 : Nat → List (S52) → List (S89) → Int → Int → Int → Option (Bool)
 | 0, _, _, _, _, _ => none
 | k + 1, x0, x1, x2, x3, x9 => if x9 < (x1.length : Int) then (if 0 ≤ x9 then (if 0 ≤ x3 then (if x3 < (x0.length : Int) then (if ((rd_T89 x1 x9).f1) = ((rd_T52 x0 x3).f0) then (some false) else (spec_l03Fits.l0 k x0 x1 x2 x3 (wrap64 (x9 + 1)))) else (none)) else (none)) else (none)) else (if 0 ≤ x2 then (if x2 < (x1.length : Int) then (if ((rd_T89 x1 x2).f1) = 0 then (if 0 ≤ x3 then (if x3 < (x0.length : Int) then ((spec_l01In.f ((rd_T89 x1 x2).f0) ((rd_T52 x0 x3).f1) ((rd_T52 x0 x3).f2)).bind fun t659 => (some t659)) else (none)) else (none)) else (some false)) else (none)) else (none))
def spec_l03Fits.f (k : Nat) (l0 : List (S52)) (l1 : List (S89)) (a2 : Int) (a3 : Int) : Option (Bool) := spec_l03Fits.l0 k l0 l1 a2 a3 0
set_option maxHeartbeats 8000000 in
set_option maxRecDepth 100000 in
theorem spec_l03Fits.calls (k : Nat) (A0 : Option Addr) (c0 : Nat) (l0 : List (S52)) (A1 : Option Addr) (c1 : Nat) (l1 : List (S89)) (a2 : Int) (a3 : Int) (r : Bool) (w : World) (hr0 : Kd.C k52 w A0 l0.length l0) (hc0 : l0.length ≤ c0) (hr1 : Kd.C k89 w A1 l1.length l1) (hc1 : l1.length ≤ c1) (h : spec_l03Fits.f k l0 l1 a2 a3 = some r) :
  Calls Try.prog 99 #[.slice A0 l0.length c0, .slice A1 l1.length c1, .int .i64 a2, .int .i64 a3] w fun e w' => e = .returned (.bool r) ∧ Drawn0 w w' := by
 have HR0 := zK hr0; have HC0 := zK hc0; clear hr0 hc0; have aC := zK hr1; have HC1 := zK hc1; clear hr1 hc1
 have H : (spec_l03Fits.l0 k l0 l1 a2 a3 0) = some r := h
 clear h; have H' := zK H; clear H
 go_enter Try.func99, Try.ntmps99
 go_wp2
 repeat (go_quiet (fail); try go_wp2)
 go_loopg [9] k (fun kq v9 w' => ∃ (aa : Int), v9 = .int .i64 aa ∧ Aside0 (spec_l03Fits.l0 kq l0 l1 a2 a3 aa = some r) ∧ Aside0 (kq ≤ k) ∧ Drawn0 w w')
 case atStart => exact ⟨(0), (by first | rfl | (simp; done) | (simp [*]; done)), H', ⟨Nat.le_refl _⟩, by repeat (first | exact Drawn0.refl _ | apply Drawn0.step)⟩
 case round =>
  clear H'
  try clear c1
  try clear p2
  obtain ⟨aa, rfl, HA, HK1, ⟨m1, rfl⟩⟩ := hrel
  cases gk with
  | zero => exact absurd HA.out (by simp [spec_l03Fits.l0])
  | succ k1 =>
   have H := HA.out; clear HA
   simp only [spec_l03Fits.l0] at H
   by_cases c5 : aa < (l1.length : Int)
   ·rw [if_pos c5] at H
    have c5b0 : decide (aa < (l1.length : Int)) = true := decide_eq_true c5
    clear c5
    by_cases c6 : 0 ≤ aa
    ·rw [if_pos c6] at H
     have c6b0 : decide (0 ≤ aa) = true := decide_eq_true c6
     clear c6
     by_cases c7 : 0 ≤ a3
     ·rw [if_pos c7] at H
      have c7b0 : decide (0 ≤ a3) = true := decide_eq_true c7
      clear c7
      by_cases c8 : a3 < (l0.length : Int)
      ·rw [if_pos c8] at H
       have c8b0 : decide (a3 < (l0.length : Int)) = true := decide_eq_true c8
       clear c8
       by_cases c9 : ((rd_T89 l1 aa).f1) = ((rd_T52 l0 a3).f0)
       ·rw [if_pos c9] at H
        have c9b0 : (((rd_T89 l1 aa).f1) == ((rd_T52 l0 a3).f0)) = true := beq_iff_eq.mpr c9
        have c9b1 : (((rd_T89 l1 aa).f1) != ((rd_T52 l0 a3).f0)) = false := bne_eq_false_iff_eq.mpr c9
        clear c9; obtain rfl := Option.some.inj H
        have ab : 0 ≤ (aa : Int) := of_decide_eq_true (by first | (with_reducible assumption) | assumption)
        have ac : aa < (l1.length : Int) := of_decide_eq_true (by first | (with_reducible assumption) | assumption)
        obtain ⟨aD, aq, ah, ai⟩ := at_T89 aC.out aa ab ac
        cases aq
        replace ab := eq_true ab; replace ac := eq_true ac
        have ad : 0 ≤ (a3 : Int) := of_decide_eq_true (by first | (with_reducible assumption) | assumption)
        have ae : a3 < (l0.length : Int) := of_decide_eq_true (by first | (with_reducible assumption) | assumption)
        obtain ⟨aE, ar, aj, ak, al⟩ := at_T52 HR0.out a3 ad ae
        cases ar
        replace ad := eq_true ad; replace ae := eq_true ae
        go_wp2
        repeat (go_quiet (fail); try go_wp2)
        go_ret
        exact ⟨by first | rfl | (simp; done) | (simp [*]; done), by repeat (first | exact Drawn0.refl _ | apply Drawn0.step)⟩
       ·rw [if_neg c9] at H
        have c9b0 : (((rd_T89 l1 aa).f1) == ((rd_T52 l0 a3).f0)) = false := beq_eq_false_iff_ne.mpr c9
        have c9b1 : (((rd_T89 l1 aa).f1) != ((rd_T52 l0 a3).f0)) = true := bne_iff_ne.mpr c9
        have H' := zK H; clear H
        have ab : 0 ≤ (aa : Int) := of_decide_eq_true (by first | (with_reducible assumption) | assumption)
        have ac : aa < (l1.length : Int) := of_decide_eq_true (by first | (with_reducible assumption) | assumption)
        obtain ⟨aD, aq, ah, ai⟩ := at_T89 aC.out aa ab ac
        cases aq
        replace ab := eq_true ab; replace ac := eq_true ac
        have ad : 0 ≤ (a3 : Int) := of_decide_eq_true (by first | (with_reducible assumption) | assumption)
        have ae : a3 < (l0.length : Int) := of_decide_eq_true (by first | (with_reducible assumption) | assumption)
        obtain ⟨aE, ar, aj, ak, al⟩ := at_T52 HR0.out a3 ad ae
        cases ar
        replace ad := eq_true ad; replace ae := eq_true ae
        go_wp2
        repeat (go_quiet (fail); try go_wp2)
        go_roundg k1
        case measure => have := HK1.out; omega
        case rel => exact ⟨(wrap64 (aa + 1)), (by first | rfl | (simp; done) | (simp [*]; done)), H', ⟨by have := HK1.out; omega⟩, by repeat (first | exact Drawn0.refl _ | apply Drawn0.step)⟩
      ·rw [if_neg c8] at H
       exact absurd H (by simp)
     ·rw [if_neg c7] at H
      exact absurd H (by simp)
    ·rw [if_neg c6] at H
     exact absurd H (by simp)
   ·rw [if_neg c5] at H
    have c5b0 : decide (aa < (l1.length : Int)) = false := decide_eq_false c5
    clear c5
    by_cases c10 : 0 ≤ a2
    ·rw [if_pos c10] at H
     have c10b0 : decide (0 ≤ a2) = true := decide_eq_true c10
     clear c10
     by_cases c11 : a2 < (l1.length : Int)
     ·rw [if_pos c11] at H
      have c11b0 : decide (a2 < (l1.length : Int)) = true := decide_eq_true c11
      clear c11
      by_cases au : ((rd_T89 l1 a2).f1) = 0
      ·rw [if_pos au] at H
       have aF : (((rd_T89 l1 a2).f1) == 0) = true := beq_iff_eq.mpr au
       have aG : (((rd_T89 l1 a2).f1) != 0) = false := bne_eq_false_iff_eq.mpr au
       clear au
       by_cases c13 : 0 ≤ a3
       ·rw [if_pos c13] at H
        have c13b0 : decide (0 ≤ a3) = true := decide_eq_true c13
        clear c13
        by_cases c14 : a3 < (l0.length : Int)
        ·rw [if_pos c14] at H
         have c14b0 : decide (a3 < (l0.length : Int)) = true := decide_eq_true c14
         clear c14; replace H := Option.bind_eq_some_iff.mp H
         obtain ⟨am, aH, H⟩ := H
         replace H : (some am) = some r := H
         have A15 := zK aH; clear aH; obtain rfl := Option.some.inj H
         have af : 0 ≤ (a2 : Int) := of_decide_eq_true (by first | (with_reducible assumption) | assumption)
         have ag : a2 < (l1.length : Int) := of_decide_eq_true (by first | (with_reducible assumption) | assumption)
         obtain ⟨ap, av, an, ao⟩ := at_T89 aC.out a2 af ag
         cases av
         replace af := eq_true af; replace ag := eq_true ag
         have aw : 0 ≤ (a2 : Int) := of_decide_eq_true (by first | (with_reducible assumption) | assumption)
         have ax : a2 < (l1.length : Int) := of_decide_eq_true (by first | (with_reducible assumption) | assumption)
         obtain ⟨aI, e656, hx656_0, hx656_1⟩ := at_T89 aC.out a2 aw ax
         obtain rfl : ap = aI := (by injection e656)
         replace aw := eq_true aw; replace ax := eq_true ax
         have ay : 0 ≤ (a3 : Int) := of_decide_eq_true (by first | (with_reducible assumption) | assumption)
         have az : a3 < (l0.length : Int) := of_decide_eq_true (by first | (with_reducible assumption) | assumption)
         obtain ⟨aJ, e657, hx657_0, hx657_1, hx657_2⟩ := at_T52 HR0.out a3 ay az
         cases e657
         replace ay := eq_true ay; replace az := eq_true az
         have aA : 0 ≤ (a3 : Int) := of_decide_eq_true (by first | (with_reducible assumption) | assumption)
         have aB : a3 < (l0.length : Int) := of_decide_eq_true (by first | (with_reducible assumption) | assumption)
         obtain ⟨aK, e658, hx658_0, hx658_1, hx658_2⟩ := at_T52 HR0.out a3 aA aB
         obtain rfl : aJ = aK := (by injection e658)
         replace aA := eq_true aA; replace aB := eq_true aB
         go_wp2_with (first | (go_at_call 80; (with_reducible refine (spec_l01In.calls ((rd_T89 l1 a2).f0) ((rd_T52 l0 a3).f1) ((rd_T52 l0 a3).f2) am _ A15.out).mono ?_); rintro e w' ⟨rfl, ⟨nd, rfl⟩⟩; (try first | exact ⟨rfl, _, World.drewN_drewN _ _ _⟩ | exact ⟨rfl, _, Eq.trans (World.drewN_drewN _ _ _) (congrArg (World.drewN _) (Nat.add_assoc _ _ _))⟩)))
         repeat (go_quiet (first | (go_at_call 80; (with_reducible refine (spec_l01In.calls ((rd_T89 l1 a2).f0) ((rd_T52 l0 a3).f1) ((rd_T52 l0 a3).f2) am _ A15.out).mono ?_); rintro e w' ⟨rfl, ⟨nd, rfl⟩⟩; (try first | exact ⟨rfl, _, World.drewN_drewN _ _ _⟩ | exact ⟨rfl, _, Eq.trans (World.drewN_drewN _ _ _) (congrArg (World.drewN _) (Nat.add_assoc _ _ _))⟩))); try go_wp2_with (first | (go_at_call 80; (with_reducible refine (spec_l01In.calls ((rd_T89 l1 a2).f0) ((rd_T52 l0 a3).f1) ((rd_T52 l0 a3).f2) am _ A15.out).mono ?_); rintro e w' ⟨rfl, ⟨nd, rfl⟩⟩; (try first | exact ⟨rfl, _, World.drewN_drewN _ _ _⟩ | exact ⟨rfl, _, Eq.trans (World.drewN_drewN _ _ _) (congrArg (World.drewN _) (Nat.add_assoc _ _ _))⟩))))
         go_ret
         exact ⟨by first | rfl | (simp; done) | (simp [*]; done), by repeat (first | exact Drawn0.refl _ | apply Drawn0.step)⟩
        ·rw [if_neg c14] at H
         exact absurd H (by simp)
       ·rw [if_neg c13] at H
        exact absurd H (by simp)
      ·rw [if_neg au] at H
       have aF : (((rd_T89 l1 a2).f1) == 0) = false := beq_eq_false_iff_ne.mpr au
       have aG : (((rd_T89 l1 a2).f1) != 0) = true := bne_iff_ne.mpr au
       obtain rfl := Option.some.inj H
       have af : 0 ≤ (a2 : Int) := of_decide_eq_true (by first | (with_reducible assumption) | assumption)
       have ag : a2 < (l1.length : Int) := of_decide_eq_true (by first | (with_reducible assumption) | assumption)
       obtain ⟨ap, av, an, ao⟩ := at_T89 aC.out a2 af ag
       cases av
       replace af := eq_true af; replace ag := eq_true ag
       go_wp2
       repeat (go_quiet (fail); try go_wp2)
       go_ret
       exact ⟨by first | rfl | (simp; done) | (simp [*]; done), by repeat (first | exact Drawn0.refl _ | apply Drawn0.step)⟩
     ·rw [if_neg c11] at H
      exact absurd H (by simp)
    ·rw [if_neg c10] at H
     exact absurd H (by simp)
def fitsB (l1 : List S89) (s : S89) (x : S52) : Bool := (impl_fits.f l1 s.f0 s.f1 x.f0 x.f1 x.f2).getD false
theorem fits_tot (l1 : List S89) (s : S89) (x : S52) : impl_fits.f l1 s.f0 s.f1 x.f0 x.f1 x.f2 = some (fitsB l1 s x) := by
 obtain ⟨b, hb⟩ : ∃ b, impl_isNamed.f l1 x.f0 = some b := ⟨_, rfl⟩
 obtain ⟨r, hr⟩ : ∃ r, impl_fits.f l1 s.f0 s.f1 x.f0 x.f1 x.f2 = some r := by
  simp only [impl_fits.f, hb, Option.bind_some]
  (repeat' split) <;> exact ⟨_, rfl⟩
 unfold fitsB
 rw [hr]
 rfl
theorem has_l (l : List Int) (b : Int) (hn : l.length ≤ 1048576) : ∀ (d i k : Nat), i + d = l.length → d < k → ∃ r, slices_Index_int_int.l0 k l b (l.length : Int) (i : Int) = some r ∧ (r ≥ 0 ↔ b ∈ l.drop i) := by
 intro d
 induction d with
 | zero =>
  intro i k hi hk
  obtain ⟨k, rfl⟩ : ∃ m, k = m + 1 := ⟨k - 1, by omega⟩
  refine ⟨-1, ?_, ?_⟩
  ·simp only [slices_Index_int_int.l0]
   rw [if_neg (by omega)]
  ·rw [List.drop_of_length_le (by omega)]
   simp
 | succ d ih =>
  intro i k hi hk
  obtain ⟨k, rfl⟩ : ∃ m, k = m + 1 := ⟨k - 1, by omega⟩
  have hlt : i < l.length := by omega
  have hrd : rd l (i : Int) = l[i] := by simp [rd, hlt]
  rw [List.drop_eq_getElem_cons hlt]
  by_cases e : b = l[i]
  ·refine ⟨(i : Int), ?_, ?_⟩
   ·simp only [slices_Index_int_int.l0, hrd]
    rw [if_pos (by omega), if_pos (by omega), if_pos (by omega), if_pos e]
   ·exact ⟨fun _ => by rw [e]; exact List.mem_cons_self, fun _ => by omega⟩
  ·obtain ⟨r, hr, hb⟩ := ih (i + 1) k (by omega) (by omega)
   refine ⟨r, ?_, ?_⟩
   ·simp only [slices_Index_int_int.l0, hrd]
    rw [if_pos (by omega), if_pos (by omega), if_pos (by omega), if_neg e, show wrap64 ((i : Int) + 1) = ((i + 1 : Nat) : Int) by unfold wrap64; omega]
    exact hr
   ·rw [hb, List.mem_cons]
    exact ⟨Or.inr, fun h => h.elim (fun h => absurd h e) id⟩
theorem has_tot (l : List Int) (b : Int) (hn : l.length ≤ 1048576) : ∃ k, slices_Contains_int_int.f k l b = some (decide (b ∈ l)) := by
 obtain ⟨r, hr, hb⟩ := has_l l b hn l.length 0 (l.length + 1) (by omega) (by omega)
 refine ⟨l.length + 1, ?_⟩
 have e' : slices_Index_int_int.l0 (l.length + 1) l b (l.length : Int) 0 = some r := hr
 simp only [slices_Contains_int_int.f, slices_Index_int_int.f, e', Option.bind_some]
 rw [List.drop_zero] at hb
 rw [decide_eq_decide.2 hb]
def sg (l1 : List S89) (tk : List Int) : S89 := rd_T89 l1 (tk.length : Int)
def waysL (l0 : List S52) (l1 : List S89) : Nat → List Int → List (List Int)
 | 0, tk => [tk]
 | m + 1, tk => waysL l0 l1 m (tk ++ [(sg l1 tk).f1]) ++ l0.flatMap (fun x => if (fitsB l1 (sg l1 tk) x && !decide (x.f0 ∈ tk)) = true then waysL l0 l1 m (tk ++ [x.f0]) else [])
def wayF (l0 : List S52) (l1 : List S89) (m : Nat) (tk : List Int) (x : S52) : List (List Int) := if (fitsB l1 (sg l1 tk) x && !decide (x.f0 ∈ tk)) = true then waysL l0 l1 m (tk ++ [x.f0]) else []
theorem waysL_next (l0 : List S52) (l1 : List S89) (m : Nat) (tk : List Int) (j : Nat) (hj : j < l0.length) : (l0.take (j + 1)).flatMap (wayF l0 l1 m tk) = (l0.take j).flatMap (wayF l0 l1 m tk) ++ wayF l0 l1 m tk (rd_T52 l0 (j : Int)) := by
 rw [List.take_succ_eq_append_getElem hj, List.flatMap_append, List.flatMap_singleton]
 have : rd_T52 l0 (j : Int) = l0[j] := by simp [rd_T52, hj]
 rw [this]
structure CB {σ : Type} (g : Nat) (lb : Array Value) (n : Nat) (T : List (List Int)) (w0 : World) (Inv : σ → (Nat → Prop) → World → Prop) (step : σ → List Int → σ) : Prop where
 base : ∀ {s F W}, Inv s F W → Below w0.heap.size w0 W
 old : ∀ {s F W}, Inv s F W → ∀ k, F k → k < W.heap.size
 stab : ∀ {s F W W'}, Inv s F W → Below W.heap.size W W' → Inv s F W'
 call : ∀ s F W A c (tk : List Int), tk ∈ T → tk.length = n → Inv s F W → tk.length ≤ c → Kd.C (Kd.int .i64) W A tk.length tk → (∀ ad, A = some ad → 0 < tk.length → ¬ F ad.block) →
  Calls Try.prog g (#[.slice A tk.length c] ++ lb) W fun e W' => e = .returned (.tuple #[]) ∧ ∃ F', Inv (step s tk) F' W' ∧ Kept W W' F ∧ ∀ k, F' k → F k ∨ W.heap.size ≤ k
theorem below_none {W w1 : World} (h : W.grownBy w1 none) : Below W.heap.size W w1 := ⟨h.os, h.tape, h.output, h.size, fun k hk => h.block k hk (by simp)⟩
theorem ways_none {W : World} {A : Option Addr} {tk : List Int} (h : Kd.C (Kd.int .i64) W A tk.length tk) (hA : A = none) : tk.length = 0 := by
 rcases Nat.eq_zero_or_pos tk.length with h0 | h0
 ·exact h0
 ·obtain ⟨ad, e, _⟩ := h.2.2 h0
  rw [hA] at e
  cases e
theorem ways_cells {W : World} {A : Option Addr} {tk : List Int} (h : Kd.C (Kd.int .i64) W A tk.length tk) {b : Addr} (hb : A = some b) {j : Nat} {u : Value} (hj : (tk.map (Value.int .i64))[j]? = some u) : W.cell? (b.add j) = some u := by
 rw [List.getElem?_map] at hj
 obtain ⟨x, hx, rfl⟩ := Option.map_eq_some_iff.1 hj
 have hpos : 0 < tk.length := Nat.lt_of_le_of_lt (Nat.zero_le _) (List.getElem?_eq_some_iff.1 hx).1
 obtain ⟨ad, e, hc⟩ := h.2.2 hpos
 obtain rfl : b = ad := by rw [hb] at e; exact Option.some.inj e
 obtain ⟨c, _, hk, hcell⟩ := hc j x hx
 have := hcell 0 (.int .i64 x) (by rw [show c = [Value.int .i64 x] from hk]; rfl)
 rwa [show (Kd.int IntKind.i64).sz = 1 from rfl, Nat.mul_one, Nat.add_zero] at this
theorem ways_one {X : World} {v u : Value} {j : Nat} (hj : [v][j]? = some u) : (X.alloc (.cells #[v] 3)).cell? ((⟨X.heap.size, 0, none⟩ : Addr).add j) = some u := by
 rw [add_plain, blk_cell (g := X.heap.size) (cs := #[v]) (t := 3) (by show (X.heap.push _)[X.heap.size]? = _; exact Array.getElem?_push_size) j]
 simpa using hj
theorem ways_new {w1 : World} {base : Nat} {v' : Value} {tk : List Int} {b : Int} (ho : w1.ownsRow base 3 1 v' (tk.length + 1) (tk.map (Value.int .i64) ++ [.int .i64 b])) :
  ∃ g c, v' = .slice (some ⟨g, 0, none⟩) (tk ++ [b]).length c ∧ base ≤ g ∧ g < w1.heap.size ∧ (tk ++ [b]).length ≤ c ∧ Kd.C (Kd.int .i64) w1 (some ⟨g, 0, none⟩) (tk ++ [b]).length (tk ++ [b]) := by
 have h1 : Kd.R (Kd.int .i64) 3 w1 base (fun _ => True) v' (tk ++ [b]) := Kd.R_of_own (enc := Value.int .i64) (h1 := fun _ => rfl) (by simpa [encs] using ho) (fun _ _ => trivial)
 obtain ⟨g, cap, rfl, hb, hl, _⟩ := Kd.R_form h1 (by simp)
 obtain ⟨_, hc, hC⟩ := Kd.R_reads' h1
 exact ⟨g, cap, rfl, hb, hl, hc, hC⟩
theorem ways_fresh {F : Nat → Prop} {N g n : Nat} (hF : ∀ k, F k → k < N) (hN : N ≤ g) : ∀ ad, some (⟨g, 0, none⟩ : Addr) = some ad → 0 < n → ¬ F ad.block := by
 intro ad e _ hf
 injection e with e
 subst e
 exact absurd (hF g hf) (by omega)
theorem ways_keep {W W' : World} {A : Option Addr} {tk : List Int} {F : Nat → Prop} (hC : Kd.C (Kd.int .i64) W A tk.length tk) (hf : ∀ ad, A = some ad → 0 < tk.length → ¬ F ad.block) (hk : Kept W W' F) : Kd.C (Kd.int .i64) W' A tk.length tk :=
 Kd.C_foot_neS (fun h => h) hC hf W' hk
theorem ways_foot {W : World} {A : Option Addr} {tk : List Int} {F F1 : Nat → Prop} (hC : Kd.C (Kd.int .i64) W A tk.length tk) (hf : ∀ ad, A = some ad → 0 < tk.length → ¬ F ad.block) (h1 : ∀ k, F1 k → F k ∨ W.heap.size ≤ k) : ∀ ad, A = some ad → 0 < tk.length → ¬ F1 ad.block := by
 intro ad e hn h
 rcases h1 _ h with h2 | h2
 ·exact hf ad e hn h2
 ·subst e
  have := Kd.C_lt hC hn (by decide)
  omega
theorem ways_box {X : World} (cs : Array Value) (t i : Nat) : (X.alloc (.cells cs t)).drew.cell? ⟨X.heap.size, i, none⟩ = cs[i]? :=
 blk_cell (g := X.heap.size) (cs := cs) (t := t) (by show (X.heap.push _)[X.heap.size]? = _; exact Array.getElem?_push_size) i
theorem ways_mem {l0 : List S52} {j : Nat} (hj : j < l0.length) : rd_T52 l0 (j : Int) ∈ l0 := by
 have : rd_T52 l0 (j : Int) = l0[j] := by simp [rd_T52, hj]
 rw [this]
 exact List.getElem_mem hj
theorem cut_full {P : Program} (t e : TypeId) {i : TypeInfo} (ht : P.underlying t = some (.slice e)) (hi : P.info? e = some i) (A : Option Addr) (c n : Nat) (hc : n ≤ c) :
  ∀ W : World, (Instr.slice t (.slice A n c) none (some (.int .i64 (n : Int))) (some (.int .i64 (n : Int)))).run P W = .ok (.slice A n n) W := by
 intro W
 have hel : P.elem t = e := by simp [Program.elem, ht]
 have hu : P.underlying t = some (.slice (P.elem t)) := by rw [hel]; exact ht
 have ha : (A.map fun x => x.add 0) = A := by cases A <;> simp [Addr.add]
 rw [run_slice_hm W t A n c hu .i64 .i64 (n : Int) (n : Int) (by omega) (by omega) (by omega), hel]
 simp [sizeOf, typeInfo, hi, sliced, Result.andThen, ha]
set_option maxHeartbeats 8000000 in
set_option maxRecDepth 100000 in
theorem ways_any {σ : Type} (g : Nat) (lb : Array Value) (eg : ∀ args w, (callFunc g args).run Try.prog w = .ok (.enter g args) w) (w0 : World) (Inv : σ → (Nat → Prop) → World → Prop) (step : σ → List Int → σ) (A0 : Option Addr) (c0 : Nat) (l0 : List S52) (A1 : Option Addr) (c1 : Nat) (l1 : List S89)
  (hr0 : Kd.C k52 w0 A0 l0.length l0) (hc0 : l0.length ≤ c0) (hr1 : Kd.C k89 w0 A1 l1.length l1) (hc1 : l1.length ≤ c1) (hn : l1.length ≤ 6) (T : List (List Int)) (hCB : CB g lb l1.length T w0 Inv step) :
  ∀ (m : Nat) (tk : List Int) (A : Option Addr) (c : Nat) (s : σ) (F : Nat → Prop) (W : World), (∀ x ∈ waysL l0 l1 m tk, x ∈ T) → tk.length + m = l1.length → Inv s F W → tk.length ≤ c → Kd.C (Kd.int .i64) W A tk.length tk → (∀ ad, A = some ad → 0 < tk.length → ¬ F ad.block) →
  Calls Try.prog 82 #[.slice A0 l0.length c0, .slice A1 l1.length c1, .slice A tk.length c, .func (.func g) #[] lb] W fun e W' => e = .returned (.tuple #[]) ∧ ∃ F', Inv ((waysL l0 l1 m tk).foldl step s) F' W' ∧ Kept W W' F ∧ ∀ k, F' k → F k ∨ W.heap.size ≤ k := by
 intro m
 induction m with
 | zero =>
  intro tk A c s F W hT hm hI hc hC hF
  have hcall := hCB.call s F W A c tk (hT tk (List.mem_singleton.2 rfl)) (by omega) hI hc hC hF
  have htest : ((tk.length : Int) == (l1.length : Int)) = true := by simp; omega
  clear hI hC hF hr0 hr1 hm hCB hT
  go_enter Try.func82, Try.ntmps82
  go_wp2_with (go_at_fn g; refine hcall.mono ?_; rintro e w3 ⟨rfl, F3, hI3, hK3, hF3⟩)
  refine bodyPost_ret (results_none rfl _ _ _) rfl ?_
  exact ⟨rfl, F3, hI3, hK3, hF3⟩
 | succ m ih =>
  intro tk A c s F W hT hm hI hc hC hF
  have IH := zK ih; have HT := zK hT; clear ih hT; have af := zK hn; have HLM := zK hm
  have hbig : l0.length ≤ 9223372036854775807 := hr0.2.1
  have HR0 := zK hr0; have HC0_ := zK hc0
  have HBW := zK (hCB.base hI)
  have HI0 := zK hI; have HC0 := zK hC; have HF0 := zK hF; have HCc := zK hc
  have HA0 : Aside0 (A = none → tk.length = 0) := ⟨fun hA => ways_none hC hA⟩
  obtain ⟨aa, e1, hs0, hs1⟩ := at_T89 hr1 (tk.length : Int) (by omega) (by omega)
  cases e1
  rw [Int.toNat_natCast] at hs0 hs1
  have HR1 := zK hr1; have HC1 := zK hc1
  have Hs0 := zK (show w0.cell? (aa.add (tk.length * 2)) = some (.int .i64 (sg l1 tk).f0) from hs0)
  have Hs1 := zK (show w0.cell? ⟨(aa.add (tk.length * 2)).block, (aa.add (tk.length * 2)).off + 1, none⟩ = some (.int .i64 (sg l1 tk).f1) from hs1)
  clear hs0 hs1
  have hs0 := (HBW.out.cell (World.block_lt_of_cell? w0 _ Hs0.out)).trans Hs0.out
  have hs1 := (HBW.out.cell (World.block_lt_of_cell? w0 _ Hs1.out)).trans Hs1.out
  obtain ⟨i0, hi0, hz0, hz1, hz2⟩ : ∃ i0, Try.prog.info? 3 = some i0 ∧ i0.zero = some (.int .i64 0) ∧ i0.size = 1 ∧ i0.bytes = 8 := by
   have hx : (Try.prog.info? 3).map (fun i => (i.zero, i.size, i.bytes)) = some (some (.int .i64 0), 1, 8) := by kernel_rfl
   cases hh : Try.prog.info? 3 with
   | none => rw [hh] at hx; cases hx
   | some i =>
    rw [hh] at hx
    have ab := Option.some.inj hx
    exact ⟨i, rfl, congrArg Prod.fst ab, congrArg (fun y => y.2.1) ab, congrArg (fun y => y.2.2) ab⟩
  have hcut := cut_full (P := Try.prog) 29 3 Try.underlying29 hi0 A c tk.length hc
  have htest : ((tk.length : Int) == (l1.length : Int)) = false := by simp; omega
  have hp0 : (0 ≤ (tk.length : Int)) = True := eq_true (by omega)
  have hq0 : ((tk.length : Int) < (l1.length : Int)) = True := eq_true (by omega)
  clear hI hC hF hr0 hr1 hc0 hc1 hn hm hc
  go_enter Try.func82, Try.ntmps82
  go_wp2
  refine start_ (n := 15) (S := fun w' => w'.cell? (aa.add (tk.length * 2)) = some (.int .i64 (sg l1 tk).f0) ∧ w'.cell? ⟨(aa.add (tk.length * 2)).block, (aa.add (tk.length * 2)).off + 1, none⟩ = some (.int .i64 (sg l1 tk).f1)) (ds := [14]) #[ff, ff, ff, ff, ff, ff, ff, ff, ff, ff, ff, ff, ff, ff, ff] (by kernel_rfl) rfl rfl ⟨hs0, hs1⟩ (fun hHeld => ?_)
  refine zu 0 (some 20) #[tt, ff, ff, ff, ff, ff, ff, ff, ff, ff, ff, ff, ff, ff, ff] (by kernel_rfl) ?_
  refine zu 1 (some 21) #[tt, tt, ff, ff, ff, ff, ff, ff, ff, ff, ff, ff, ff, ff, ff] (by kernel_rfl) ?_
  refine zu 2 (some 22) #[tt, tt, tt, ff, ff, ff, ff, ff, ff, ff, ff, ff, ff, ff, ff] (by kernel_rfl) ?_
  refine zu 3 (some 23) #[tt, tt, tt, tt, ff, ff, ff, ff, ff, ff, ff, ff, ff, ff, ff] (by kernel_rfl) ?_
  refine zu 4 (some 24) #[tt, tt, tt, tt, tt, ff, ff, ff, ff, ff, ff, ff, ff, ff, ff] (by kernel_rfl) ?_
  refine zu 5 (some 25) #[tt, tt, tt, tt, tt, tt, ff, ff, ff, ff, ff, ff, ff, ff, ff] (by kernel_rfl) ?_
  refine zu 6 (some 26) #[tt, tt, tt, tt, tt, tt, tt, ff, ff, ff, ff, ff, ff, ff, ff] (by kernel_rfl) ?_
  refine zu 7 (some 27) #[tt, tt, tt, tt, tt, tt, tt, tt, ff, ff, ff, ff, ff, ff, ff] (by kernel_rfl) ?_
  refine zu 8 (some 28) #[tt, tt, tt, tt, tt, tt, tt, tt, tt, ff, ff, ff, ff, ff, ff] (by kernel_rfl) ?_
  refine zu 9 (some 29) #[tt, tt, tt, tt, tt, tt, tt, tt, tt, tt, ff, ff, ff, ff, ff] (by kernel_rfl) ?_
  refine zu 13 (some 33) #[tt, tt, tt, tt, tt, tt, tt, tt, tt, tt, ff, ff, ff, tt, ff] (by kernel_rfl) ?_
  refine zt 10 (some 30) #[tt, tt, tt, tt, tt, tt, tt, tt, tt, tt, tt, ff, ff, tt, ff] (by kernel_rfl) hHeld ?_
  refine one_ (i := 11) (N := some 31) #[tt, tt, tt, tt, tt, tt, tt, tt, tt, tt, tt, tt, ff, tt, ff] rfl rfl (by kernel_rfl) (by decide) (fun K hK => ?_)
  refine value_ (w1 := ?_) (v := ?_) (by rfl) rfl ?_ ?_
  rotate_left 2
  ·go_simp
   constructor
   ·rfl
   ·rfl
  refine hK.out _ _ ⟨pw_cell_below (zB (Below.refl _ _) _) hHeld.1, pw_cell_below (zB (Below.refl _ _) _) hHeld.2⟩ (fun hHeld => ?_)
  clear hK K
  refine norm_ (a' := ?_) ?_ ?_
  rotate_left
  ·show Act.put _ (some 31) _ = _
   simp only [Act.put, zp, zq, zr, i64_w, i32_w]
   rfl
  refine one_ (i := 12) (N := some 32) #[tt, tt, tt, tt, tt, tt, tt, tt, tt, tt, tt, tt, tt, tt, ff] rfl rfl (by kernel_rfl) (by decide) (fun K hK => ?_)
  refine step_append_grows rfl (.tmp 25) (.tmp 31) 29 rfl 3 i0 (.int .i64 0) 1 8 Try.underlying29 hi0 hz0 hz1 hz2 rfl (by decide) A tk.length tk.length (tk.map (Value.int .i64)) rfl ?n1 ?n2 ?n3 ⟨_, 0, none⟩ 1 1 [.int .i64 ((sg l1 tk).f1)] rfl rfl ?n4 ?n5 ?n6 ?n7 ?n8 ?_
  (case n1 => exact fun hA => ⟨HA0.out hA, HA0.out hA⟩)
  (case n2 => simp)
  (case n3 => exact fun b hb j u hj => pw_cell_below (w := W.drew) (zB (Below.refl _ _) _) (ways_cells HC0.out hb hj))
  (case n4 => exact fun j u hj => ways_one hj)
  (case n5 => intro u hu; rw [List.mem_singleton.1 hu]; rfl)
  (case n6 => omega)
  (case n7 => have := af.out; have := HLM.out; unfold maxLen; omega)
  (case n8 => have := af.out; have := HLM.out; omega)
  intro v1 w1 ho hg1
  obtain ⟨g1, k1, rfl, hg1a, hg1b, hk1, ag⟩ := ways_new ho
  have hb1 : Below W.heap.size W w1 := below_then (zB (w := W) (below_drew (Below.refl _ _)) _) (zB (w := W) (below_drew (Below.refl _ _)) _).size (below_none hg1)
  have hI1 := hCB.stab HI0.out hb1
  have hih := IH.out (tk ++ [(sg l1 tk).f1]) (some ⟨g1, 0, none⟩) k1 _ _ w1 (fun x hx => HT.out x (List.mem_append_left _ hx)) (by rw [List.length_append]; have := HLM.out; simp; omega) hI1 hk1 ag (ways_fresh (hCB.old HI0.out) (Nat.le_trans (zB (w := W) (below_drew (Below.refl _ _)) _).size hg1a))
  refine hK.out _ _ ⟨pw_cell_below (below_none hg1) hHeld.1, pw_cell_below (below_none hg1) hHeld.2⟩ (fun hHeld => ?_)
  clear hK K
  refine norm_ (a' := ?_) ?_ ?_
  rotate_left
  ·show Act.put _ (some 32) _ = _
   simp only [Act.put, zp, zq, zr, i64_w, i32_w]
   rfl
  refine last_ (i := 14) (N := some 34) #[tt, tt, tt, tt, tt, tt, tt, tt, tt, tt, tt, tt, tt, tt, tt] rfl rfl (by kernel_rfl) (by decide) (fun K hK => ?_)
  refine goes_ Try.func82 (by kernel_rfl) rfl #[.slice A0 l0.length c0, .slice (some aa) l1.length c1, .slice (some ⟨g1, 0, none⟩) (tk ++ [(sg l1 tk).f1]).length k1, .func (.func g) #[] lb] (by rfl) rfl rfl (by simp only [List.map_toArray, List.map_cons, List.map_nil]; rfl) ?_
  with_reducible refine (hih).mono ?_
  rintro e w3 ⟨rfl, F3, hI3, hK3, hF3⟩
  refine ⟨_, rfl, ?_⟩
  refine hK.out _ _ ?_
  clear hK K
  refine norm_ (a' := ?_) ?_ ?_
  rotate_left
  ·show Act.put _ (some 34) _ = _
   simp only [Act.put, zp, zq, zr, i64_w, i32_w]
   rfl
  refine done_ (by kernel_rfl) ?_
  have HI3 := zK (show Inv ((waysL l0 l1 m (tk ++ [(sg l1 tk).f1])).foldl step s) F3 w3 from hI3)
  have HK3 := zK ((Kept.of_below hb1 F).then_ hK3 (fun k hk => .inl hk))
  have HF3 := zK (show ∀ k, F3 k → F k ∨ W.heap.size ≤ k from fun k hk => (hF3 k hk).imp id (fun h => Nat.le_trans hb1.size h))
  clear hI3 hK3 hF3 hI1 ag hb1 hs0 hs1 hih
  go_wp2
  go_loopg [37] l0.length (fun gg v37 wr => ∃ (j : Nat) (F1 : Nat → Prop), j ≤ l0.length ∧ l0.length - j ≤ gg ∧ v37 = .int .i64 j ∧ Aside0 (Inv ((waysL l0 l1 m (tk ++ [(sg l1 tk).f1]) ++ (l0.take j).flatMap (wayF l0 l1 m tk)).foldl step s) F1 wr) ∧ Aside0 (Kept W wr F) ∧ Aside0 (∀ k, F1 k → F k ∨ W.heap.size ≤ k))
  case atStart => exact ⟨0, F3, Nat.zero_le _, by omega, rfl, ⟨by simpa using HI3.out⟩, HK3, HF3⟩
  case round =>
   obtain ⟨j, F1, hj, hg, rfl, I1, K1, F1b⟩ := hrel
   have HBw := hCB.base I1.out
   by_cases hlt : j < l0.length
   ·obtain ⟨ad0, e0, ac, ab, ae⟩ := at_T52 HR0.out (j : Int) (by omega) (by omega)
    cases e0
    rw [Int.toNat_natCast] at ac ab ae
    replace ac := (HBw.cell (World.block_lt_of_cell? w0 _ ac)).trans ac
    replace ab := (HBw.cell (World.block_lt_of_cell? w0 _ ab)).trans ab
    replace ae := (HBw.cell (World.block_lt_of_cell? w0 _ ae)).trans ae
    have hbX : Below wr.heap.size wr (wr.alloc (.cells #[.int .i64 (rd_T52 l0 (j : Int)).f0, .int .i64 (rd_T52 l0 (j : Int)).f1, .int .i64 (rd_T52 l0 (j : Int)).f2] 52)).drew := below_drew (zB (Below.refl _ _) _)
    have ht0 := pw_cell_below hbX ((HBw.cell (World.block_lt_of_cell? w0 _ Hs0.out)).trans Hs0.out)
    have ht1 := pw_cell_below hbX ((HBw.cell (World.block_lt_of_cell? w0 _ Hs1.out)).trans Hs1.out)
    have HCr := zK (ways_keep HC0.out HF0.out K1.out)
    have HFr := zK (ways_foot HC0.out HF0.out F1b.out)
    obtain ⟨kc, hkc0⟩ := has_tot tk (rd_T52 l0 (j : Int)).f0 (by have := af.out; have := HLM.out; omega)
    have hkc := zK hkc0; clear hkc0
    have hq0 : (wr.alloc (.cells #[.int .i64 (rd_T52 l0 (j : Int)).f0, .int .i64 (rd_T52 l0 (j : Int)).f1, .int .i64 (rd_T52 l0 (j : Int)).f2] 52)).drew.cell? ⟨wr.heap.size, 0, none⟩ = some (.int .i64 (rd_T52 l0 (j : Int)).f0) := ways_box _ 52 0
    have hq1 : (wr.alloc (.cells #[.int .i64 (rd_T52 l0 (j : Int)).f0, .int .i64 (rd_T52 l0 (j : Int)).f1, .int .i64 (rd_T52 l0 (j : Int)).f2] 52)).drew.cell? ⟨wr.heap.size, 1, none⟩ = some (.int .i64 (rd_T52 l0 (j : Int)).f1) := ways_box _ 52 1
    have hq2 : (wr.alloc (.cells #[.int .i64 (rd_T52 l0 (j : Int)).f0, .int .i64 (rd_T52 l0 (j : Int)).f1, .int .i64 (rd_T52 l0 (j : Int)).f2] 52)).drew.cell? ⟨wr.heap.size, 2, none⟩ = some (.int .i64 (rd_T52 l0 (j : Int)).f2) := ways_box _ 52 2
    have hlti : decide ((j : Int) < (l0.length : Int)) = true := decide_eq_true (by omega)
    have hj0 : (0 ≤ (j : Int)) = True := eq_true (by omega)
    have hj1 : ((j : Int) < (l0.length : Int)) = True := eq_true (by omega)
    have HJ := zK hlt; have HGG := zK hg; clear hj
    cases hfit0 : fitsB l1 (sg l1 tk) (rd_T52 l0 (j : Int)) with
    | false =>
     have hfit := zK hfit0; clear hfit0
     go_wp2
     refine start_ (n := 14) (S := fun w' => w'.cell? (aa.add (tk.length * 2)) = some (.int .i64 (sg l1 tk).f0) ∧ w'.cell? ⟨(aa.add (tk.length * 2)).block, (aa.add (tk.length * 2)).off + 1, none⟩ = some (.int .i64 (sg l1 tk).f1) ∧ w'.cell? ⟨wr.heap.size, 0, none⟩ = some (.int .i64 (rd_T52 l0 (j : Int)).f0) ∧ w'.cell? ⟨wr.heap.size, 1, none⟩ = some (.int .i64 (rd_T52 l0 (j : Int)).f1) ∧ w'.cell? ⟨wr.heap.size, 2, none⟩ = some (.int .i64 (rd_T52 l0 (j : Int)).f2)) (ds := []) #[ff, ff, ff, ff, ff, ff, ff, ff, ff, ff, ff, ff, ff, ff] (by kernel_rfl) rfl rfl ⟨ht0, ht1, hq0, hq1, hq2⟩ (fun hHeld => ?_)
     refine zu 0 (some 41) #[tt, ff, ff, ff, ff, ff, ff, ff, ff, ff, ff, ff, ff, ff] (by kernel_rfl) ?_
     refine zu 1 (some 42) #[tt, tt, ff, ff, ff, ff, ff, ff, ff, ff, ff, ff, ff, ff] (by kernel_rfl) ?_
     refine zu 2 (some 43) #[tt, tt, tt, ff, ff, ff, ff, ff, ff, ff, ff, ff, ff, ff] (by kernel_rfl) ?_
     refine zu 3 (some 44) #[tt, tt, tt, tt, ff, ff, ff, ff, ff, ff, ff, ff, ff, ff] (by kernel_rfl) ?_
     refine zt 4 (some 45) #[tt, tt, tt, tt, tt, ff, ff, ff, ff, ff, ff, ff, ff, ff] (by kernel_rfl) hHeld ?_
     refine zt 5 (some 46) #[tt, tt, tt, tt, tt, tt, ff, ff, ff, ff, ff, ff, ff, ff] (by kernel_rfl) hHeld ?_
     refine one_ (i := 6) (N := some 47) #[tt, tt, tt, tt, tt, tt, tt, ff, ff, ff, ff, ff, ff, ff] rfl rfl (by kernel_rfl) (by decide) (fun K hK => ?_)
     refine goes_ Try.func81 (by kernel_rfl) rfl #[.slice (some aa) l1.length c1, .agg #[.int .i64 (sg l1 tk).f0, .int .i64 (sg l1 tk).f1], .agg #[.int .i64 (rd_T52 l0 (j : Int)).f0, .int .i64 (rd_T52 l0 (j : Int)).f1, .int .i64 (rd_T52 l0 (j : Int)).f2]] (by rfl) rfl rfl (by simp only [List.map_toArray, List.map_cons, List.map_nil]; rfl) ?_
     with_reducible refine (impl_fits.calls (some aa) c1 l1 (sg l1 tk).f0 (sg l1 tk).f1 (rd_T52 l0 (j : Int)).f0 (rd_T52 l0 (j : Int)).f1 (rd_T52 l0 (j : Int)).f2 false _ (Kd.C_below HR1.out (below_drew (zB HBw _))) HC1.out ((fits_tot l1 (sg l1 tk) (rd_T52 l0 (j : Int))).trans (congrArg some hfit.out))).mono ?_
     rintro e w5 ⟨rfl, hb5⟩
     refine ⟨_, rfl, ?_⟩
     refine hK.out _ _ ⟨pw_cell_below hb5 hHeld.1, pw_cell_below hb5 hHeld.2.1, pw_cell_below hb5 hHeld.2.2.1, pw_cell_below hb5 hHeld.2.2.2.1, pw_cell_below hb5 hHeld.2.2.2.2⟩ (fun hHeld => ?_)
     clear hK K
     refine norm_ (a' := ?_) ?_ ?_
     rotate_left
     ·show Act.put _ (some 47) _ = _
      simp only [Act.put, zp, zq, zr, i64_w, i32_w]
      rfl
     refine zu 7 (some 48) #[tt, tt, tt, tt, tt, tt, tt, tt, ff, ff, ff, ff, ff, ff] (by kernel_rfl) ?_
     refine pure_ (i := 8) (N := some 49) (v := undef) (a' := ?_) #[tt, tt, tt, tt, tt, tt, tt, tt, tt, ff, ff, ff, ff, ff] rfl rfl (by kernel_rfl) (fun _ _ _ h => h) (Or.inr ⟨by rfl, rfl⟩) ?_ ?_
     rotate_left
     ·simp only [Act.put, zp, zq, zr, i64_w, i32_w]
      rfl
     refine pure_ (i := 9) (N := some 50) (v := undef) (a' := ?_) #[tt, tt, tt, tt, tt, tt, tt, tt, tt, tt, ff, ff, ff, ff] rfl rfl (by kernel_rfl) (fun _ _ _ h => h) (Or.inr ⟨by rfl, rfl⟩) ?_ ?_
     rotate_left
     ·simp only [Act.put, zp, zq, zr, i64_w, i32_w]
      rfl
     refine pure_ (i := 10) (N := some 51) (v := undef) (a' := ?_) #[tt, tt, tt, tt, tt, tt, tt, tt, tt, tt, tt, ff, ff, ff] rfl rfl (by kernel_rfl) (fun _ _ _ h => h) (Or.inr ⟨by rfl, rfl⟩) ?_ ?_
     rotate_left
     ·simp only [Act.put, zp, zq, zr, i64_w, i32_w]
      rfl
     refine pure_ (i := 11) (N := some 52) (v := undef) (a' := ?_) #[tt, tt, tt, tt, tt, tt, tt, tt, tt, tt, tt, tt, ff, ff] rfl rfl (by kernel_rfl) (fun _ _ _ h => h) (Or.inr ⟨by rfl, rfl⟩) ?_ ?_
     rotate_left
     ·simp only [Act.put, zp, zq, zr, i64_w, i32_w]
      rfl
     refine pure_ (i := 12) (N := some 53) (v := undef) (a' := ?_) #[tt, tt, tt, tt, tt, tt, tt, tt, tt, tt, tt, tt, tt, ff] rfl rfl (by kernel_rfl) (fun _ _ _ h => h) (Or.inr ⟨by rfl, rfl⟩) ?_ ?_
     rotate_left
     ·simp only [Act.put, zp, zq, zr, i64_w, i32_w]
      rfl
     refine zu 13 (some 54) #[tt, tt, tt, tt, tt, tt, tt, tt, tt, tt, tt, tt, tt, tt] (by kernel_rfl) ?_
     refine done_ (by kernel_rfl) ?_
     have hbr := below_then hbX hbX.size hb5
     have I5 := zK (hCB.stab I1.out hbr)
     have K5 := zK (K1.out.below hbr)
     clear hb5 hbr hbX ht0 ht1 hq0 hq1 hq2 ac ab ae
     go_wp2
     go_roundg (l0.length - (j + 1))
     case measure => have := HJ.out; omega
     case rel => exact ⟨j + 1, F1, HJ.out, by omega, by go_num, ⟨by rw [waysL_next l0 l1 m tk j HJ.out, show wayF l0 l1 m tk (rd_T52 l0 (j : Int)) = [] from by unfold wayF; rw [hfit.out]; rfl, List.append_nil]; exact I5.out⟩, K5, F1b⟩
    | true =>
     have hfit := zK hfit0; clear hfit0
     cases hhas0 : decide ((rd_T52 l0 (j : Int)).f0 ∈ tk) with
     | true =>
      have hhas := zK hhas0; clear hhas0
      go_wp2
      refine start_ (n := 14) (S := fun w' => w'.cell? (aa.add (tk.length * 2)) = some (.int .i64 (sg l1 tk).f0) ∧ w'.cell? ⟨(aa.add (tk.length * 2)).block, (aa.add (tk.length * 2)).off + 1, none⟩ = some (.int .i64 (sg l1 tk).f1) ∧ w'.cell? ⟨wr.heap.size, 0, none⟩ = some (.int .i64 (rd_T52 l0 (j : Int)).f0) ∧ w'.cell? ⟨wr.heap.size, 1, none⟩ = some (.int .i64 (rd_T52 l0 (j : Int)).f1) ∧ w'.cell? ⟨wr.heap.size, 2, none⟩ = some (.int .i64 (rd_T52 l0 (j : Int)).f2)) (ds := []) #[ff, ff, ff, ff, ff, ff, ff, ff, ff, ff, ff, ff, ff, ff] (by kernel_rfl) rfl rfl ⟨ht0, ht1, hq0, hq1, hq2⟩ (fun hHeld => ?_)
      refine zu 0 (some 41) #[tt, ff, ff, ff, ff, ff, ff, ff, ff, ff, ff, ff, ff, ff] (by kernel_rfl) ?_
      refine zu 1 (some 42) #[tt, tt, ff, ff, ff, ff, ff, ff, ff, ff, ff, ff, ff, ff] (by kernel_rfl) ?_
      refine zu 2 (some 43) #[tt, tt, tt, ff, ff, ff, ff, ff, ff, ff, ff, ff, ff, ff] (by kernel_rfl) ?_
      refine zu 3 (some 44) #[tt, tt, tt, tt, ff, ff, ff, ff, ff, ff, ff, ff, ff, ff] (by kernel_rfl) ?_
      refine zt 4 (some 45) #[tt, tt, tt, tt, tt, ff, ff, ff, ff, ff, ff, ff, ff, ff] (by kernel_rfl) hHeld ?_
      refine zt 5 (some 46) #[tt, tt, tt, tt, tt, tt, ff, ff, ff, ff, ff, ff, ff, ff] (by kernel_rfl) hHeld ?_
      refine one_ (i := 6) (N := some 47) #[tt, tt, tt, tt, tt, tt, tt, ff, ff, ff, ff, ff, ff, ff] rfl rfl (by kernel_rfl) (by decide) (fun K hK => ?_)
      refine goes_ Try.func81 (by kernel_rfl) rfl #[.slice (some aa) l1.length c1, .agg #[.int .i64 (sg l1 tk).f0, .int .i64 (sg l1 tk).f1], .agg #[.int .i64 (rd_T52 l0 (j : Int)).f0, .int .i64 (rd_T52 l0 (j : Int)).f1, .int .i64 (rd_T52 l0 (j : Int)).f2]] (by rfl) rfl rfl (by simp only [List.map_toArray, List.map_cons, List.map_nil]; rfl) ?_
      with_reducible refine (impl_fits.calls (some aa) c1 l1 (sg l1 tk).f0 (sg l1 tk).f1 (rd_T52 l0 (j : Int)).f0 (rd_T52 l0 (j : Int)).f1 (rd_T52 l0 (j : Int)).f2 true _ (Kd.C_below HR1.out (below_drew (zB HBw _))) HC1.out ((fits_tot l1 (sg l1 tk) (rd_T52 l0 (j : Int))).trans (congrArg some hfit.out))).mono ?_
      rintro e w5 ⟨rfl, hb5⟩
      refine ⟨_, rfl, ?_⟩
      refine hK.out _ _ ⟨pw_cell_below hb5 hHeld.1, pw_cell_below hb5 hHeld.2.1, pw_cell_below hb5 hHeld.2.2.1, pw_cell_below hb5 hHeld.2.2.2.1, pw_cell_below hb5 hHeld.2.2.2.2⟩ (fun hHeld => ?_)
      clear hK K
      refine norm_ (a' := ?_) ?_ ?_
      rotate_left
      ·show Act.put _ (some 47) _ = _
       simp only [Act.put, zp, zq, zr, i64_w, i32_w]
       rfl
      refine zu 7 (some 48) #[tt, tt, tt, tt, tt, tt, tt, tt, ff, ff, ff, ff, ff, ff] (by kernel_rfl) ?_
      refine zu 8 (some 49) #[tt, tt, tt, tt, tt, tt, tt, tt, tt, ff, ff, ff, ff, ff] (by kernel_rfl) ?_
      refine zu 9 (some 50) #[tt, tt, tt, tt, tt, tt, tt, tt, tt, tt, ff, ff, ff, ff] (by kernel_rfl) ?_
      refine zt 10 (some 51) #[tt, tt, tt, tt, tt, tt, tt, tt, tt, tt, tt, ff, ff, ff] (by kernel_rfl) hHeld ?_
      refine one_ (i := 11) (N := some 52) #[tt, tt, tt, tt, tt, tt, tt, tt, tt, tt, tt, tt, ff, ff] rfl rfl (by kernel_rfl) (by decide) (fun K hK => ?_)
      refine goes_ Try.func74 (by kernel_rfl) rfl #[.slice A tk.length c, .int .i64 (rd_T52 l0 (j : Int)).f0] (by rfl) rfl rfl (by simp only [List.map_toArray, List.map_cons, List.map_nil]; rfl) ?_
      with_reducible refine (slices_Contains_int_int.calls kc A c tk (rd_T52 l0 (j : Int)).f0 true w5 (Kd.C_below HCr.out (below_then hbX hbX.size hb5)) HCc.out (hkc.out.trans (congrArg some hhas.out))).mono ?_
      rintro e w6 ⟨rfl, hd6⟩
      refine ⟨_, rfl, ?_⟩
      refine hK.out _ _ ⟨pw_cell_below hd6.below hHeld.1, pw_cell_below hd6.below hHeld.2.1, pw_cell_below hd6.below hHeld.2.2.1, pw_cell_below hd6.below hHeld.2.2.2.1, pw_cell_below hd6.below hHeld.2.2.2.2⟩ (fun hHeld => ?_)
      clear hK K
      refine norm_ (a' := ?_) ?_ ?_
      rotate_left
      ·show Act.put _ (some 52) _ = _
       simp only [Act.put, zp, zq, zr, i64_w, i32_w]
       rfl
      refine zu 12 (some 53) #[tt, tt, tt, tt, tt, tt, tt, tt, tt, tt, tt, tt, tt, ff] (by kernel_rfl) ?_
      refine zu 13 (some 54) #[tt, tt, tt, tt, tt, tt, tt, tt, tt, tt, tt, tt, tt, tt] (by kernel_rfl) ?_
      refine done_ (by kernel_rfl) ?_
      have hbr := below_then (below_then hbX hbX.size hb5) (below_then hbX hbX.size hb5).size hd6.below
      have I5 := zK (hCB.stab I1.out hbr)
      have K5 := zK (K1.out.below hbr)
      clear hb5 hd6 hbr hbX ht0 ht1 hq0 hq1 hq2 ac ab ae
      go_wp2
      go_roundg (l0.length - (j + 1))
      case measure => have := HJ.out; omega
      case rel => exact ⟨j + 1, F1, HJ.out, by omega, by go_num, ⟨by rw [waysL_next l0 l1 m tk j HJ.out, show wayF l0 l1 m tk (rd_T52 l0 (j : Int)) = [] from by unfold wayF; rw [hhas.out, Bool.not_true, Bool.and_false]; rfl, List.append_nil]; exact I5.out⟩, K5, F1b⟩
     | false =>
      have hhas := zK hhas0; clear hhas0
      go_wp2
      refine start_ (n := 14) (S := fun w' => w'.cell? (aa.add (tk.length * 2)) = some (.int .i64 (sg l1 tk).f0) ∧ w'.cell? ⟨(aa.add (tk.length * 2)).block, (aa.add (tk.length * 2)).off + 1, none⟩ = some (.int .i64 (sg l1 tk).f1) ∧ w'.cell? ⟨wr.heap.size, 0, none⟩ = some (.int .i64 (rd_T52 l0 (j : Int)).f0) ∧ w'.cell? ⟨wr.heap.size, 1, none⟩ = some (.int .i64 (rd_T52 l0 (j : Int)).f1) ∧ w'.cell? ⟨wr.heap.size, 2, none⟩ = some (.int .i64 (rd_T52 l0 (j : Int)).f2)) (ds := []) #[ff, ff, ff, ff, ff, ff, ff, ff, ff, ff, ff, ff, ff, ff] (by kernel_rfl) rfl rfl ⟨ht0, ht1, hq0, hq1, hq2⟩ (fun hHeld => ?_)
      refine zu 0 (some 41) #[tt, ff, ff, ff, ff, ff, ff, ff, ff, ff, ff, ff, ff, ff] (by kernel_rfl) ?_
      refine zu 1 (some 42) #[tt, tt, ff, ff, ff, ff, ff, ff, ff, ff, ff, ff, ff, ff] (by kernel_rfl) ?_
      refine zu 2 (some 43) #[tt, tt, tt, ff, ff, ff, ff, ff, ff, ff, ff, ff, ff, ff] (by kernel_rfl) ?_
      refine zu 3 (some 44) #[tt, tt, tt, tt, ff, ff, ff, ff, ff, ff, ff, ff, ff, ff] (by kernel_rfl) ?_
      refine zt 4 (some 45) #[tt, tt, tt, tt, tt, ff, ff, ff, ff, ff, ff, ff, ff, ff] (by kernel_rfl) hHeld ?_
      refine zt 5 (some 46) #[tt, tt, tt, tt, tt, tt, ff, ff, ff, ff, ff, ff, ff, ff] (by kernel_rfl) hHeld ?_
      refine one_ (i := 6) (N := some 47) #[tt, tt, tt, tt, tt, tt, tt, ff, ff, ff, ff, ff, ff, ff] rfl rfl (by kernel_rfl) (by decide) (fun K hK => ?_)
      refine goes_ Try.func81 (by kernel_rfl) rfl #[.slice (some aa) l1.length c1, .agg #[.int .i64 (sg l1 tk).f0, .int .i64 (sg l1 tk).f1], .agg #[.int .i64 (rd_T52 l0 (j : Int)).f0, .int .i64 (rd_T52 l0 (j : Int)).f1, .int .i64 (rd_T52 l0 (j : Int)).f2]] (by rfl) rfl rfl (by simp only [List.map_toArray, List.map_cons, List.map_nil]; rfl) ?_
      with_reducible refine (impl_fits.calls (some aa) c1 l1 (sg l1 tk).f0 (sg l1 tk).f1 (rd_T52 l0 (j : Int)).f0 (rd_T52 l0 (j : Int)).f1 (rd_T52 l0 (j : Int)).f2 true _ (Kd.C_below HR1.out (below_drew (zB HBw _))) HC1.out ((fits_tot l1 (sg l1 tk) (rd_T52 l0 (j : Int))).trans (congrArg some hfit.out))).mono ?_
      rintro e w5 ⟨rfl, hb5⟩
      refine ⟨_, rfl, ?_⟩
      refine hK.out _ _ ⟨pw_cell_below hb5 hHeld.1, pw_cell_below hb5 hHeld.2.1, pw_cell_below hb5 hHeld.2.2.1, pw_cell_below hb5 hHeld.2.2.2.1, pw_cell_below hb5 hHeld.2.2.2.2⟩ (fun hHeld => ?_)
      clear hK K
      refine norm_ (a' := ?_) ?_ ?_
      rotate_left
      ·show Act.put _ (some 47) _ = _
       simp only [Act.put, zp, zq, zr, i64_w, i32_w]
       rfl
      refine zu 7 (some 48) #[tt, tt, tt, tt, tt, tt, tt, tt, ff, ff, ff, ff, ff, ff] (by kernel_rfl) ?_
      refine zu 8 (some 49) #[tt, tt, tt, tt, tt, tt, tt, tt, tt, ff, ff, ff, ff, ff] (by kernel_rfl) ?_
      refine zu 9 (some 50) #[tt, tt, tt, tt, tt, tt, tt, tt, tt, tt, ff, ff, ff, ff] (by kernel_rfl) ?_
      refine zt 10 (some 51) #[tt, tt, tt, tt, tt, tt, tt, tt, tt, tt, tt, ff, ff, ff] (by kernel_rfl) hHeld ?_
      refine one_ (i := 11) (N := some 52) #[tt, tt, tt, tt, tt, tt, tt, tt, tt, tt, tt, tt, ff, ff] rfl rfl (by kernel_rfl) (by decide) (fun K hK => ?_)
      refine goes_ Try.func74 (by kernel_rfl) rfl #[.slice A tk.length c, .int .i64 (rd_T52 l0 (j : Int)).f0] (by rfl) rfl rfl (by simp only [List.map_toArray, List.map_cons, List.map_nil]; rfl) ?_
      with_reducible refine (slices_Contains_int_int.calls kc A c tk (rd_T52 l0 (j : Int)).f0 false w5 (Kd.C_below HCr.out (below_then hbX hbX.size hb5)) HCc.out (hkc.out.trans (congrArg some hhas.out))).mono ?_
      rintro e w6 ⟨rfl, hd6⟩
      refine ⟨_, rfl, ?_⟩
      refine hK.out _ _ ⟨pw_cell_below hd6.below hHeld.1, pw_cell_below hd6.below hHeld.2.1, pw_cell_below hd6.below hHeld.2.2.1, pw_cell_below hd6.below hHeld.2.2.2.1, pw_cell_below hd6.below hHeld.2.2.2.2⟩ (fun hHeld => ?_)
      clear hK K
      refine norm_ (a' := ?_) ?_ ?_
      rotate_left
      ·show Act.put _ (some 52) _ = _
       simp only [Act.put, zp, zq, zr, i64_w, i32_w]
       rfl
      refine zu 12 (some 53) #[tt, tt, tt, tt, tt, tt, tt, tt, tt, tt, tt, tt, tt, ff] (by kernel_rfl) ?_
      refine zu 13 (some 54) #[tt, tt, tt, tt, tt, tt, tt, tt, tt, tt, tt, tt, tt, tt] (by kernel_rfl) ?_
      refine done_ (by kernel_rfl) ?_
      have hbr := below_then (below_then hbX hbX.size hb5) (below_then hbX hbX.size hb5).size hd6.below
      have HI6 := zK (hCB.stab I1.out hbr)
      have K6 := zK (K1.out.below hbr)
      have HC6 := zK (Kd.C_below HCr.out hbr)
      have hbx := below_then hb5 hb5.size hd6.below
      have hv0 := pw_cell_below (below_drew hbx) hq0
      have hv1 := pw_cell_below (below_drew hbx) hq1
      have hv2 := pw_cell_below (below_drew hbx) hq2
      clear hb5 hd6 hbr hbX hbx ht0 ht1 hq0 hq1 hq2 ac ab ae
      go_wp2
      refine start_ (n := 12) (S := fun w' => w'.cell? ⟨wr.heap.size, 0, none⟩ = some (.int .i64 (rd_T52 l0 (j : Int)).f0) ∧ w'.cell? ⟨wr.heap.size, 1, none⟩ = some (.int .i64 (rd_T52 l0 (j : Int)).f1) ∧ w'.cell? ⟨wr.heap.size, 2, none⟩ = some (.int .i64 (rd_T52 l0 (j : Int)).f2)) (ds := [11]) #[ff, ff, ff, ff, ff, ff, ff, ff, ff, ff, ff, ff] (by kernel_rfl) rfl rfl ⟨hv0, hv1, hv2⟩ (fun hHeld => ?_)
      refine zu 0 (some 55) #[tt, ff, ff, ff, ff, ff, ff, ff, ff, ff, ff, ff] (by kernel_rfl) ?_
      refine zu 1 (some 56) #[tt, tt, ff, ff, ff, ff, ff, ff, ff, ff, ff, ff] (by kernel_rfl) ?_
      refine zu 2 (some 57) #[tt, tt, tt, ff, ff, ff, ff, ff, ff, ff, ff, ff] (by kernel_rfl) ?_
      refine zu 3 (some 58) #[tt, tt, tt, tt, ff, ff, ff, ff, ff, ff, ff, ff] (by kernel_rfl) ?_
      refine zu 4 (some 59) #[tt, tt, tt, tt, tt, ff, ff, ff, ff, ff, ff, ff] (by kernel_rfl) ?_
      refine zu 5 (some 60) #[tt, tt, tt, tt, tt, tt, ff, ff, ff, ff, ff, ff] (by kernel_rfl) ?_
      refine zu 6 (some 61) #[tt, tt, tt, tt, tt, tt, tt, ff, ff, ff, ff, ff] (by kernel_rfl) ?_
      refine zu 10 (some 65) #[tt, tt, tt, tt, tt, tt, tt, ff, ff, ff, tt, ff] (by kernel_rfl) ?_
      refine zt 7 (some 62) #[tt, tt, tt, tt, tt, tt, tt, tt, ff, ff, tt, ff] (by kernel_rfl) hHeld ?_
      refine one_ (i := 8) (N := some 63) #[tt, tt, tt, tt, tt, tt, tt, tt, tt, ff, tt, ff] rfl rfl (by kernel_rfl) (by decide) (fun K hK => ?_)
      refine value_ (w1 := ?_) (v := ?_) (by rfl) rfl ?_ ?_
      rotate_left 2
      ·go_simp
       constructor
       ·rfl
       ·rfl
      refine hK.out _ _ ⟨pw_cell_below (zB (Below.refl _ _) _) hHeld.1, pw_cell_below (zB (Below.refl _ _) _) hHeld.2.1, pw_cell_below (zB (Below.refl _ _) _) hHeld.2.2⟩ (fun hHeld => ?_)
      clear hK K
      refine norm_ (a' := ?_) ?_ ?_
      rotate_left
      ·show Act.put _ (some 63) _ = _
       simp only [Act.put, zp, zq, zr, i64_w, i32_w]
       rfl
      refine one_ (i := 9) (N := some 64) #[tt, tt, tt, tt, tt, tt, tt, tt, tt, tt, tt, ff] rfl rfl (by kernel_rfl) (by decide) (fun K hK => ?_)
      refine step_append_grows rfl (.tmp 60) (.tmp 63) 29 rfl 3 i0 (.int .i64 0) 1 8 Try.underlying29 hi0 hz0 hz1 hz2 rfl (by decide) A tk.length tk.length (tk.map (Value.int .i64)) rfl ?n1 ?n2 ?n3 ⟨_, 0, none⟩ 1 1 [.int .i64 ((rd_T52 l0 (j : Int)).f0)] rfl rfl ?n4 ?n5 ?n6 ?n7 ?n8 ?_
      (case n1 => exact fun hA => ⟨HA0.out hA, HA0.out hA⟩)
      (case n2 => simp)
      (case n3 => exact fun b hb j u hj => pw_cell_below (w := w6.drew) (zB (Below.refl _ _) _) (ways_cells HC6.out hb hj))
      (case n4 => exact fun j u hj => ways_one hj)
      (case n5 => intro u hu; rw [List.mem_singleton.1 hu]; rfl)
      (case n6 => omega)
      (case n7 => have := af.out; have := HLM.out; unfold maxLen; omega)
      (case n8 => have := af.out; have := HLM.out; omega)
      intro v1 w1 ho hg1
      obtain ⟨g1, k1, rfl, hg1a, hg1b, hk1, ag⟩ := ways_new ho
      have hb1 : Below w6.heap.size w6 w1 := below_then (zB (w := w6) (below_drew (Below.refl _ _)) _) (zB (w := w6) (below_drew (Below.refl _ _)) _).size (below_none hg1)
      have hI1 := hCB.stab HI6.out hb1
      have hih := IH.out (tk ++ [(rd_T52 l0 (j : Int)).f0]) (some ⟨g1, 0, none⟩) k1 _ _ w1 (fun x hx => HT.out x (List.mem_append_right _ (List.mem_flatMap.2 ⟨(rd_T52 l0 (j : Int)), ways_mem HJ.out, by rw [if_pos (by rw [hfit.out, hhas.out]; rfl)]; exact hx⟩))) (by rw [List.length_append]; have := HLM.out; simp; omega) hI1 hk1 ag (ways_fresh (hCB.old HI6.out) (Nat.le_trans (zB (w := w6) (below_drew (Below.refl _ _)) _).size hg1a))
      refine hK.out _ _ ⟨pw_cell_below (below_none hg1) hHeld.1, pw_cell_below (below_none hg1) hHeld.2.1, pw_cell_below (below_none hg1) hHeld.2.2⟩ (fun hHeld => ?_)
      clear hK K
      refine norm_ (a' := ?_) ?_ ?_
      rotate_left
      ·show Act.put _ (some 64) _ = _
       simp only [Act.put, zp, zq, zr, i64_w, i32_w]
       rfl
      refine last_ (i := 11) (N := some 66) #[tt, tt, tt, tt, tt, tt, tt, tt, tt, tt, tt, tt] rfl rfl (by kernel_rfl) (by decide) (fun K hK => ?_)
      refine goes_ Try.func82 (by kernel_rfl) rfl #[.slice (some ad0) l0.length c0, .slice (some aa) l1.length c1, .slice (some ⟨g1, 0, none⟩) (tk ++ [(rd_T52 l0 (j : Int)).f0]).length k1, .func (.func g) #[] lb] (by rfl) rfl rfl (by simp only [List.map_toArray, List.map_cons, List.map_nil]; rfl) ?_
      with_reducible refine (hih).mono ?_
      rintro e w3 ⟨rfl, F3, hI3, hK3, hF3⟩
      refine ⟨_, rfl, ?_⟩
      refine hK.out _ _ ?_
      clear hK K
      refine norm_ (a' := ?_) ?_ ?_
      rotate_left
      ·show Act.put _ (some 66) _ = _
       simp only [Act.put, zp, zq, zr, i64_w, i32_w]
       rfl
      refine done_ (by kernel_rfl) ?_
      have I5 := zK (show Inv ((waysL l0 l1 m (tk ++ [(sg l1 tk).f1]) ++ (l0.take (j + 1)).flatMap (wayF l0 l1 m tk)).foldl step s) F3 w3 from by
       rw [waysL_next l0 l1 m tk j HJ.out, show wayF l0 l1 m tk (rd_T52 l0 (j : Int)) = waysL l0 l1 m (tk ++ [(rd_T52 l0 (j : Int)).f0]) from by unfold wayF; rw [hfit.out, hhas.out]; rfl, ← List.append_assoc, List.foldl_append]
       exact hI3)
      have K5 := zK ((K6.out.below hb1).then_ hK3 F1b.out)
      have F5 := zK (show ∀ k, F3 k → F k ∨ W.heap.size ≤ k from fun k hk => (hF3 k hk).elim (F1b.out k) (fun h => .inr (Nat.le_trans (K6.out.below hb1).1 h)))
      clear hI3 hK3 hF3 hI1 ag hb1 hih hv0 hv1 hv2
      go_wp2
      go_roundg (l0.length - (j + 1))
      case measure => have := HJ.out; omega
      case rel => exact ⟨j + 1, F3, HJ.out, by omega, by go_num, I5, K5, F5⟩
   ·have hlti : decide ((j : Int) < (l0.length : Int)) = false := decide_eq_false (by omega)
    go_wp2
    go_end0
    obtain rfl : j = l0.length := by omega
    exact ⟨rfl, F1, by have h := I1.out; rw [List.take_length] at h; exact h, K1.out, F1b.out⟩
def impl_countTaken.l0 : Nat → List Int → Int → List (S89) → Int → Int → Option (Int)
 | 0, _, _, _, _, _ => none
 | k + 1, x1, x5, x8, x9, x10 => if x10 < x9 then (if 0 ≤ x10 then (if x10 < (x8.length : Int) then (if ((rd_T89 x8 x10).f1) = 0 then (if x10 < (x1.length : Int) then (if (rd x1 x10) = 0 then (impl_countTaken.l0 k x1 x5 x8 x9 (wrap64 (x10 + 1))) else (impl_countTaken.l0 k x1 (wrap64 (x5 + 1)) x8 x9 (wrap64 (x10 + 1)))) else (none)) else (impl_countTaken.l0 k x1 x5 x8 x9 (wrap64 (x10 + 1)))) else (none)) else (none)) else (some x5)
def impl_countTaken.f (k : Nat) (l0 : List (S89)) (l1 : List Int) : Option (Int) := impl_countTaken.l0 k l1 0 l0 (l0.length : Int) 0
set_option maxHeartbeats 8000000 in
set_option maxRecDepth 100000 in
theorem impl_countTaken.calls (k : Nat) (A0 : Option Addr) (c0 : Nat) (l0 : List (S89)) (A1 : Option Addr) (c1 : Nat) (l1 : List Int) (r : Int) (w : World) (hr0 : Kd.C k89 w A0 l0.length l0) (hc0 : l0.length ≤ c0) (hr1 : Kd.C (Kd.int .i64) w A1 l1.length l1) (hc1 : l1.length ≤ c1) (h : impl_countTaken.f k l0 l1 = some r) :
  Calls Try.prog 84 #[.slice A0 l0.length c0, .slice A1 l1.length c1] w fun e w' => e = .returned (.int .i64 r) ∧ Below w.heap.size w w' := by
 have hu89 := Try.underlying89; have HR0 := zK hr0; have HC0 := zK hc0; clear hr0 hc0; have HR1 := zK hr1; have HC1 := zK hc1; clear hr1 hc1
 have HB := zK (Below.refl w.heap.size w)
 have H : (impl_countTaken.l0 k l1 0 l0 (l0.length : Int) 0) = some r := h
 clear h; have H' := zK H; clear H
 go_enter Try.func84, Try.ntmps84
 go_wp2
 go_loopg [5, 10] k (fun kq v5 v10 w' => ∃ (ap : Int) (aa : Int), v5 = .int .i64 ap ∧ v10 = .int .i64 aa ∧ Aside0 (impl_countTaken.l0 kq l1 ap l0 (l0.length : Int) aa = some r) ∧ Aside0 (kq ≤ k) ∧ Aside0 (Below w.heap.size w w'))
 case atStart => exact ⟨(0), (0), (by first | rfl | (simp; done) | (simp [*]; done)), (by first | rfl | (simp; done) | (simp [*]; done)), H', ⟨Nat.le_refl _⟩, ⟨zb HB⟩⟩
 case round =>
  clear H'
  try clear c1
  try clear p2
  obtain ⟨ap, aa, rfl, rfl, HA, az, HB⟩ := hrel
  cases gk with
  | zero => exact absurd HA.out (by simp [impl_countTaken.l0])
  | succ k1 =>
   have H := HA.out; clear HA
   simp only [impl_countTaken.l0] at H
   by_cases c3 : aa < (l0.length : Int)
   ·rw [if_pos c3] at H
    have c3b0 : decide (aa < (l0.length : Int)) = true := decide_eq_true c3
    clear c3
    by_cases c4 : 0 ≤ aa
    ·rw [if_pos c4] at H
     have c4b0 : decide (0 ≤ aa) = true := decide_eq_true c4
     clear c4
     by_cases c5 : aa < (l0.length : Int)
     ·rw [if_pos c5] at H
      have c5b0 : decide (aa < (l0.length : Int)) = true := decide_eq_true c5
      clear c5
      by_cases c6 : ((rd_T89 l0 aa).f1) = 0
      ·rw [if_pos c6] at H
       have c6b0 : (((rd_T89 l0 aa).f1) == 0) = true := beq_iff_eq.mpr c6
       have c6b1 : (((rd_T89 l0 aa).f1) != 0) = false := bne_eq_false_iff_eq.mpr c6
       clear c6
       by_cases c7 : aa < (l1.length : Int)
       ·rw [if_pos c7] at H
        have c7b0 : decide (aa < (l1.length : Int)) = true := decide_eq_true c7
        clear c7
        by_cases c8 : (rd l1 aa) = 0
        ·rw [if_pos c8] at H
         have c8b0 : ((rd l1 aa) == 0) = true := beq_iff_eq.mpr c8
         have c8b1 : ((rd l1 aa) != 0) = false := bne_eq_false_iff_eq.mpr c8
         clear c8; have H' := zK H; clear H
         have ai : 0 ≤ (aa : Int) := of_decide_eq_true (by first | (with_reducible assumption) | assumption)
         have aj : aa < (l0.length : Int) := of_decide_eq_true (by first | (with_reducible assumption) | assumption)
         obtain ⟨ar, aq, ad, ae⟩ := at_T89 HR0.out aa ai aj
         cases aq
         replace ad := (HB.out.cell (World.block_lt_of_cell? w _ ad)).trans ad
         replace ae := (HB.out.cell (World.block_lt_of_cell? w _ ae)).trans ae
         replace ai := eq_true ai; replace aj := eq_true aj
         go_wp2_with (first | ((with_reducible refine gate_dst (N := 7) rfl ?_); refine box_event ?hg (N := 7) ?hd (cs := #[.int .i64 0, .int .i64 0]) (t := 89) ?hr ?_; (case hd => rfl); (case hg => rfl); (case hr => first | (go_simp; done) | (go_simp; rfl)); intro ac hg w9 hbox hb; have au := zK (below_step (zb HB) hb); have av := zK (hbox); have aw := zK ((by rw [hg]; exact (below_size (zb HB)) : w.heap.size ≤ ac)); have ax := zK ((by rw [hg]; exact (below_size (zb HB)) : w.heap.size ≤ ac)); clear HB; have HB := au; have ah := av; have ak := aw; have al := ax; clear au av aw ax; clear hb hbox hg; have hcz10_0 : w9.cell? ⟨ac, 0, none⟩ = some (.int .i64 0) := (blk_cell ah.out 0).trans rfl; have hcz10_1 : w9.cell? ⟨ac, 1, none⟩ = some (.int .i64 0) := (blk_cell ah.out 1).trans rfl; have hfz10_0 := blk_frozen ah.out 0; have hfz10_1 := blk_frozen ah.out 1; have an : 0 ≤ (aa : Int) := of_decide_eq_true (by first | (with_reducible assumption) | assumption); have ao : aa < (l1.length : Int) := of_decide_eq_true (by first | (with_reducible assumption) | assumption); obtain ⟨am, ay, ab⟩ := Kd.at_int HR1.out aa an ao; cases ay; have af : am.block ≠ ac := Nat.ne_of_lt (Nat.lt_of_lt_of_le (by have := World.block_lt_of_cell? _ _ ab; first | rwa [add_block] at this | exact this) ak.out); have ag : am.block ≠ ac := Nat.ne_of_lt (Nat.lt_of_lt_of_le (by have := World.block_lt_of_cell? _ _ ab; first | rwa [add_block] at this | exact this) ak.out); replace ab := (HB.out.cell (World.block_lt_of_cell? w _ ab)).trans ab; replace ab := (cell_far (p := ⟨ac, 0, none⟩) (by first | (rw [add_block]; exact af) | (show (Addr.add _ _).block ≠ _; rw [add_block]; exact af) | exact af) (.int .i64 ((rd_T89 l0 aa).f0))).trans ab; replace ab := (cell_far (p := ⟨ac, 1, none⟩) (by first | (rw [add_block]; exact ag) | (show (Addr.add _ _).block ≠ _; rw [add_block]; exact ag) | exact ag) (.int .i64 ((rd_T89 l0 aa).f1))).trans ab; clear af; clear ag; replace an := eq_true an; replace ao := eq_true ao))
         go_roundg k1
         case measure => have := az.out; omega
         case rel => exact ⟨(ap), (wrap64 (aa + 1)), (by first | rfl | (simp; done) | (simp [*]; done)), (by first | rfl | (simp; done) | (simp [*]; done)), H', ⟨by have := az.out; omega⟩, ⟨zb HB⟩⟩
        ·rw [if_neg c8] at H
         have c8b0 : ((rd l1 aa) == 0) = false := beq_eq_false_iff_ne.mpr c8
         have c8b1 : ((rd l1 aa) != 0) = true := bne_iff_ne.mpr c8
         have H' := zK H; clear H
         have ai : 0 ≤ (aa : Int) := of_decide_eq_true (by first | (with_reducible assumption) | assumption)
         have aj : aa < (l0.length : Int) := of_decide_eq_true (by first | (with_reducible assumption) | assumption)
         obtain ⟨ar, aq, ad, ae⟩ := at_T89 HR0.out aa ai aj
         cases aq
         replace ad := (HB.out.cell (World.block_lt_of_cell? w _ ad)).trans ad
         replace ae := (HB.out.cell (World.block_lt_of_cell? w _ ae)).trans ae
         replace ai := eq_true ai; replace aj := eq_true aj
         go_wp2_with (first | ((with_reducible refine gate_dst (N := 7) rfl ?_); refine box_event ?hg (N := 7) ?hd (cs := #[.int .i64 0, .int .i64 0]) (t := 89) ?hr ?_; (case hd => rfl); (case hg => rfl); (case hr => first | (go_simp; done) | (go_simp; rfl)); intro ac hg w11 hbox hb; have au := zK (below_step (zb HB) hb); have av := zK (hbox); have aw := zK ((by rw [hg]; exact (below_size (zb HB)) : w.heap.size ≤ ac)); have ax := zK ((by rw [hg]; exact (below_size (zb HB)) : w.heap.size ≤ ac)); clear HB; have HB := au; have ah := av; have ak := aw; have al := ax; clear au av aw ax; clear hb hbox hg; have hcz12_0 : w11.cell? ⟨ac, 0, none⟩ = some (.int .i64 0) := (blk_cell ah.out 0).trans rfl; have hcz12_1 : w11.cell? ⟨ac, 1, none⟩ = some (.int .i64 0) := (blk_cell ah.out 1).trans rfl; have hfz12_0 := blk_frozen ah.out 0; have hfz12_1 := blk_frozen ah.out 1; have an : 0 ≤ (aa : Int) := of_decide_eq_true (by first | (with_reducible assumption) | assumption); have ao : aa < (l1.length : Int) := of_decide_eq_true (by first | (with_reducible assumption) | assumption); obtain ⟨am, ay, ab⟩ := Kd.at_int HR1.out aa an ao; cases ay; have af : am.block ≠ ac := Nat.ne_of_lt (Nat.lt_of_lt_of_le (by have := World.block_lt_of_cell? _ _ ab; first | rwa [add_block] at this | exact this) ak.out); have ag : am.block ≠ ac := Nat.ne_of_lt (Nat.lt_of_lt_of_le (by have := World.block_lt_of_cell? _ _ ab; first | rwa [add_block] at this | exact this) ak.out); replace ab := (HB.out.cell (World.block_lt_of_cell? w _ ab)).trans ab; replace ab := (cell_far (p := ⟨ac, 0, none⟩) (by first | (rw [add_block]; exact af) | (show (Addr.add _ _).block ≠ _; rw [add_block]; exact af) | exact af) (.int .i64 ((rd_T89 l0 aa).f0))).trans ab; replace ab := (cell_far (p := ⟨ac, 1, none⟩) (by first | (rw [add_block]; exact ag) | (show (Addr.add _ _).block ≠ _; rw [add_block]; exact ag) | exact ag) (.int .i64 ((rd_T89 l0 aa).f1))).trans ab; clear af; clear ag; replace an := eq_true an; replace ao := eq_true ao))
         go_roundg k1
         case measure => have := az.out; omega
         case rel => exact ⟨(wrap64 (ap + 1)), (wrap64 (aa + 1)), (by first | rfl | (simp; done) | (simp [*]; done)), (by first | rfl | (simp; done) | (simp [*]; done)), H', ⟨by have := az.out; omega⟩, ⟨zb HB⟩⟩
       ·rw [if_neg c7] at H
        exact absurd H (by simp)
      ·rw [if_neg c6] at H
       have c6b0 : (((rd_T89 l0 aa).f1) == 0) = false := beq_eq_false_iff_ne.mpr c6
       have c6b1 : (((rd_T89 l0 aa).f1) != 0) = true := bne_iff_ne.mpr c6
       have H' := zK H; clear H
       have ai : 0 ≤ (aa : Int) := of_decide_eq_true (by first | (with_reducible assumption) | assumption)
       have aj : aa < (l0.length : Int) := of_decide_eq_true (by first | (with_reducible assumption) | assumption)
       obtain ⟨ar, aq, ad, ae⟩ := at_T89 HR0.out aa ai aj
       cases aq
       replace ad := (HB.out.cell (World.block_lt_of_cell? w _ ad)).trans ad
       replace ae := (HB.out.cell (World.block_lt_of_cell? w _ ae)).trans ae
       replace ai := eq_true ai; replace aj := eq_true aj
       go_wp2_with (first | ((with_reducible refine gate_dst (N := 7) rfl ?_); refine box_event ?hg (N := 7) ?hd (cs := #[.int .i64 0, .int .i64 0]) (t := 89) ?hr ?_; (case hd => rfl); (case hg => rfl); (case hr => first | (go_simp; done) | (go_simp; rfl)); intro ac hg w13 hbox hb; have au := zK (below_step (zb HB) hb); have av := zK (hbox); have aw := zK ((by rw [hg]; exact (below_size (zb HB)) : w.heap.size ≤ ac)); have ax := zK ((by rw [hg]; exact (below_size (zb HB)) : w.heap.size ≤ ac)); clear HB; have HB := au; have ah := av; have ak := aw; have al := ax; clear au av aw ax; clear hb hbox hg; have hcz14_0 : w13.cell? ⟨ac, 0, none⟩ = some (.int .i64 0) := (blk_cell ah.out 0).trans rfl; have hcz14_1 : w13.cell? ⟨ac, 1, none⟩ = some (.int .i64 0) := (blk_cell ah.out 1).trans rfl; have hfz14_0 := blk_frozen ah.out 0; have hfz14_1 := blk_frozen ah.out 1))
       go_roundg k1
       case measure => have := az.out; omega
       case rel => exact ⟨(ap), (wrap64 (aa + 1)), (by first | rfl | (simp; done) | (simp [*]; done)), (by first | rfl | (simp; done) | (simp [*]; done)), H', ⟨by have := az.out; omega⟩, ⟨zb HB⟩⟩
     ·rw [if_neg c5] at H
      exact absurd H (by simp)
    ·rw [if_neg c4] at H
     exact absurd H (by simp)
   ·rw [if_neg c3] at H
    have c3b0 : decide (aa < (l0.length : Int)) = false := decide_eq_false c3
    clear c3; obtain rfl := Option.some.inj H
    go_wp2
    go_ret
    exact ⟨by first | rfl | (simp [errW_none, errW_some] <;> rfl) | (simp [*, errW_none, errW_some] <;> rfl), by repeat (first | (with_reducible first | exact HB.out | apply zB | apply zC | apply zE) | exact HB.out)⟩
def cntR (l1 : List S89) (tk : List Int) (i d : Nat) : Int := (((List.range' i d).filter fun (j : Nat) => decide ((rd_T89 l1 (j : Int)).f1 = 0) && !decide (rd tk (j : Int) = 0)).length : Int)
def cntB (l1 : List S89) (tk : List Int) : Int := cntR l1 tk 0 l1.length
theorem cnt_l (l1 : List S89) (tk : List Int) (hn : l1.length ≤ 1048576) (ht : tk.length = l1.length) : ∀ (d i k : Nat) (n : Int), i + d = l1.length → d < k → 0 ≤ n → n ≤ i → impl_countTaken.l0 k tk n l1 (l1.length : Int) (i : Int) = some (n + cntR l1 tk i d) := by
 intro d
 induction d with
 | zero =>
  intro i k n hi hk h0 h1
  obtain ⟨k, rfl⟩ : ∃ m, k = m + 1 := ⟨k - 1, by omega⟩
  simp only [impl_countTaken.l0]
  rw [if_neg (by omega)]
  simp [cntR]
 | succ d ih =>
  intro i k n hi hk h0 h1
  obtain ⟨k, rfl⟩ : ∃ m, k = m + 1 := ⟨k - 1, by omega⟩
  have hw : wrap64 ((i : Int) + 1) = ((i + 1 : Nat) : Int) := by unfold wrap64; omega
  have hw2 : wrap64 (n + 1) = n + 1 := by unfold wrap64; omega
  have e : cntR l1 tk i (d + 1) = (if (decide ((rd_T89 l1 (i : Int)).f1 = 0) && !decide (rd tk (i : Int) = 0)) = true then 1 else 0) + cntR l1 tk (i + 1) d := by
   unfold cntR
   rw [List.range'_succ, List.filter_cons]
   split
   ·rw [List.length_cons]; omega
   ·omega
  simp only [impl_countTaken.l0]
  rw [if_pos (by omega), if_pos (by omega), if_pos (by omega), hw, hw2, e]
  by_cases h2 : (rd_T89 l1 (i : Int)).f1 = 0
  ·rw [if_pos h2, if_pos (by omega)]
   by_cases h3 : rd tk (i : Int) = 0
   ·rw [if_pos h3, ih (i + 1) k n (by omega) (by omega) h0 (by omega), if_neg (by simp [h3])]
    congr 1
    omega
   ·rw [if_neg h3, ih (i + 1) k (n + 1) (by omega) (by omega) (by omega) (by omega), if_pos (by simp [h2, h3])]
    congr 1
    omega
  ·rw [if_neg h2, ih (i + 1) k n (by omega) (by omega) h0 (by omega), if_neg (by simp [h2])]
   congr 1
   omega
theorem cnt_tot (l1 : List S89) (tk : List Int) (hn : l1.length ≤ 1048576) (ht : tk.length = l1.length) : impl_countTaken.f (l1.length + 1) l1 tk = some (cntB l1 tk) := by
 unfold impl_countTaken.f cntB
 have h := cnt_l l1 tk hn ht l1.length 0 (l1.length + 1) 0 (by omega) (by omega) (by omega) (by omega)
 rw [Int.zero_add] at h
 exact h
structure InvM (w0 : World) (A1 : Option Addr) (c1 : Nat) (l1 : List S89) (gO gS : Nat) (s : Int) (F : Nat → Prop) (W : World) : Prop where
 base : Below w0.heap.size w0 W
 out : W.heap[gO]? = some (.cells #[.int .i64 s] 3 (0, 0))
 sg : W.heap[gS]? = some (.cells #[.slice A1 l1.length c1] 43 (0, 0))
 ge : w0.heap.size ≤ gO
 F : ∀ k, F k ↔ k = gO
set_option maxHeartbeats 8000000 in
set_option maxRecDepth 100000 in
theorem most_cb (w0 : World) (A1 : Option Addr) (c1 : Nat) (l1 : List S89) (gO gS : Nat) (T : List (List Int)) (hr1 : Kd.C k89 w0 A1 l1.length l1) (hc1 : l1.length ≤ c1) (hn : l1.length ≤ 6) :
  CB 83 #[.pointer (some ⟨gO, 0, none⟩), .pointer (some ⟨gS, 0, none⟩)] l1.length T w0 (InvM w0 A1 c1 l1 gO gS) (fun s tk => mx s (cntB l1 tk)) where
 base := fun h => h.base
 old := fun h k hk => by rw [(h.F k).1 hk]; exact blk_lt h.out
 stab := fun h hb => ⟨below_then h.base h.base.size hb, blk_below h.out hb, blk_below h.sg hb, h.ge, h.F⟩
 call := by
  intro s F W A c tk _ htl hI hc hC hF
  have hcnt := zK (cnt_tot l1 tk (by omega) htl)
  have HTL := zK htl; clear htl; have HI := zK hI; have HC := zK hC; have HCc := zK hc; have HR1 := zK hr1; have HC1 := zK hc1
  have q0 : W.drew.cell? ⟨gO, 0, none⟩ = some (.int .i64 s) := (blk_cell hI.out 0).trans rfl
  have q1 : W.drew.cell? ⟨gS, 0, none⟩ = some (.slice A1 l1.length c1) := (blk_cell hI.sg 0).trans rfl
  clear hI hC hF hr1 hc1 hc
  show Calls Try.prog 83 #[.slice A tk.length c, .pointer (some ⟨gO, 0, none⟩), .pointer (some ⟨gS, 0, none⟩)] W _
  go_enter Try.func83, Try.ntmps83
  go_wp2
  refine start_ (n := 6) (S := fun w' => w'.cell? ⟨gO, 0, none⟩ = some (.int .i64 s) ∧ w'.cell? ⟨gS, 0, none⟩ = some (.slice A1 l1.length c1)) (ds := [5]) #[ff, ff, ff, ff, ff, ff] (by kernel_rfl) rfl rfl ⟨q0, q1⟩ (fun hHeld => ?_)
  refine zu 2 (some 6) #[ff, ff, tt, ff, ff, ff] (by kernel_rfl) ?_
  refine zt 0 (some 4) #[tt, ff, tt, ff, ff, ff] (by kernel_rfl) hHeld ?_
  refine zt 1 (some 5) #[tt, tt, tt, ff, ff, ff] (by kernel_rfl) hHeld ?_
  refine one_ (i := 3) (N := some 7) #[tt, tt, tt, tt, ff, ff] rfl rfl (by kernel_rfl) (by decide) (fun K hK => ?_)
  refine goes_ Try.func84 (by kernel_rfl) rfl #[.slice A1 l1.length c1, .slice A tk.length c] (by rfl) rfl rfl (by simp only [List.map_toArray, List.map_cons, List.map_nil]; rfl) ?_
  with_reducible refine (impl_countTaken.calls (l1.length + 1) A1 c1 l1 A c tk (cntB l1 tk) W.drew (Kd.C_below HR1.out (below_drew HI.out.base)) HC1.out (Kd.C_drew HC.out) HCc.out hcnt.out).mono ?_
  rintro e w3 ⟨rfl, hb3⟩
  refine ⟨_, rfl, ?_⟩
  have hfz := blk_frozen (blk_below (w := W.drew) (g := gO) HI.out.out hb3) 0
  have hcz := (blk_cell (blk_below (w := W.drew) (g := gO) HI.out.out hb3) 0).trans rfl
  refine hK.out _ _ ⟨pw_cell_below hb3 hHeld.1, pw_cell_below hb3 hHeld.2⟩ (fun hHeld => ?_)
  clear hK K
  refine norm_ (a' := ?_) ?_ ?_
  rotate_left
  ·show Act.put _ (some 7) _ = _
   simp only [Act.put, zp, zq, zr, i64_w, i32_w]
   rfl
  refine zu 4 (some 8) #[tt, tt, tt, tt, tt, ff] (by kernel_rfl) ?_
  refine last_ (i := 5) (N := none) #[tt, tt, tt, tt, tt, tt] rfl rfl (by kernel_rfl) (by decide) (fun K hK => ?_)
  refine skip_ (w1 := ?_) (by rfl) rfl ?_ ?_
  rotate_left
  ·go_simp
   rfl
  refine hK.out _ _ ?_
  clear hK K
  refine done_ (by kernel_rfl) ?_
  go_wp2
  all_goals
   go_end0
   have hB3 : Below w0.heap.size w0 w3 := below_then (below_drew HI.out.base) HI.out.base.size hb3
   have hO3 := blk_below (w := W.drew) (g := gO) HI.out.out hb3
   have hS3 := blk_below (w := W.drew) (g := gS) HI.out.sg hb3
   have hne : gS ≠ gO := fun e => by
    rw [e, hO3] at hS3
    injection hS3 with hS3
    injection hS3 with _ hS3
    cases hS3
   refine ⟨rfl, F, ⟨hB3.setCell HI.out.ge _, (blk_set hO3 0 _).trans (by unfold mx; first | (rw [if_pos (by omega)]; rfl) | (rw [if_neg (by omega)]; rfl)), blk_far hS3 hne _, HI.out.ge, HI.out.F⟩, ?_, fun k hk => .inl hk⟩
   exact (Kept.of_below (w := W.drew) hb3 F).setCell (p := ⟨gO, 0, none⟩) (.inl ((HI.out.F gO).2 rfl)) _
def impl_MostAssigned.f (k : Nat) (l0 : List (S52)) (l1 : List (S89)) : Option (Int) := (impl_areSights.f k l0 l1).bind fun t => (if t = true then (if l1.length ≤ 6 then (some ((waysL l0 l1 l1.length []).foldl (fun s tk => mx s (cntB l1 tk)) 0)) else (none)) else (some (-1)))
set_option maxHeartbeats 8000000 in
set_option maxRecDepth 100000 in
theorem impl_MostAssigned.calls (k : Nat) (A0 : Option Addr) (c0 : Nat) (l0 : List (S52)) (A1 : Option Addr) (c1 : Nat) (l1 : List (S89)) (r : Int) (w : World) (hr0 : Kd.C k52 w A0 l0.length l0) (hc0 : l0.length ≤ c0) (hr1 : Kd.C k89 w A1 l1.length l1) (hc1 : l1.length ≤ c1) (h : impl_MostAssigned.f k l0 l1 = some r) :
  Calls Try.prog 41 #[.slice A0 l0.length c0, .slice A1 l1.length c1] w fun e w' => e = .returned (.int .i64 r) ∧ Below w.heap.size w w' := by
 have hmf : ∀ (fn : Fn) (first cap : Array Value) (w : World), (Instr.makeFunc fn first cap).run Try.prog w = .ok (.func fn first cap) w := fun _ _ _ _ => rfl
 have H := Option.bind_eq_some_iff.mp h
 obtain ⟨t, ha, H⟩ := H
 have hb0 : Below w.heap.size w (w.alloc (.cells #[.slice A1 l1.length c1] 43)) := zB (Below.refl _ _) _
 have hbk : (w.alloc (.cells #[.slice A1 l1.length c1] 43)).heap[w.heap.size]? = some (.cells #[.slice A1 l1.length c1] 43 (0, 0)) := by show (w.heap.push _)[w.heap.size]? = _; exact Array.getElem?_push_size
 have hare := impl_areSights.calls k A0 c0 l0 A1 c1 l1 t _ (Kd.C_below hr0 hb0) hc0 (Kd.C_below hr1 hb0) hc1 ha
 have HB0 := zK hb0; have HBK := zK hbk; have HR0 := zK hr0; have HR1 := zK hr1; have HC0 := zK hc0; have HC1 := zK hc1; clear hb0 hbk hr0 hr1 hc0 hc1 h ha
 cases t with
 | false =>
  obtain rfl : (-1 : Int) = r := by rw [if_neg (by simp)] at H; exact Option.some.inj H
  clear H
  go_enter Try.func41, Try.ntmps41
  go_wp2_with (go_at_call 73; refine hare.mono ?_; rintro e w1 ⟨rfl, hb1⟩; have HB1 := zK hb1; clear hb1)
  go_ret
  exact ⟨rfl, below_then HB0.out HB0.out.size HB1.out⟩
 | true =>
  rw [if_pos rfl] at H
  by_cases hn : l1.length ≤ 6
  ·rw [if_pos hn] at H
   have HN := zK hn
   have HR := zK (Option.some.inj H)
   clear H hn
   go_enter Try.func41, Try.ntmps41
   go_wp2_with (first
    | (
      go_at_call 73; refine hare.mono ?_; rintro e w1 ⟨rfl, hb1⟩
      have hbs := below_then HB0.out HB0.out.size hb1; have hS1 := blk_below HBK.out hb1
      have hX : InvM w A1 c1 l1 w1.heap.size w.heap.size 0 (fun k => k = w1.heap.size) (w1.alloc (.cells #[.int .i64 0] 3)) := ⟨zB hbs _, by show (w1.heap.push _)[w1.heap.size]? = _; exact Array.getElem?_push_size, blk_below hS1 (zB (Below.refl _ _) _), hbs.size, fun _ => Iff.rfl⟩
      have hways := ways_any 83 #[.pointer (some ⟨w1.heap.size, 0, none⟩), .pointer (some ⟨w.heap.size, 0, none⟩)] (enters_of Try.func83 (by kernel_rfl) rfl) w _ _ A0 c0 l0 A1 c1 l1 HR0.out HC0.out HR1.out HC1.out HN.out _ (most_cb w A1 c1 l1 w1.heap.size w.heap.size (waysL l0 l1 l1.length []) HR1.out HC1.out HN.out) l1.length [] none 0 0 _ _ (fun _ hx => hx) (Nat.zero_add _) hX (Nat.le_refl _) (Kd.C_nil _ _) (fun ad e => by cases e)
      have hS := (blk_cell hS1 0).trans rfl
      have HBS := zK hbs
      have hways2 : Calls Try.prog 82 #[.slice A0 l0.length c0, .slice A1 l1.length c1, .slice none 0 0, .func (.func 83) #[] #[.pointer (some ⟨w1.heap.size, 0, none⟩), .pointer (some ⟨w.heap.size, 0, none⟩)]] (w1.alloc (.cells #[.int .i64 0] 3)) _ := hways
      have hS2 : (w1.alloc (.cells #[.int .i64 0] 3)).cell? ⟨w.heap.size, 0, none⟩ = some (.slice A1 l1.length c1) := (blk_cell hX.sg 0).trans rfl
      clear hb1 hbs hS1 hX hways hS hare)
    | (
      go_at_call 82; refine hways2.mono ?_; rintro e w3 ⟨rfl, F3, hI3, _, _⟩
      have hO3 := (blk_cell hI3.out 0).trans rfl
      have HI3 := zK hI3
      clear hI3 hways2 hS2))
   go_ret
   exact ⟨congrArg (fun z => Ending.returned (.int .i64 z)) HR.out, HI3.out.base⟩
  ·rw [if_neg hn] at H
   cases H
end Go.Proofs.Ytdmbfmfdijgdkaa.Px
