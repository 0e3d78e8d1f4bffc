import Derived.Test.YtdmbfmfdijgdkaaZvPx0
import Derived.Test.YtdmbfmfdijgdkaaZvPx7
import Derived.Test.YtdmbfmfdijgdkaaZvPx8
namespace Go.Proofs.Ytdmbfmfdijgdkaa.Px
open Go.RowKit Go.Proofs.YtdmbfmfdijgdkaaW.PrintWords Go.Proofs.YtdmbfmfdijgdkaaW.PrintLast Go.Proofs.YtdmbfmfdijgdkaaW.PrintMore
attribute [local go_sem] max2_int min2_int max_two min_two max_three min_three max_four min_four   
set_option linter.unusedVariables false
set_option linter.unusedSimpArgs false
mutual
def spec_l03Most.j0 : Nat → List (S52) → List (S89) → Int → List Int → Int → Int → Int → Bool → Option (Int)
 | 0, _, _, _, _, _, _, _, _ => none
 | k + 1, x0, x1, x2, x3, x4, x5, x13, x27 => if x27 = true then ((spec_l03Most.f k x0 x1 (wrap64 (x2 + 1)) x3 x4 x5).bind fun t737 => (spec_l03Most.j1 k x0 x1 x2 x3 x4 x5 t737)) else (spec_l03Most.j1 k x0 x1 x2 x3 x4 x5 x13)
def spec_l03Most.j1 : Nat → List (S52) → List (S89) → Int → List Int → Int → Int → Int → Option (Int)
 | 0, _, _, _, _, _, _, _ => none
 | k + 1, x0, x1, x2, x3, x4, x5, x13 => spec_l03Most.l0 k x0 x1 x2 x3 x4 x5 x13 0
def spec_l03Most.l0 : Nat → List (S52) → List (S89) → Int → List Int → Int → Int → Int → Int → Option (Int)
 | 0, _, _, _, _, _, _, _, _ => none
 | k + 1, x0, x1, x2, x3, x4, x5, x13, x14 => if x14 < (x0.length : Int) then ((spec_l03Fits.f k x0 x1 x2 x14).bind fun t738 => (if t738 = true then (if 0 ≤ x14 then ((spec_l03Has.f k x3 ((rd_T52 x0 x14).f0)).bind fun t740 => (if t740 = true then (spec_l03Most.j3 k x0 x1 x2 x3 x4 x5 x13 x14 true) else (if x2 = x4 then (spec_l03Most.j3 k x0 x1 x2 x3 x4 x5 x13 x14 (x5 != ((rd_T52 x0 x14).f0))) else (spec_l03Most.j3 k x0 x1 x2 x3 x4 x5 x13 x14 false)))) else (none)) else (spec_l03Most.j3 k x0 x1 x2 x3 x4 x5 x13 x14 true))) else (some x13)
def spec_l03Most.j3 : Nat → List (S52) → List (S89) → Int → List Int → Int → Int → Int → Int → Bool → Option (Int)
 | 0, _, _, _, _, _, _, _, _, _ => none
 | k + 1, x0, x1, x2, x3, x4, x5, x13, x14, x70 => if x70 = true then (spec_l03Most.l0 k x0 x1 x2 x3 x4 x5 x13 (wrap64 (x14 + 1))) else ((some (([] : List Int) : List Int)).bind fun y742 => (if y742.length + x3.length < 17592186044416 then ((some (y742 ++ x3 : List Int)).bind fun y745 => (if 0 ≤ x14 then (if x14 < (x0.length : Int) then ((some (([(rd_T52 x0 x14).f0] : List Int) : List Int)).bind fun y749 => (if y745.length + y749.length < 17592186044416 then ((spec_l03Most.f k x0 x1 (wrap64 (x2 + 1)) (y745 ++ y749) x4 x5).bind fun t755 => (if t755 ≥ 0 then (if (wrap64 (t755 + 1)) > x13 then (spec_l03Most.l0 k x0 x1 x2 x3 x4 x5 (wrap64 (t755 + 1)) (wrap64 (x14 + 1))) else (spec_l03Most.l0 k x0 x1 x2 x3 x4 x5 x13 (wrap64 (x14 + 1)))) else (spec_l03Most.l0 k x0 x1 x2 x3 x4 x5 x13 (wrap64 (x14 + 1))))) else (none))) else (none)) else (none))) else (none)))
def spec_l03Most.f : Nat → List (S52) → List (S89) → Int → List Int → Int → Int → Option (Int)
 | 0, _, _, _, _, _, _ => none
 | k + 1, l0, l1, a2, l3, a4, a5 => if a2 ≥ (l1.length : Int) then (some 0) else (if a2 = a4 then (spec_l03Most.j0 k l0 l1 a2 l3 a4 a5 (-1) (a5 == 0)) else (spec_l03Most.j0 k l0 l1 a2 l3 a4 a5 (-1) true))
end
def spec_l03Most.T10 : Bool × List (List Nat × List Nat) := (true, [([], []), ([], []), ([0, 1], [0, 1]), ([], []), ([], []), ([3, 4], [3, 4]), ([5], [5]), ([6], [6]), ([7], [7]), ([2, 8, 2], [2, 8]), ([9, 9, 0, 1, 2, 3, 4, 5, 6, 7, 8, 9], [9])])
def spec_l03Most.B10 : List Nat := [0, 0, 3, 0, 0, 24, 56, 120, 248, 511, 1023]
theorem spec_l03Most.tab10 : rtab .any (opsOf Try.f86 10) = spec_l03Most.T10 := by kernel_rfl
theorem spec_l03Most.bits10 : waitsOk spec_l03Most.T10.2 spec_l03Most.B10 = true := by kernel_rfl
set_option maxHeartbeats 8000000 in
set_option maxRecDepth 100000 in
theorem spec_l03Most.calls (k : Nat) : ∀ (A0 : Option Addr) (c0 : Nat) (l0 : List (S52)) (A1 : Option Addr) (c1 : Nat) (l1 : List (S89)) (a2 : Int) (A3 : Option Addr) (c3 : Nat) (l3 : List Int) (a4 : Int) (a5 : Int) (r : Int) (w : World) (hr0 : Kd.C k52 w A0 l0.length l0) (hc0 : l0.length ≤ c0) (hr1 : Kd.C k89 w A1 l1.length l1) (hc1 : l1.length ≤ c1) (hr3 : Kd.C (Kd.int .i64) w A3 l3.length l3) (hc3 : l3.length ≤ c3) (h : spec_l03Most.f k l0 l1 a2 l3 a4 a5 = some r),
  Calls Try.prog 86 #[.slice A0 l0.length c0, .slice A1 l1.length c1, .int .i64 a2, .slice A3 l3.length c3, .int .i64 a4, .int .i64 a5] w fun e w' => e = .returned (.int .i64 r) ∧ Below w.heap.size w w' := by
 induction k using Nat.strongRecOn with
 | _ k ih =>
 intro A0 c0 l0 A1 c1 l1 a2 A3 c3 l3 a4 a5 r w hr0 hc0 hr1 hc1 hr3 hc3 h
 cases k with
 | zero => exact absurd h (by simp [spec_l03Most.f])
 | succ k =>
 simp only [spec_l03Most.f] at h
 have aY := zK hr0; have bj := zK hc0; clear hr0 hc0; have bk := zK hr1; have bl := zK hc1; clear hr1 hc1; have a7 := zK hr3; have HC3 := zK hc3; clear hr3 hc3
 have HB := zK (Below.refl w.heap.size w)
 have H : (if a2 ≥ (l1.length : Int) then (some 0) else (if a2 = a4 then (spec_l03Most.j0 k l0 l1 a2 l3 a4 a5 (-1) (a5 == 0)) else (spec_l03Most.j0 k l0 l1 a2 l3 a4 a5 (-1) true))) = some r := h
 clear h
 by_cases c7 : a2 ≥ (l1.length : Int)
 ·rw [if_pos c7] at H
  have a9 : decide ((l1.length : Int) ≤ a2) = true := decide_eq_true c7
  clear c7; obtain rfl := Option.some.inj H
  go_enter Try.func86, Try.ntmps86
  go_wp2
  go_ret
  exact ⟨by first | rfl | (simp [errW_none, errW_some] <;> rfl) | (simp [*, errW_none, errW_some] <;> rfl), by repeat (first | (with_reducible first | exact HB.out | apply zB | apply zC | apply zE) | exact HB.out)⟩
 ·rw [if_neg c7] at H
  have a9 : decide ((l1.length : Int) ≤ a2) = false := decide_eq_false c7
  clear c7; have HC8 := zK H; clear H
  go_enter Try.func86, Try.ntmps86
  go_upto_region 4 with (fail)
  go_cut [27] (fun v27 wc => ∃ (kq : Nat) (a3 : Bool), v27 = .bool a3 ∧ Aside0 (spec_l03Most.j0 kq l0 l1 a2 l3 a4 a5 (-1) a3 = some r) ∧ Aside0 (kq ≤ k) ∧ Aside0 (Below w.heap.size w wc))
  case first =>
   have H := HC8.out; clear HC8
   by_cases c9 : a2 = a4
   ·rw [if_pos c9] at H
    have aP : (a2 == a4) = true := beq_iff_eq.mpr c9
    have ba : (a2 != a4) = false := bne_eq_false_iff_eq.mpr c9
    clear c9
    (first | rw [aP] | (simp only [i64_w, i32_w]; rw [aP]) | skip)
    have H' := zK H; clear H
    go_wp2
    go_meet
    case rel => exact ⟨_, ((a5 == 0)), (by first | rfl | (simp; done) | (simp [*]; done)), H', ⟨by first | omega | exact Nat.le_refl _⟩, ⟨zb HB⟩⟩
   ·rw [if_neg c9] at H
    have aP : (a2 == a4) = false := beq_eq_false_iff_ne.mpr c9
    have ba : (a2 != a4) = true := bne_iff_ne.mpr c9
    (first | rw [aP] | (simp only [i64_w, i32_w]; rw [aP]) | skip)
    have H' := zK H; clear H
    go_wp2
    go_meet
    case rel => exact ⟨_, (true), (by first | rfl | (simp; done) | (simp [*]; done)), H', ⟨by first | omega | exact Nat.le_refl _⟩, ⟨zb HB⟩⟩
  case rest =>
   clear HC8
   try clear c1
   try clear p2
   try clear c3
   try clear c7
   try clear a9
   try clear c8
   try clear c9
   try clear aP
   try clear ba
   obtain ⟨kq, a3, rfl, HA, aT, HB⟩ := hcut
   cases kq with
   | zero => exact absurd HA.out (by simp [spec_l03Most.j0])
   | succ kj7 =>
    have H := HA.out; clear HA
    simp only [spec_l03Most.j0] at H
    have bq := zK H; clear H
    go_upto_if 27 with (fail)
    go_cut [13] (fun v13 wc => ∃ (kq : Nat) (a6 : Int), v13 = .int .i64 a6 ∧ Aside0 (spec_l03Most.j1 kq l0 l1 a2 l3 a4 a5 a6 = some r) ∧ Aside0 (kq ≤ kj7) ∧ Aside0 (Below w.heap.size w wc))
    case first =>
     have H := bq.out; clear bq
     by_cases br : a3 = true
     ·subst br
      have H1 : ((spec_l03Most.f kj7 l0 l1 (wrap64 (a2 + 1)) l3 a4 a5).bind fun bb => (spec_l03Most.j1 kj7 l0 l1 a2 l3 a4 a5 bb)) = some r := by rw [if_pos rfl] at H; exact H
      clear H; have H := H1; clear H1; replace H := Option.bind_eq_some_iff.mp H
      obtain ⟨bb, bA, H⟩ := H
      replace H : (spec_l03Most.j1 kj7 l0 l1 a2 l3 a4 a5 bb) = some r := H
      have A12 := zK bA; clear bA; have H' := zK H; clear H
      go_wp2_with (first | ((with_reducible refine gate_callee (f := 86) rfl ?_); refine goesL_ (some 35) rfl rfl Try.func86 (by kernel_rfl) rfl #[.slice A0 l0.length c0, .slice A1 l1.length c1, .int .i64 (wrap64 (a2 + 1)), .slice A3 l3.length c3, .int .i64 a4, .int .i64 a5] rfl (by (try simp only [List.map_toArray, List.map_cons, List.map_nil]); first | done | rfl | (simp only [List.length_drop, List.length_take]; rfl)) ?_; (with_reducible refine (ih kj7 (by have := aT.out; omega) _ _ l0 _ _ l1 (wrap64 (a2 + 1)) _ _ l3 a4 a5 bb _ ?side1 ?side2 ?side3 ?side4 ?side5 ?side6 A12.out).mono ?_); (case side1 => repeat (first | exact (Kd.C_below aY.out HB.out) | (with_reducible refine Kd.C_alloc ?_ _) | (with_reducible refine Kd.C_drewN ?_ _) | (with_reducible refine Kd.C_drew ?_))); (case side2 => exact bj.out); (case side3 => repeat (first | exact (Kd.C_below bk.out HB.out) | (with_reducible refine Kd.C_alloc ?_ _) | (with_reducible refine Kd.C_drewN ?_ _) | (with_reducible refine Kd.C_drew ?_))); (case side4 => exact bl.out); (case side5 => repeat (first | exact (Kd.C_below a7.out HB.out) | (with_reducible refine Kd.C_alloc ?_ _) | (with_reducible refine Kd.C_drewN ?_ _) | (with_reducible refine Kd.C_drew ?_))); (case side6 => exact HC3.out); rintro e w13 ⟨rfl, hb⟩; refine ⟨_, rfl, ?_⟩; have ai := zK (below_step (zb HB) hb); clear HB; have HB := ai; clear ai; (try clear hb)))
      go_meet
      case rel => exact ⟨_, (bb), (by first | rfl | (simp; done) | (simp [*]; done)), H', ⟨by have := aT.out; first | omega | exact Nat.le_refl _⟩, ⟨zb HB⟩⟩
     ·replace br := Bool.eq_false_iff.mpr br
      subst br
      have H1 : (spec_l03Most.j1 kj7 l0 l1 a2 l3 a4 a5 (-1)) = some r := by rw [if_neg (show ¬ (false = true) by decide)] at H; exact H
      clear H; have H := H1; clear H1; have H' := zK H; clear H
      go_wp2
      go_meet
      case rel => exact ⟨_, ((-1)), (by first | rfl | (simp; done) | (simp [*]; done)), H', ⟨by have := aT.out; first | omega | exact Nat.le_refl _⟩, ⟨zb HB⟩⟩
    case rest =>
     clear bq
     try clear c1
     try clear p2
     try clear c3
     try clear p6
     try clear c7
     try clear a9
     try clear c8
     try clear c9
     try clear aP
     try clear ba
     try clear br
     try clear p2
     obtain ⟨kq, a6, rfl, HA, aZ, HB⟩ := hcut
     cases kq with
     | zero => exact absurd HA.out (by simp [spec_l03Most.j1])
     | succ kj9 =>
      have H := HA.out; clear HA
      simp only [spec_l03Most.j1] at H
      have H' := zK H; clear H
      go_wp2
      go_loopg [13, 14] kj9 (fun kq v13 v14 w' => ∃ (ag : Int) (aa : Int), v13 = .int .i64 ag ∧ v14 = .int .i64 aa ∧ Aside0 (spec_l03Most.l0 kq l0 l1 a2 l3 a4 a5 ag aa = some r) ∧ Aside0 (kq ≤ kj9) ∧ Aside0 (Below w.heap.size w w'))
      case atStart => exact ⟨(a6), (0), (by first | rfl | (simp; done) | (simp [*]; done)), (by first | rfl | (simp; done) | (simp [*]; done)), H', ⟨Nat.le_refl _⟩, ⟨zb HB⟩⟩
      case round =>
       clear H'
       try clear c1
       try clear p2
       try clear c3
       try clear p6
       try clear c7
       try clear a9
       try clear c8
       try clear c9
       try clear aP
       try clear ba
       try clear br
       try clear p2
       try clear p6
       obtain ⟨ag, aa, rfl, rfl, HA, a0, HB⟩ := hrel
       cases gk with
       | zero => exact absurd HA.out (by simp [spec_l03Most.l0])
       | succ k3 =>
        have H := HA.out; clear HA
        simp only [spec_l03Most.l0] at H
        by_cases bs : aa < (l0.length : Int)
        ·rw [if_pos bs] at H
         have bm : decide (aa < (l0.length : Int)) = true := decide_eq_true bs
         clear bs; have bt := zK H; clear H
         go_upto_region 9 with (fail)
         go_cut [70] (fun v70 wc => ∃ (kq : Nat) (aQ : Bool), v70 = .bool aQ ∧ Aside0 (spec_l03Most.j3 kq l0 l1 a2 l3 a4 a5 ag aa aQ = some r) ∧ Aside0 (kq ≤ k3) ∧ Aside0 (Below w.heap.size w wc))
         case first =>
          have H := bt.out; clear bt; replace H := Option.bind_eq_some_iff.mp H
          obtain ⟨bB, bC, H⟩ := H
          replace H : (if bB = true then (if 0 ≤ aa then ((spec_l03Has.f k3 l3 ((rd_T52 l0 aa).f0)).bind fun a8 => (if a8 = true then (spec_l03Most.j3 k3 l0 l1 a2 l3 a4 a5 ag aa true) else (if a2 = a4 then (spec_l03Most.j3 k3 l0 l1 a2 l3 a4 a5 ag aa (a5 != ((rd_T52 l0 aa).f0))) else (spec_l03Most.j3 k3 l0 l1 a2 l3 a4 a5 ag aa false)))) else (none)) else (spec_l03Most.j3 k3 l0 l1 a2 l3 a4 a5 ag aa true)) = some r := H
          have A16 := zK bC; clear bC
          by_cases bD : bB = true
          ·subst bD
           have H1 : (if 0 ≤ aa then ((spec_l03Has.f k3 l3 ((rd_T52 l0 aa).f0)).bind fun a8 => (if a8 = true then (spec_l03Most.j3 k3 l0 l1 a2 l3 a4 a5 ag aa true) else (if a2 = a4 then (spec_l03Most.j3 k3 l0 l1 a2 l3 a4 a5 ag aa (a5 != ((rd_T52 l0 aa).f0))) else (spec_l03Most.j3 k3 l0 l1 a2 l3 a4 a5 ag aa false)))) else (none)) = some r := by rw [if_pos rfl] at H; exact H
           clear H; have H := H1; clear H1
           by_cases bE : 0 ≤ aa
           ·rw [if_pos bE] at H
            have bc : decide (0 ≤ aa) = true := decide_eq_true bE
            clear bE
            (first | rw [bc] | (simp only [i64_w, i32_w]; rw [bc]) | skip)
            replace H := Option.bind_eq_some_iff.mp H
            obtain ⟨a8, bF, H⟩ := H
            replace H : (if a8 = true then (spec_l03Most.j3 k3 l0 l1 a2 l3 a4 a5 ag aa true) else (if a2 = a4 then (spec_l03Most.j3 k3 l0 l1 a2 l3 a4 a5 ag aa (a5 != ((rd_T52 l0 aa).f0))) else (spec_l03Most.j3 k3 l0 l1 a2 l3 a4 a5 ag aa false))) = some r := H
            have A19 := zK bF; clear bF
            by_cases bG : a8 = true
            ·subst bG
             have H1 : (spec_l03Most.j3 k3 l0 l1 a2 l3 a4 a5 ag aa true) = some r := by rw [if_pos rfl] at H; exact H
             clear H; have H := H1; clear H1; have H' := zK H; clear H
             go_wp2_with (first | ((with_reducible refine gate_callee (f := 99) rfl ?_); refine goesL_ (some 46) rfl rfl Try.func99 (by kernel_rfl) rfl #[.slice A0 l0.length c0, .slice A1 l1.length c1, .int .i64 a2, .int .i64 aa] rfl (by (try simp only [List.map_toArray, List.map_cons, List.map_nil]); first | done | rfl | (simp only [List.length_drop, List.length_take]; rfl)) ?_; (with_reducible refine (spec_l03Fits.calls k3 _ _ l0 _ _ l1 a2 aa true _ ?side1 ?side2 ?side3 ?side4 A16.out).mono ?_); (case side1 => repeat (first | exact (Kd.C_below aY.out HB.out) | (with_reducible refine Kd.C_alloc ?_ _) | (with_reducible refine Kd.C_drewN ?_ _) | (with_reducible refine Kd.C_drew ?_))); (case side2 => exact bj.out); (case side3 => repeat (first | exact (Kd.C_below bk.out HB.out) | (with_reducible refine Kd.C_alloc ?_ _) | (with_reducible refine Kd.C_drewN ?_ _) | (with_reducible refine Kd.C_drew ?_))); (case side4 => exact bl.out); rintro e w' ⟨rfl, ⟨nd, rfl⟩⟩; refine ⟨_, rfl, ?_⟩; have aE : 0 ≤ (aa : Int) := of_decide_eq_true (by first | (with_reducible assumption) | assumption); have aG : aa < (l0.length : Int) := of_decide_eq_true (by first | (with_reducible assumption) | assumption); obtain ⟨bd, be, ar, au, av⟩ := at_T52 aY.out aa aE aG; cases be; replace ar := (HB.out.cell (World.block_lt_of_cell? w _ ar)).trans ar; replace au := (HB.out.cell (World.block_lt_of_cell? w _ au)).trans au; replace av := (HB.out.cell (World.block_lt_of_cell? w _ av)).trans av; replace aE := eq_true aE; replace aG := eq_true aG) | (go_at_call 76; (with_reducible refine (spec_l03Has.calls k3 _ _ l3 ((rd_T52 l0 aa).f0) true _ ?side1 ?side2 A19.out).mono ?_); (case side1 => repeat (first | exact (Kd.C_below a7.out (zb HB)) | (with_reducible refine Kd.C_alloc ?_ _) | (with_reducible refine Kd.C_drewN ?_ _) | (with_reducible refine Kd.C_drew ?_))); (case side2 => exact HC3.out); rintro e w' ⟨rfl, ⟨nd, rfl⟩⟩))
             go_meet
             case rel => exact ⟨_, (true), (by first | rfl | (simp; done) | (simp [*]; done)), H', ⟨by have := aT.out; have := aZ.out; have := a0.out; first | omega | exact Nat.le_refl _⟩, ⟨zb HB⟩⟩
            ·replace bG := Bool.eq_false_iff.mpr bG
             subst bG
             have H1 : (if a2 = a4 then (spec_l03Most.j3 k3 l0 l1 a2 l3 a4 a5 ag aa (a5 != ((rd_T52 l0 aa).f0))) else (spec_l03Most.j3 k3 l0 l1 a2 l3 a4 a5 ag aa false)) = some r := by rw [if_neg (show ¬ (false = true) by decide)] at H; exact H
             clear H; have H := H1; clear H1
             by_cases bn : a2 = a4
             ·rw [if_pos bn] at H
              have bo : (a2 == a4) = true := beq_iff_eq.mpr bn
              have bp : (a2 != a4) = false := bne_eq_false_iff_eq.mpr bn
              clear bn; have H' := zK H; clear H
              go_wp2_with (first | ((with_reducible refine gate_callee (f := 99) rfl ?_); refine goesL_ (some 46) rfl rfl Try.func99 (by kernel_rfl) rfl #[.slice A0 l0.length c0, .slice A1 l1.length c1, .int .i64 a2, .int .i64 aa] rfl (by (try simp only [List.map_toArray, List.map_cons, List.map_nil]); first | done | rfl | (simp only [List.length_drop, List.length_take]; rfl)) ?_; (with_reducible refine (spec_l03Fits.calls k3 _ _ l0 _ _ l1 a2 aa true _ ?side1 ?side2 ?side3 ?side4 A16.out).mono ?_); (case side1 => repeat (first | exact (Kd.C_below aY.out HB.out) | (with_reducible refine Kd.C_alloc ?_ _) | (with_reducible refine Kd.C_drewN ?_ _) | (with_reducible refine Kd.C_drew ?_))); (case side2 => exact bj.out); (case side3 => repeat (first | exact (Kd.C_below bk.out HB.out) | (with_reducible refine Kd.C_alloc ?_ _) | (with_reducible refine Kd.C_drewN ?_ _) | (with_reducible refine Kd.C_drew ?_))); (case side4 => exact bl.out); rintro e w' ⟨rfl, ⟨nd, rfl⟩⟩; refine ⟨_, rfl, ?_⟩; have aE : 0 ≤ (aa : Int) := of_decide_eq_true (by first | (with_reducible assumption) | assumption); have aG : aa < (l0.length : Int) := of_decide_eq_true (by first | (with_reducible assumption) | assumption); obtain ⟨bd, be, ar, au, av⟩ := at_T52 aY.out aa aE aG; cases be; replace ar := (HB.out.cell (World.block_lt_of_cell? w _ ar)).trans ar; replace au := (HB.out.cell (World.block_lt_of_cell? w _ au)).trans au; replace av := (HB.out.cell (World.block_lt_of_cell? w _ av)).trans av; replace aE := eq_true aE; replace aG := eq_true aG) | (go_at_call 76; (with_reducible refine (spec_l03Has.calls k3 _ _ l3 ((rd_T52 l0 aa).f0) false _ ?side1 ?side2 A19.out).mono ?_); (case side1 => repeat (first | exact (Kd.C_below a7.out (zb HB)) | (with_reducible refine Kd.C_alloc ?_ _) | (with_reducible refine Kd.C_drewN ?_ _) | (with_reducible refine Kd.C_drew ?_))); (case side2 => exact HC3.out); rintro e w' ⟨rfl, ⟨nd, rfl⟩⟩; have bh : 0 ≤ (aa : Int) := of_decide_eq_true (by first | (with_reducible assumption) | assumption); have bi : aa < (l0.length : Int) := of_decide_eq_true (by first | (with_reducible assumption) | assumption); obtain ⟨bH, e741, aH, aI, aJ⟩ := at_T52 aY.out aa bh bi; obtain rfl : bd = bH := (by injection e741); replace aH := (HB.out.cell (World.block_lt_of_cell? w _ aH)).trans aH; replace aI := (HB.out.cell (World.block_lt_of_cell? w _ aI)).trans aI; replace aJ := (HB.out.cell (World.block_lt_of_cell? w _ aJ)).trans aJ; replace bh := eq_true bh; replace bi := eq_true bi))
              go_meet
              case rel => exact ⟨_, ((a5 != ((rd_T52 l0 aa).f0))), (by first | rfl | (simp; done) | (simp [*]; done)), H', ⟨by have := aT.out; have := aZ.out; have := a0.out; first | omega | exact Nat.le_refl _⟩, ⟨zb HB⟩⟩
             ·rw [if_neg bn] at H
              have bo : (a2 == a4) = false := beq_eq_false_iff_ne.mpr bn
              have bp : (a2 != a4) = true := bne_iff_ne.mpr bn
              have H' := zK H; clear H
              go_wp2_with (first | ((with_reducible refine gate_callee (f := 99) rfl ?_); refine goesL_ (some 46) rfl rfl Try.func99 (by kernel_rfl) rfl #[.slice A0 l0.length c0, .slice A1 l1.length c1, .int .i64 a2, .int .i64 aa] rfl (by (try simp only [List.map_toArray, List.map_cons, List.map_nil]); first | done | rfl | (simp only [List.length_drop, List.length_take]; rfl)) ?_; (with_reducible refine (spec_l03Fits.calls k3 _ _ l0 _ _ l1 a2 aa true _ ?side1 ?side2 ?side3 ?side4 A16.out).mono ?_); (case side1 => repeat (first | exact (Kd.C_below aY.out HB.out) | (with_reducible refine Kd.C_alloc ?_ _) | (with_reducible refine Kd.C_drewN ?_ _) | (with_reducible refine Kd.C_drew ?_))); (case side2 => exact bj.out); (case side3 => repeat (first | exact (Kd.C_below bk.out HB.out) | (with_reducible refine Kd.C_alloc ?_ _) | (with_reducible refine Kd.C_drewN ?_ _) | (with_reducible refine Kd.C_drew ?_))); (case side4 => exact bl.out); rintro e w' ⟨rfl, ⟨nd, rfl⟩⟩; refine ⟨_, rfl, ?_⟩; have aE : 0 ≤ (aa : Int) := of_decide_eq_true (by first | (with_reducible assumption) | assumption); have aG : aa < (l0.length : Int) := of_decide_eq_true (by first | (with_reducible assumption) | assumption); obtain ⟨bd, be, ar, au, av⟩ := at_T52 aY.out aa aE aG; cases be; replace ar := (HB.out.cell (World.block_lt_of_cell? w _ ar)).trans ar; replace au := (HB.out.cell (World.block_lt_of_cell? w _ au)).trans au; replace av := (HB.out.cell (World.block_lt_of_cell? w _ av)).trans av; replace aE := eq_true aE; replace aG := eq_true aG) | (go_at_call 76; (with_reducible refine (spec_l03Has.calls k3 _ _ l3 ((rd_T52 l0 aa).f0) false _ ?side1 ?side2 A19.out).mono ?_); (case side1 => repeat (first | exact (Kd.C_below a7.out (zb HB)) | (with_reducible refine Kd.C_alloc ?_ _) | (with_reducible refine Kd.C_drewN ?_ _) | (with_reducible refine Kd.C_drew ?_))); (case side2 => exact HC3.out); rintro e w' ⟨rfl, ⟨nd, rfl⟩⟩))
              go_meet
              case rel => exact ⟨_, (false), (by first | rfl | (simp; done) | (simp [*]; done)), H', ⟨by have := aT.out; have := aZ.out; have := a0.out; first | omega | exact Nat.le_refl _⟩, ⟨zb HB⟩⟩
           ·rw [if_neg bE] at H
            exact absurd H (by simp)
          ·replace bD := Bool.eq_false_iff.mpr bD
           subst bD
           have H1 : (spec_l03Most.j3 k3 l0 l1 a2 l3 a4 a5 ag aa true) = some r := by rw [if_neg (show ¬ (false = true) by decide)] at H; exact H
           clear H; have H := H1; clear H1; have H' := zK H; clear H
           go_wp2_with (first | ((with_reducible refine gate_callee (f := 99) rfl ?_); refine goesL_ (some 46) rfl rfl Try.func99 (by kernel_rfl) rfl #[.slice A0 l0.length c0, .slice A1 l1.length c1, .int .i64 a2, .int .i64 aa] rfl (by (try simp only [List.map_toArray, List.map_cons, List.map_nil]); first | done | rfl | (simp only [List.length_drop, List.length_take]; rfl)) ?_; (with_reducible refine (spec_l03Fits.calls k3 _ _ l0 _ _ l1 a2 aa false _ ?side1 ?side2 ?side3 ?side4 A16.out).mono ?_); (case side1 => repeat (first | exact (Kd.C_below aY.out HB.out) | (with_reducible refine Kd.C_alloc ?_ _) | (with_reducible refine Kd.C_drewN ?_ _) | (with_reducible refine Kd.C_drew ?_))); (case side2 => exact bj.out); (case side3 => repeat (first | exact (Kd.C_below bk.out HB.out) | (with_reducible refine Kd.C_alloc ?_ _) | (with_reducible refine Kd.C_drewN ?_ _) | (with_reducible refine Kd.C_drew ?_))); (case side4 => exact bl.out); rintro e w' ⟨rfl, ⟨nd, rfl⟩⟩; refine ⟨_, rfl, ?_⟩))
           go_meet
           case rel => exact ⟨_, (true), (by first | rfl | (simp; done) | (simp [*]; done)), H', ⟨by have := aT.out; have := aZ.out; have := a0.out; first | omega | exact Nat.le_refl _⟩, ⟨zb HB⟩⟩
         case rest =>
          clear bt
          try clear c1
          try clear c2
          try clear p2
          try clear c3
          try clear p6
          try clear c7
          try clear a9
          try clear p7
          try clear q7
          try clear hx7
          try clear c8
          try clear c9
          try clear aP
          try clear ba
          try clear br
          try clear bs
          try clear bm
          try clear bD
          try clear bE
          try clear bc
          try clear bG
          try clear bn
          try clear bo
          try clear bp
          try clear ar
          try clear au
          try clear av
          try clear aH
          try clear aI
          try clear aJ
          try clear p2
          try clear p6
          try clear aE
          try clear bh
          try clear aG
          try clear bi
          obtain ⟨kq, aQ, rfl, HA, aK, HB⟩ := hcut
          cases kq with
          | zero => exact absurd HA.out (by simp [spec_l03Most.j3])
          | succ kj14 =>
           have H := HA.out; clear HA
           simp only [spec_l03Most.j3] at H
           by_cases c22 : aQ = true
           ·subst c22
            have H1 : (spec_l03Most.l0 kj14 l0 l1 a2 l3 a4 a5 ag (wrap64 (aa + 1))) = some r := by rw [if_pos rfl] at H; exact H
            clear H; have H := H1; clear H1; have H' := zK H; clear H
            go_wp2
            go_roundg kj14
            case measure => have := aT.out; have := aZ.out; have := a0.out; have := aK.out; omega
            case rel => exact ⟨(ag), (wrap64 (aa + 1)), (by first | rfl | (simp; done) | (simp [*]; done)), (by first | rfl | (simp; done) | (simp [*]; done)), H', ⟨by have := aT.out; have := aZ.out; have := a0.out; have := aK.out; omega⟩, ⟨zb HB⟩⟩
           ·replace c22 := Bool.eq_false_iff.mpr c22
            subst c22
            have H1 : ((some (([] : List Int) : List Int)).bind fun aC => (if aC.length + l3.length < 17592186044416 then ((some (aC ++ l3 : List Int)).bind fun aA => (if 0 ≤ aa then (if aa < (l0.length : Int) then ((some (([(rd_T52 l0 aa).f0] : List Int) : List Int)).bind fun az => (if aA.length + az.length < 17592186044416 then ((spec_l03Most.f kj14 l0 l1 (wrap64 (a2 + 1)) (aA ++ az) a4 a5).bind fun ap => (if ap ≥ 0 then (if (wrap64 (ap + 1)) > ag then (spec_l03Most.l0 kj14 l0 l1 a2 l3 a4 a5 (wrap64 (ap + 1)) (wrap64 (aa + 1))) else (spec_l03Most.l0 kj14 l0 l1 a2 l3 a4 a5 ag (wrap64 (aa + 1)))) else (spec_l03Most.l0 kj14 l0 l1 a2 l3 a4 a5 ag (wrap64 (aa + 1))))) else (none))) else (none)) else (none))) else (none))) = some r := by rw [if_neg (show ¬ (false = true) by decide)] at H; exact H
            clear H; have H := H1; clear H1
            obtain ⟨aC, aU⟩ : ∃ y_ : List Int, y_ = (([] : List Int)) := ⟨_, rfl⟩
            replace H : (if aC.length + l3.length < 17592186044416 then ((some (aC ++ l3 : List Int)).bind fun aA => (if 0 ≤ aa then (if aa < (l0.length : Int) then ((some (([(rd_T52 l0 aa).f0] : List Int) : List Int)).bind fun az => (if aA.length + az.length < 17592186044416 then ((spec_l03Most.f kj14 l0 l1 (wrap64 (a2 + 1)) (aA ++ az) a4 a5).bind fun ap => (if ap ≥ 0 then (if (wrap64 (ap + 1)) > ag then (spec_l03Most.l0 kj14 l0 l1 a2 l3 a4 a5 (wrap64 (ap + 1)) (wrap64 (aa + 1))) else (spec_l03Most.l0 kj14 l0 l1 a2 l3 a4 a5 ag (wrap64 (aa + 1)))) else (spec_l03Most.l0 kj14 l0 l1 a2 l3 a4 a5 ag (wrap64 (aa + 1))))) else (none))) else (none)) else (none))) else (none)) = some r := by first | (rw [aU]; with_reducible exact H) | (have H2_ := (Option.bind_some _ _).symm.trans H; rw [aU]; with_reducible exact H2_) | (have H2_ := (Option.bind_some _ _).symm.trans H; with_reducible exact H2_) | with_reducible exact H | (rw [aU]; exact H) | exact H
            have Ny742 := zK aU; clear aU
            by_cases c23 : aC.length + l3.length < 17592186044416
            ·rw [if_pos c23] at H
             have aD := zK c23; clear c23
             obtain ⟨aA, aV⟩ : ∃ y_ : List Int, y_ = (aC ++ l3) := ⟨_, rfl⟩
             replace H : (if 0 ≤ aa then (if aa < (l0.length : Int) then ((some (([(rd_T52 l0 aa).f0] : List Int) : List Int)).bind fun az => (if aA.length + az.length < 17592186044416 then ((spec_l03Most.f kj14 l0 l1 (wrap64 (a2 + 1)) (aA ++ az) a4 a5).bind fun ap => (if ap ≥ 0 then (if (wrap64 (ap + 1)) > ag then (spec_l03Most.l0 kj14 l0 l1 a2 l3 a4 a5 (wrap64 (ap + 1)) (wrap64 (aa + 1))) else (spec_l03Most.l0 kj14 l0 l1 a2 l3 a4 a5 ag (wrap64 (aa + 1)))) else (spec_l03Most.l0 kj14 l0 l1 a2 l3 a4 a5 ag (wrap64 (aa + 1))))) else (none))) else (none)) else (none)) = some r := by first | (rw [aV]; with_reducible exact H) | (have H2_ := (Option.bind_some _ _).symm.trans H; rw [aV]; with_reducible exact H2_) | (have H2_ := (Option.bind_some _ _).symm.trans H; with_reducible exact H2_) | with_reducible exact H | (rw [aV]; exact H) | exact H
             have Ny745 := zK aV; clear aV
             by_cases c24 : 0 ≤ aa
             ·rw [if_pos c24] at H
              have c24b0 : decide (0 ≤ aa) = true := decide_eq_true c24
              clear c24
              by_cases c25 : aa < (l0.length : Int)
              ·rw [if_pos c25] at H
               have c25b0 : decide (aa < (l0.length : Int)) = true := decide_eq_true c25
               clear c25
               obtain ⟨az, aW⟩ : ∃ y_ : List Int, y_ = (([(rd_T52 l0 aa).f0] : List Int)) := ⟨_, rfl⟩
               replace H : (if aA.length + az.length < 17592186044416 then ((spec_l03Most.f kj14 l0 l1 (wrap64 (a2 + 1)) (aA ++ az) a4 a5).bind fun ap => (if ap ≥ 0 then (if (wrap64 (ap + 1)) > ag then (spec_l03Most.l0 kj14 l0 l1 a2 l3 a4 a5 (wrap64 (ap + 1)) (wrap64 (aa + 1))) else (spec_l03Most.l0 kj14 l0 l1 a2 l3 a4 a5 ag (wrap64 (aa + 1)))) else (spec_l03Most.l0 kj14 l0 l1 a2 l3 a4 a5 ag (wrap64 (aa + 1))))) else (none)) = some r := by first | (rw [aW]; with_reducible exact H) | (have H2_ := (Option.bind_some _ _).symm.trans H; rw [aW]; with_reducible exact H2_) | (have H2_ := (Option.bind_some _ _).symm.trans H; with_reducible exact H2_) | with_reducible exact H | (rw [aW]; exact H) | exact H
               have Ny749 := zK aW; clear aW
               by_cases c26 : aA.length + az.length < 17592186044416
               ·rw [if_pos c26] at H
                have bf := zK c26; clear c26
                obtain ⟨a1, aX⟩ : ∃ y_ : List Int, y_ = (aA ++ az) := ⟨_, rfl⟩
                replace H : ((spec_l03Most.f kj14 l0 l1 (wrap64 (a2 + 1)) a1 a4 a5).bind fun ap => (if ap ≥ 0 then (if (wrap64 (ap + 1)) > ag then (spec_l03Most.l0 kj14 l0 l1 a2 l3 a4 a5 (wrap64 (ap + 1)) (wrap64 (aa + 1))) else (spec_l03Most.l0 kj14 l0 l1 a2 l3 a4 a5 ag (wrap64 (aa + 1)))) else (spec_l03Most.l0 kj14 l0 l1 a2 l3 a4 a5 ag (wrap64 (aa + 1))))) = some r := by first | (rw [aX]; with_reducible exact H) | (have H2_ := (Option.bind_some _ _).symm.trans H; rw [aX]; with_reducible exact H2_) | (have H2_ := (Option.bind_some _ _).symm.trans H; with_reducible exact H2_) | with_reducible exact H | (rw [aX]; exact H) | exact H
                have Ny752 := zK aX; clear aX; replace H := Option.bind_eq_some_iff.mp H
                obtain ⟨ap, bI, H⟩ := H
                replace H : (if ap ≥ 0 then (if (wrap64 (ap + 1)) > ag then (spec_l03Most.l0 kj14 l0 l1 a2 l3 a4 a5 (wrap64 (ap + 1)) (wrap64 (aa + 1))) else (spec_l03Most.l0 kj14 l0 l1 a2 l3 a4 a5 ag (wrap64 (aa + 1)))) else (spec_l03Most.l0 kj14 l0 l1 a2 l3 a4 a5 ag (wrap64 (aa + 1)))) = some r := H
                have A27 := zK bI; clear bI
                by_cases bu : ap ≥ 0
                ·rw [if_pos bu] at H
                 have bJ : decide (0 ≤ ap) = true := decide_eq_true bu
                 clear bu
                 by_cases bv : (wrap64 (ap + 1)) > ag
                 ·rw [if_pos bv] at H
                  have bK : decide (ag < (wrap64 (ap + 1))) = true := decide_eq_true bv
                  clear bv; have H' := zK H; clear H
                  try go_wp2
                  have ai := zK (zE HB.out)
                  clear HB; have HB := ai; clear ai
                  have aM : 0 ≤ (aa : Int) := of_decide_eq_true (by first | (with_reducible assumption) | assumption)
                  have aN : aa < (l0.length : Int) := of_decide_eq_true (by first | (with_reducible assumption) | assumption)
                  obtain ⟨af, bg, al, am, an⟩ := at_T52 aY.out aa aM aN
                  have ab := an; have ac := am; have ad := al
                  cases bg
                  replace al := (HB.out.cell (World.block_lt_of_cell? w _ al)).trans al
                  replace am := (HB.out.cell (World.block_lt_of_cell? w _ am)).trans am
                  replace an := (HB.out.cell (World.block_lt_of_cell? w _ an)).trans an
                  replace aM := eq_true aM; replace aN := eq_true aN
                  refine start_ (n := 11) (S := fun w' => w'.cell? (af.add ((aa).toNat * 3)) = some (.int .i64 ((rd_T52 l0 aa).f0)) ∧ w'.cell? ⟨(af.add ((aa).toNat * 3)).block, (af.add ((aa).toNat * 3)).off + 1, none⟩ = some (.int .i64 ((rd_T52 l0 aa).f1)) ∧ w'.cell? ⟨(af.add ((aa).toNat * 3)).block, (af.add ((aa).toNat * 3)).off + 2, none⟩ = some (.int .i64 ((rd_T52 l0 aa).f2))) (ds := []) #[ff, ff, ff, ff, ff, ff, ff, ff, ff, ff, ff] (by kernel_rfl) rfl rfl ⟨((HB.out.cell (World.block_lt_of_cell? w _ ad)).trans ad), ((HB.out.cell (World.block_lt_of_cell? w _ ac)).trans ac), ((HB.out.cell (World.block_lt_of_cell? w _ ab)).trans ab)⟩ (fun hHeld => ?_); refine with_tabW spec_l03Most.tab10 spec_l03Most.bits10 (fun HT_ HW_ => ?_)
                  generalize wc.drew = w30 at HB al am an hHeld ⊢
                  refine zu 1 (some 72) #[ff, tt, ff, ff, ff, ff, ff, ff, ff, ff, ff] (any_of HT_.out (by kernel_rfl)) ?_
                  refine zu 3 (some 74) #[ff, tt, ff, tt, ff, ff, ff, ff, ff, ff, ff] (any_of HT_.out (by kernel_rfl)) ?_
                  refine zu 4 (some 75) #[ff, tt, ff, tt, tt, ff, ff, ff, ff, ff, ff] (any_of HT_.out (by kernel_rfl)) ?_
                  refine zu 5 (some 76) #[ff, tt, ff, tt, tt, tt, ff, ff, ff, ff, ff] (any_of HT_.out (by kernel_rfl)) ?_
                  refine zu 6 (some 77) #[ff, tt, ff, tt, tt, tt, tt, ff, ff, ff, ff] (any_of HT_.out (by kernel_rfl)) ?_
                  refine zt 7 (some 78) #[ff, tt, ff, tt, tt, tt, tt, tt, ff, ff, ff] (take_ofW HT_.out HW_.out (by kernel_rfl)) hHeld ?_
                  refine join_ (σ := Value × Value × Value) 2 #[tt, tt, tt, tt, tt, tt, tt, tt, tt, ff, ff] (fun s_ => [(71, s_.1), (73, s_.2.1), (79, s_.2.2)]) (fun s_ w' => (w'.cell? (af.add ((aa).toNat * 3)) = some (.int .i64 ((rd_T52 l0 aa).f0)) ∧ w'.cell? ⟨(af.add ((aa).toNat * 3)).block, (af.add ((aa).toNat * 3)).off + 1, none⟩ = some (.int .i64 ((rd_T52 l0 aa).f1)) ∧ w'.cell? ⟨(af.add ((aa).toNat * 3)).block, (af.add ((aa).toNat * 3)).off + 2, none⟩ = some (.int .i64 ((rd_T52 l0 aa).f2))) ∧ (Kd.R (Kd.int .i64) 3 w' w.heap.size (fun k_ => some k_ ≠ (s_.2.2 : Value).ownBlock) s_.2.1 aA) ∧ (Kd.R (Kd.int .i64) 3 w' w.heap.size (fun k_ => some k_ ≠ (s_.2.1 : Value).ownBlock) s_.2.2 az) ∧ (Below w.heap.size w w')) ?_ ?_
                  rotate_left
                  ·intro hCont
                   refine two_ (i := 0) (j := 8) (Ni := some 71) (Nj := some 79) #[tt, tt, ff, tt, tt, tt, tt, tt, ff, ff, ff] #[ff, tt, ff, tt, tt, tt, tt, tt, tt, ff, ff] rfl rfl rfl rfl (two_of HT_.out (by kernel_rfl)) (by decide) (by decide) (fun K hK => ?_) (fun K hK => ?_)
                   ·skip
                    refine Kd.R_lit_step (Kd.int .i64) _ 3 ?hg (N := 71) ?hd (xs := ([] : List Int)) (inner := []) (ok := fun _ => True) (okp := fun _ => True) ?hr ?hp (fun _ hk => hk) trivial (Below.refl _ _) (Nat.le_refl _) (by simp) ?_; (case hd => rfl); (case hg => rfl); (case hr => first | (go_simp; done) | (go_simp; rfl)); (case hp => exact (Reps.none _ _))
                    intro ay w31 ho32 hb hg_ hnew_
                    clear hg_ hnew_
                    (first | rw [← Ny742.out] at ho32 | (simp only [Int.reduceToNat] at ho32; rw [← Ny742.out] at ho32))
                    have ai := zK (Kd.R_lower ho32 (below_size (zb HB)))
                    have ak := zK (below_step (zb HB) hb)
                    clear HB; have aj := ai; have HB := ak; clear ai ak hb ho32
                    refine hK.out _ _ ⟨((HB.out.cell (World.block_lt_of_cell? w _ ad)).trans ad), ((HB.out.cell (World.block_lt_of_cell? w _ ac)).trans ac), ((HB.out.cell (World.block_lt_of_cell? w _ ab)).trans ab)⟩ (fun hHeld => ?_)
                    clear hK K
                    refine norm_ (a' := ?_) ?_ ?_
                    rotate_left
                    ·show Act.put _ (some 71) _ = _
                     simp only [Act.put, zp, zq, zr, i64_w, i32_w]
                     rfl
                    refine two_ (i := 2) (j := 8) (Ni := some 73) (Nj := some 79) #[tt, tt, tt, tt, tt, tt, tt, tt, ff, ff, ff] #[tt, tt, ff, tt, tt, tt, tt, tt, tt, ff, ff] rfl rfl rfl rfl (two_of HT_.out (by kernel_rfl)) (by decide) (by decide) (fun K hK => ?_) (fun K hK => ?_)
                    ·skip
                     refine Kd.R_append_rows_step (Kd.int .i64) (w0 := w) w.heap.size (by rfl) (.tmp 71) (.tmp 72) 29 3 (.int .i64 0) 8 rfl Try.underlying29 info3 rfl (by decide) (by omega) ay aC l3 _ _ _ (fun _ => True) (fun _ => False) rfl rfl ?aO ?aR (fun _ _ h => h) (fun _ h => h.elim) ?aF ?aB ?aS ?aL ?_
                     (case aR => repeat (first | exact (Kd.C_below a7.out HB.out) | (with_reducible refine Kd.C_alloc ?_ _) | (with_reducible refine Kd.C_drewN ?_ _) | (with_reducible refine Kd.C_drew ?_)))
                     (case aB => exact (zb HB))
                     (case aF => exact (fun _ _ => trivial))
                     (case aO => exact (zR aj))
                     (case aS => exact (below_size (zb HB)))
                     (case aL => have := aD.out; omega)
                     intro ax w33 ho hb hg hat
                     rw [← Ny745.out] at ho
                     have ai := zK (hb)
                     have ak := zK (ho)
                     clear HB aj; have HB := ai; have ah := ak; clear ai ak ho hb hg hat
                     refine hK.out _ _ ⟨((HB.out.cell (World.block_lt_of_cell? w _ ad)).trans ad), ((HB.out.cell (World.block_lt_of_cell? w _ ac)).trans ac), ((HB.out.cell (World.block_lt_of_cell? w _ ab)).trans ab)⟩ (fun hHeld => ?_)
                     clear hK K
                     refine norm_ (a' := ?_) ?_ ?_
                     rotate_left
                     ·show Act.put _ (some 73) _ = _
                      simp only [Act.put, zp, zq, zr, i64_w, i32_w]
                      rfl
                     refine one_ (i := 8) (N := some 79) #[tt, tt, tt, tt, tt, tt, tt, tt, tt, ff, ff] rfl rfl (one_of HT_.out (by kernel_rfl)) (by decide) (fun K hK => ?_)
                     refine Kd.R_lit_step (Kd.int .i64) _ 3 ?hg (N := 79) ?hd (xs := ([(rd_T52 l0 aa).f0] : List Int)) (inner := [.int .i64 ((rd_T52 l0 aa).f0)]) (ok := fun _ => True) (okp := fun _ => True) ?hr ?hp (fun _ hk => hk) trivial (Below.refl _ _) (Nat.le_refl _) (by simp) ?_; (case hd => rfl); (case hg => rfl); (case hr => first | (go_simp; done) | (go_simp; rfl)); (case hp => exact (Reps.one (show Kd.M (Kd.int .i64) _ _ _ ((rd_T52 l0 aa).f0) [.int .i64 ((rd_T52 l0 aa).f0)] from rfl) (Reps.none _ _)))
                     intro aq w34 ho35 hb hg_ hnew_
                     clear hg_ hnew_
                     (first | rw [← Ny749.out] at ho35 | (simp only [Int.reduceToNat] at ho35; rw [← Ny749.out] at ho35))
                     have ai := zK (Kd.R_elder' (zR ah) (Kd.R_base ho35) hb)
                     have ak := zK (Kd.R_lower (Kd.R_new' ho35 (Kd.R_lt (zR ah))) (below_size (zb HB)))
                     have ao := zK (below_step (zb HB) hb)
                     clear ah HB; have ah := ai; have ae := ak; have HB := ao; clear ai ak ao hb ho35
                     refine hK.out _ _ ⟨((HB.out.cell (World.block_lt_of_cell? w _ ad)).trans ad), ((HB.out.cell (World.block_lt_of_cell? w _ ac)).trans ac), ((HB.out.cell (World.block_lt_of_cell? w _ ab)).trans ab)⟩ (fun hHeld => ?_)
                     clear hK K
                     refine norm_ (a' := ?_) ?_ ?_
                     rotate_left
                     ·show Act.put _ (some 79) _ = _
                      simp only [Act.put, zp, zq, zr, i64_w, i32_w]
                      rfl
                     exact norm_ (by simp only [putAll, Act.put, List.setIfInBounds_toArray, List.set_cons_zero, List.set_cons_succ]) (hCont (ay, ax, aq) _ ⟨hHeld, (by (with_reducible repeat (first | apply Kd.R_alloc | apply Kd.R_drewN | apply Kd.R_drew)); exact Kd.R_mono ah.out (fun _ hk => hk.2)), (by (with_reducible repeat (first | apply Kd.R_alloc | apply Kd.R_drewN | apply Kd.R_drew)); exact Kd.R_mono ae.out (fun _ hk => hk.2)), (zb HB)⟩)
                    ·skip
                     refine Kd.R_lit_step (Kd.int .i64) _ 3 ?hg (N := 79) ?hd (xs := ([(rd_T52 l0 aa).f0] : List Int)) (inner := [.int .i64 ((rd_T52 l0 aa).f0)]) (ok := fun _ => True) (okp := fun _ => True) ?hr ?hp (fun _ hk => hk) trivial (Below.refl _ _) (Nat.le_refl _) (by simp) ?_; (case hd => rfl); (case hg => rfl); (case hr => first | (go_simp; done) | (go_simp; rfl)); (case hp => exact (Reps.one (show Kd.M (Kd.int .i64) _ _ _ ((rd_T52 l0 aa).f0) [.int .i64 ((rd_T52 l0 aa).f0)] from rfl) (Reps.none _ _)))
                     intro aq w33 ho34 hb hg_ hnew_
                     clear hg_ hnew_
                     (first | rw [← Ny749.out] at ho34 | (simp only [Int.reduceToNat] at ho34; rw [← Ny749.out] at ho34))
                     have ai := zK (Kd.R_elder' (zR aj) (Kd.R_base ho34) hb)
                     have ak := zK (Kd.R_lower (Kd.R_new' ho34 (Kd.R_lt (zR aj))) (below_size (zb HB)))
                     have ao := zK (below_step (zb HB) hb)
                     clear aj HB; have aj := ai; have ae := ak; have HB := ao; clear ai ak ao hb ho34
                     refine hK.out _ _ ⟨((HB.out.cell (World.block_lt_of_cell? w _ ad)).trans ad), ((HB.out.cell (World.block_lt_of_cell? w _ ac)).trans ac), ((HB.out.cell (World.block_lt_of_cell? w _ ab)).trans ab)⟩ (fun hHeld => ?_)
                     clear hK K
                     refine norm_ (a' := ?_) ?_ ?_
                     rotate_left
                     ·show Act.put _ (some 79) _ = _
                      simp only [Act.put, zp, zq, zr, i64_w, i32_w]
                      rfl
                     refine one_ (i := 2) (N := some 73) #[tt, tt, tt, tt, tt, tt, tt, tt, tt, ff, ff] rfl rfl (one_of HT_.out (by kernel_rfl)) (by decide) (fun K hK => ?_)
                     refine Kd.R_append_rows_step (Kd.int .i64) (w0 := w) w.heap.size (by rfl) (.tmp 71) (.tmp 72) 29 3 (.int .i64 0) 8 rfl Try.underlying29 info3 rfl (by decide) (by omega) ay aC l3 _ _ _ (fun k_ => some k_ ≠ (aq : Value).ownBlock) (fun _ => False) rfl rfl ?aO ?aR (fun _ _ h => h) (fun _ h => h.elim) ?aF ?aB ?aS ?aL ?_
                     (case aR => repeat (first | exact (Kd.C_below a7.out HB.out) | (with_reducible refine Kd.C_alloc ?_ _) | (with_reducible refine Kd.C_drewN ?_ _) | (with_reducible refine Kd.C_drew ?_)))
                     (case aB => exact (zb HB))
                     (case aF => exact (fun k_ hk => Kd.fresh' (Kd.R_lt (zR ae)) k_ hk))
                     (case aO => exact (by (with_reducible repeat (first | apply Kd.R_alloc | apply Kd.R_drewN | apply Kd.R_drew)); exact Kd.R_mono aj.out (fun _ hk => hk.2)))
                     (case aS => exact (below_size (zb HB)))
                     (case aL => have := aD.out; omega)
                     intro ax w35 ho hb hg hat
                     rw [← Ny745.out] at ho
                     have ai := zK (Kd.R_after (ok := (fun _ => True)) (zR ae) hg hat)
                     have ak := zK (hb)
                     have ao := zK (ho)
                     clear ae HB aj; have ae := ai; have HB := ak; have ah := ao; clear ai ak ao ho hb hg hat
                     refine hK.out _ _ ⟨((HB.out.cell (World.block_lt_of_cell? w _ ad)).trans ad), ((HB.out.cell (World.block_lt_of_cell? w _ ac)).trans ac), ((HB.out.cell (World.block_lt_of_cell? w _ ab)).trans ab)⟩ (fun hHeld => ?_)
                     clear hK K
                     refine norm_ (a' := ?_) ?_ ?_
                     rotate_left
                     ·show Act.put _ (some 73) _ = _
                      simp only [Act.put, zp, zq, zr, i64_w, i32_w]
                      rfl
                     exact norm_ (by simp only [putAll, Act.put, List.setIfInBounds_toArray, List.set_cons_zero, List.set_cons_succ]) (hCont (ay, ax, aq) _ ⟨hHeld, (zR ah), (by (with_reducible repeat (first | apply Kd.R_alloc | apply Kd.R_drewN | apply Kd.R_drew)); exact Kd.R_mono ae.out (fun _ hk => hk.2)), (zb HB)⟩)
                   ·skip
                    refine Kd.R_lit_step (Kd.int .i64) _ 3 ?hg (N := 79) ?hd (xs := ([(rd_T52 l0 aa).f0] : List Int)) (inner := [.int .i64 ((rd_T52 l0 aa).f0)]) (ok := fun _ => True) (okp := fun _ => True) ?hr ?hp (fun _ hk => hk) trivial (Below.refl _ _) (Nat.le_refl _) (by simp) ?_; (case hd => rfl); (case hg => rfl); (case hr => first | (go_simp; done) | (go_simp; rfl)); (case hp => exact (Reps.one (show Kd.M (Kd.int .i64) _ _ _ ((rd_T52 l0 aa).f0) [.int .i64 ((rd_T52 l0 aa).f0)] from rfl) (Reps.none _ _)))
                    intro aq w31 ho32 hb hg_ hnew_
                    clear hg_ hnew_
                    (first | rw [← Ny749.out] at ho32 | (simp only [Int.reduceToNat] at ho32; rw [← Ny749.out] at ho32))
                    have ai := zK (Kd.R_lower ho32 (below_size (zb HB)))
                    have ak := zK (below_step (zb HB) hb)
                    clear HB; have ae := ai; have HB := ak; clear ai ak hb ho32
                    refine hK.out _ _ ⟨((HB.out.cell (World.block_lt_of_cell? w _ ad)).trans ad), ((HB.out.cell (World.block_lt_of_cell? w _ ac)).trans ac), ((HB.out.cell (World.block_lt_of_cell? w _ ab)).trans ab)⟩ (fun hHeld => ?_)
                    clear hK K
                    refine norm_ (a' := ?_) ?_ ?_
                    rotate_left
                    ·show Act.put _ (some 79) _ = _
                     simp only [Act.put, zp, zq, zr, i64_w, i32_w]
                     rfl
                    refine one_ (i := 0) (N := some 71) #[tt, tt, ff, tt, tt, tt, tt, tt, tt, ff, ff] rfl rfl (one_of HT_.out (by kernel_rfl)) (by decide) (fun K hK => ?_)
                    refine Kd.R_lit_step (Kd.int .i64) _ 3 ?hg (N := 71) ?hd (xs := ([] : List Int)) (inner := []) (ok := fun _ => True) (okp := fun _ => True) ?hr ?hp (fun _ hk => hk) trivial (Below.refl _ _) (Nat.le_refl _) (by simp) ?_; (case hd => rfl); (case hg => rfl); (case hr => first | (go_simp; done) | (go_simp; rfl)); (case hp => exact (Reps.none _ _))
                    intro ay w33 ho34 hb hg_ hnew_
                    clear hg_ hnew_
                    (first | rw [← Ny742.out] at ho34 | (simp only [Int.reduceToNat] at ho34; rw [← Ny742.out] at ho34))
                    have ai := zK (Kd.R_elder' (zR ae) (Kd.R_base ho34) hb)
                    have ak := zK (Kd.R_lower (Kd.R_new' ho34 (Kd.R_lt (zR ae))) (below_size (zb HB)))
                    have ao := zK (below_step (zb HB) hb)
                    clear ae HB; have ae := ai; have aj := ak; have HB := ao; clear ai ak ao hb ho34
                    refine hK.out _ _ ⟨((HB.out.cell (World.block_lt_of_cell? w _ ad)).trans ad), ((HB.out.cell (World.block_lt_of_cell? w _ ac)).trans ac), ((HB.out.cell (World.block_lt_of_cell? w _ ab)).trans ab)⟩ (fun hHeld => ?_)
                    clear hK K
                    refine norm_ (a' := ?_) ?_ ?_
                    rotate_left
                    ·show Act.put _ (some 71) _ = _
                     simp only [Act.put, zp, zq, zr, i64_w, i32_w]
                     rfl
                    refine one_ (i := 2) (N := some 73) #[tt, tt, tt, tt, tt, tt, tt, tt, tt, ff, ff] rfl rfl (one_of HT_.out (by kernel_rfl)) (by decide) (fun K hK => ?_)
                    refine Kd.R_append_rows_step (Kd.int .i64) (w0 := w) w.heap.size (by rfl) (.tmp 71) (.tmp 72) 29 3 (.int .i64 0) 8 rfl Try.underlying29 info3 rfl (by decide) (by omega) ay aC l3 _ _ _ (fun k_ => some k_ ≠ (aq : Value).ownBlock) (fun _ => False) rfl rfl ?aO ?aR (fun _ _ h => h) (fun _ h => h.elim) ?aF ?aB ?aS ?aL ?_
                    (case aR => repeat (first | exact (Kd.C_below a7.out HB.out) | (with_reducible refine Kd.C_alloc ?_ _) | (with_reducible refine Kd.C_drewN ?_ _) | (with_reducible refine Kd.C_drew ?_)))
                    (case aB => exact (zb HB))
                    (case aF => exact (fun k_ hk => Kd.fresh' (Kd.R_lt (zR ae)) k_ hk))
                    (case aO => exact (by (with_reducible repeat (first | apply Kd.R_alloc | apply Kd.R_drewN | apply Kd.R_drew)); exact Kd.R_mono aj.out (fun _ hk => hk.2)))
                    (case aS => exact (below_size (zb HB)))
                    (case aL => have := aD.out; omega)
                    intro ax w35 ho hb hg hat
                    rw [← Ny745.out] at ho
                    have ai := zK (Kd.R_after (ok := (fun _ => True)) (zR ae) hg hat)
                    have ak := zK (hb)
                    have ao := zK (ho)
                    clear ae HB aj; have ae := ai; have HB := ak; have ah := ao; clear ai ak ao ho hb hg hat
                    refine hK.out _ _ ⟨((HB.out.cell (World.block_lt_of_cell? w _ ad)).trans ad), ((HB.out.cell (World.block_lt_of_cell? w _ ac)).trans ac), ((HB.out.cell (World.block_lt_of_cell? w _ ab)).trans ab)⟩ (fun hHeld => ?_)
                    clear hK K
                    refine norm_ (a' := ?_) ?_ ?_
                    rotate_left
                    ·show Act.put _ (some 73) _ = _
                     simp only [Act.put, zp, zq, zr, i64_w, i32_w]
                     rfl
                    exact norm_ (by simp only [putAll, Act.put, List.setIfInBounds_toArray, List.set_cons_zero, List.set_cons_succ]) (hCont (ay, ax, aq) _ ⟨hHeld, (zR ah), (by (with_reducible repeat (first | apply Kd.R_alloc | apply Kd.R_drewN | apply Kd.R_drew)); exact Kd.R_mono ae.out (fun _ hk => hk.2)), (zb HB)⟩)
                  rintro ⟨ay, ax, aq⟩ bw ⟨hS_, h0_, h1_, h2_⟩
                  have ai : Aside0 (Kd.R (Kd.int .i64) 3 bw w.heap.size (fun k_ => some k_ ≠ (aq : Value).ownBlock) ax aA) := ⟨h0_⟩
                  have ak : Aside0 (Kd.R (Kd.int .i64) 3 bw w.heap.size (fun k_ => some k_ ≠ (ax : Value).ownBlock) aq az) := ⟨h1_⟩
                  have ao : Aside0 (Below w.heap.size w bw) := ⟨h2_⟩
                  clear HB h0_ h1_ h2_; have ah := ai; have ae := ak; have HB := ao; clear ai ak ao
                  have hHeld : bw.cell? (af.add ((aa).toNat * 3)) = some (.int .i64 ((rd_T52 l0 aa).f0)) ∧ bw.cell? ⟨(af.add ((aa).toNat * 3)).block, (af.add ((aa).toNat * 3)).off + 1, none⟩ = some (.int .i64 ((rd_T52 l0 aa).f1)) ∧ bw.cell? ⟨(af.add ((aa).toNat * 3)).block, (af.add ((aa).toNat * 3)).off + 2, none⟩ = some (.int .i64 ((rd_T52 l0 aa).f2)) := hS_
                  obtain ⟨Ao38, co38, bL⟩ := Kd.R_slice ae.out
                  (first | subst bL | (injection bL with f1_ f2_ f3_; have f4_ := f1_.symm; have f5_ := f3_.symm; clear f1_ f2_ f3_; subst f4_; subst f5_))
                  refine norm_ (a' := ?_) ?_ ?_
                  rotate_left
                  ·simp only [putAll, Act.put, List.setIfInBounds_toArray, List.set_cons_zero, List.set_cons_succ]
                   rfl
                  refine one_ (i := 9) (N := some 80) #[tt, tt, tt, tt, tt, tt, tt, tt, tt, tt, ff] rfl rfl (one_of HT_.out (by kernel_rfl)) (by decide) (fun K hK => ?_)
                  refine Kd.R_append_rows_step (Kd.int .i64) (w0 := w) w.heap.size (by rfl) (.tmp 73) (.tmp 79) 29 3 (.int .i64 0) 8 rfl Try.underlying29 info3 rfl (by decide) (by omega) ax aA az _ _ _ (fun k_ => some k_ ≠ (.slice Ao38 az.length co38 : Value).ownBlock) (fun _ => False) rfl rfl ?aO ?aR (fun _ _ h => h) (fun _ h => h.elim) ?aF ?aB ?aS ?aL ?_
                  (case aR => repeat (first | exact (Kd.R_reads' ae.out).2.2 | (with_reducible refine Kd.C_alloc ?_ _) | (with_reducible refine Kd.C_drewN ?_ _) | (with_reducible refine Kd.C_drew ?_)))
                  (case aB => exact (zb HB))
                  (case aF => exact (fun k_ hk => Kd.fresh' (Kd.R_lt (zR ae)) k_ hk))
                  (case aO => exact (zR ah))
                  (case aS => exact (below_size (zb HB)))
                  (case aL => have := bf.out; omega)
                  intro bM w37 ho hb hg hat
                  rw [← Ny752.out] at ho
                  have ai := zK (Kd.R_after (ok := (fun _ => True)) (by (with_reducible repeat (first | apply Kd.R_alloc | apply Kd.R_drewN | apply Kd.R_drew)); exact Kd.R_mono ae.out (fun _ hk => ⟨trivial, hk⟩)) hg hat)
                  have ak := zK (hb)
                  have ao := zK (ho)
                  clear ae HB ah; have ae := ai; have HB := ak; have aw := ao; clear ai ak ao ho hb hg hat
                  refine hK.out _ _ ⟨((HB.out.cell (World.block_lt_of_cell? w _ ad)).trans ad), ((HB.out.cell (World.block_lt_of_cell? w _ ac)).trans ac), ((HB.out.cell (World.block_lt_of_cell? w _ ab)).trans ab)⟩ (fun hHeld => ?_)
                  clear hK K
                  refine norm_ (a' := ?_) ?_ ?_
                  rotate_left
                  ·show Act.put _ (some 80) _ = _
                   simp only [Act.put, zp, zq, zr, i64_w, i32_w]
                   rfl
                  refine zu 10 (some 15) #[tt, tt, tt, tt, tt, tt, tt, tt, tt, tt, tt] (any_of HT_.out (by kernel_rfl)) ?_
                  refine done_ (done_of HT_.out (by kernel_rfl)) ?_
                  obtain ⟨Ao39, co39, eo39⟩ := Kd.R_slice aw.out
                  subst eo39
                  try go_wp2_with (first | ((with_reducible refine gate_callee (f := 86) rfl ?_); refine goesL_ (some 88) rfl rfl Try.func86 (by kernel_rfl) rfl #[.slice (some af) l0.length c0, .slice A1 l1.length c1, .int .i64 (wrap64 (a2 + 1)), .slice Ao39 a1.length co39, .int .i64 a4, .int .i64 a5] rfl (by (try simp only [List.map_toArray, List.map_cons, List.map_nil]); first | done | rfl | (simp only [List.length_drop, List.length_take]; rfl)) ?_; (with_reducible refine (ih kj14 (by have := aT.out; have := aZ.out; have := a0.out; have := aK.out; omega) _ _ l0 _ _ l1 (wrap64 (a2 + 1)) _ _ a1 a4 a5 ap _ ?side1 ?side2 ?side3 ?side4 ?side5 ?side6 A27.out).mono ?_); (case side1 => repeat (first | exact (Kd.C_below aY.out HB.out) | (with_reducible refine Kd.C_alloc ?_ _) | (with_reducible refine Kd.C_drewN ?_ _) | (with_reducible refine Kd.C_drew ?_))); (case side2 => exact bj.out); (case side3 => repeat (first | exact (Kd.C_below bk.out HB.out) | (with_reducible refine Kd.C_alloc ?_ _) | (with_reducible refine Kd.C_drewN ?_ _) | (with_reducible refine Kd.C_drew ?_))); (case side4 => exact bl.out); (case side5 => repeat (first | exact (Kd.R_reads' aw.out).2.2 | (with_reducible refine Kd.C_alloc ?_ _) | (with_reducible refine Kd.C_drewN ?_ _) | (with_reducible refine Kd.C_drew ?_))); (case side6 => exact (Kd.R_reads' aw.out).2.1); rintro e w40 ⟨rfl, hb⟩; refine ⟨_, rfl, ?_⟩; have ai := zK (Kd.R_below (zR ae) hb); have ak := zK (Kd.R_below (zR aw) hb); have ao := zK (below_step (zb HB) hb); clear ae; clear aw; clear HB; have ae := ai; have aw := ak; have HB := ao; clear ai ak ao; (try clear hb)))
                  go_roundg kj14
                  case measure => have := aT.out; have := aZ.out; have := a0.out; have := aK.out; omega
                  case rel => exact ⟨(wrap64 (ap + 1)), (wrap64 (aa + 1)), (by first | rfl | (simp; done) | (simp [*]; done)), (by first | rfl | (simp; done) | (simp [*]; done)), H', ⟨by have := aT.out; have := aZ.out; have := a0.out; have := aK.out; omega⟩, ⟨zb HB⟩⟩
                 ·rw [if_neg bv] at H
                  have bK : decide (ag < (wrap64 (ap + 1))) = false := decide_eq_false bv
                  clear bv; have H' := zK H; clear H
                  try go_wp2
                  have ai := zK (zE HB.out)
                  clear HB; have HB := ai; clear ai
                  have aM : 0 ≤ (aa : Int) := of_decide_eq_true (by first | (with_reducible assumption) | assumption)
                  have aN : aa < (l0.length : Int) := of_decide_eq_true (by first | (with_reducible assumption) | assumption)
                  obtain ⟨af, bg, al, am, an⟩ := at_T52 aY.out aa aM aN
                  have ab := an; have ac := am; have ad := al
                  cases bg
                  replace al := (HB.out.cell (World.block_lt_of_cell? w _ al)).trans al
                  replace am := (HB.out.cell (World.block_lt_of_cell? w _ am)).trans am
                  replace an := (HB.out.cell (World.block_lt_of_cell? w _ an)).trans an
                  replace aM := eq_true aM; replace aN := eq_true aN
                  refine start_ (n := 11) (S := fun w' => w'.cell? (af.add ((aa).toNat * 3)) = some (.int .i64 ((rd_T52 l0 aa).f0)) ∧ w'.cell? ⟨(af.add ((aa).toNat * 3)).block, (af.add ((aa).toNat * 3)).off + 1, none⟩ = some (.int .i64 ((rd_T52 l0 aa).f1)) ∧ w'.cell? ⟨(af.add ((aa).toNat * 3)).block, (af.add ((aa).toNat * 3)).off + 2, none⟩ = some (.int .i64 ((rd_T52 l0 aa).f2))) (ds := []) #[ff, ff, ff, ff, ff, ff, ff, ff, ff, ff, ff] (by kernel_rfl) rfl rfl ⟨((HB.out.cell (World.block_lt_of_cell? w _ ad)).trans ad), ((HB.out.cell (World.block_lt_of_cell? w _ ac)).trans ac), ((HB.out.cell (World.block_lt_of_cell? w _ ab)).trans ab)⟩ (fun hHeld => ?_); refine with_tabW spec_l03Most.tab10 spec_l03Most.bits10 (fun HT_ HW_ => ?_)
                  generalize wc.drew = w41 at HB al am an hHeld ⊢
                  refine zu 1 (some 72) #[ff, tt, ff, ff, ff, ff, ff, ff, ff, ff, ff] (any_of HT_.out (by kernel_rfl)) ?_
                  refine zu 3 (some 74) #[ff, tt, ff, tt, ff, ff, ff, ff, ff, ff, ff] (any_of HT_.out (by kernel_rfl)) ?_
                  refine zu 4 (some 75) #[ff, tt, ff, tt, tt, ff, ff, ff, ff, ff, ff] (any_of HT_.out (by kernel_rfl)) ?_
                  refine zu 5 (some 76) #[ff, tt, ff, tt, tt, tt, ff, ff, ff, ff, ff] (any_of HT_.out (by kernel_rfl)) ?_
                  refine zu 6 (some 77) #[ff, tt, ff, tt, tt, tt, tt, ff, ff, ff, ff] (any_of HT_.out (by kernel_rfl)) ?_
                  refine zt 7 (some 78) #[ff, tt, ff, tt, tt, tt, tt, tt, ff, ff, ff] (take_ofW HT_.out HW_.out (by kernel_rfl)) hHeld ?_
                  refine join_ (σ := Value × Value × Value) 2 #[tt, tt, tt, tt, tt, tt, tt, tt, tt, ff, ff] (fun s_ => [(71, s_.1), (73, s_.2.1), (79, s_.2.2)]) (fun s_ w' => (w'.cell? (af.add ((aa).toNat * 3)) = some (.int .i64 ((rd_T52 l0 aa).f0)) ∧ w'.cell? ⟨(af.add ((aa).toNat * 3)).block, (af.add ((aa).toNat * 3)).off + 1, none⟩ = some (.int .i64 ((rd_T52 l0 aa).f1)) ∧ w'.cell? ⟨(af.add ((aa).toNat * 3)).block, (af.add ((aa).toNat * 3)).off + 2, none⟩ = some (.int .i64 ((rd_T52 l0 aa).f2))) ∧ (Kd.R (Kd.int .i64) 3 w' w.heap.size (fun k_ => some k_ ≠ (s_.2.2 : Value).ownBlock) s_.2.1 aA) ∧ (Kd.R (Kd.int .i64) 3 w' w.heap.size (fun k_ => some k_ ≠ (s_.2.1 : Value).ownBlock) s_.2.2 az) ∧ (Below w.heap.size w w')) ?_ ?_
                  rotate_left
                  ·intro hCont
                   refine two_ (i := 0) (j := 8) (Ni := some 71) (Nj := some 79) #[tt, tt, ff, tt, tt, tt, tt, tt, ff, ff, ff] #[ff, tt, ff, tt, tt, tt, tt, tt, tt, ff, ff] rfl rfl rfl rfl (two_of HT_.out (by kernel_rfl)) (by decide) (by decide) (fun K hK => ?_) (fun K hK => ?_)
                   ·skip
                    refine Kd.R_lit_step (Kd.int .i64) _ 3 ?hg (N := 71) ?hd (xs := ([] : List Int)) (inner := []) (ok := fun _ => True) (okp := fun _ => True) ?hr ?hp (fun _ hk => hk) trivial (Below.refl _ _) (Nat.le_refl _) (by simp) ?_; (case hd => rfl); (case hg => rfl); (case hr => first | (go_simp; done) | (go_simp; rfl)); (case hp => exact (Reps.none _ _))
                    intro ay w42 ho43 hb hg_ hnew_
                    clear hg_ hnew_
                    (first | rw [← Ny742.out] at ho43 | (simp only [Int.reduceToNat] at ho43; rw [← Ny742.out] at ho43))
                    have ai := zK (Kd.R_lower ho43 (below_size (zb HB)))
                    have ak := zK (below_step (zb HB) hb)
                    clear HB; have aj := ai; have HB := ak; clear ai ak hb ho43
                    refine hK.out _ _ ⟨((HB.out.cell (World.block_lt_of_cell? w _ ad)).trans ad), ((HB.out.cell (World.block_lt_of_cell? w _ ac)).trans ac), ((HB.out.cell (World.block_lt_of_cell? w _ ab)).trans ab)⟩ (fun hHeld => ?_)
                    clear hK K
                    refine norm_ (a' := ?_) ?_ ?_
                    rotate_left
                    ·show Act.put _ (some 71) _ = _
                     simp only [Act.put, zp, zq, zr, i64_w, i32_w]
                     rfl
                    refine two_ (i := 2) (j := 8) (Ni := some 73) (Nj := some 79) #[tt, tt, tt, tt, tt, tt, tt, tt, ff, ff, ff] #[tt, tt, ff, tt, tt, tt, tt, tt, tt, ff, ff] rfl rfl rfl rfl (two_of HT_.out (by kernel_rfl)) (by decide) (by decide) (fun K hK => ?_) (fun K hK => ?_)
                    ·skip
                     refine Kd.R_append_rows_step (Kd.int .i64) (w0 := w) w.heap.size (by rfl) (.tmp 71) (.tmp 72) 29 3 (.int .i64 0) 8 rfl Try.underlying29 info3 rfl (by decide) (by omega) ay aC l3 _ _ _ (fun _ => True) (fun _ => False) rfl rfl ?aO ?aR (fun _ _ h => h) (fun _ h => h.elim) ?aF ?aB ?aS ?aL ?_
                     (case aR => repeat (first | exact (Kd.C_below a7.out HB.out) | (with_reducible refine Kd.C_alloc ?_ _) | (with_reducible refine Kd.C_drewN ?_ _) | (with_reducible refine Kd.C_drew ?_)))
                     (case aB => exact (zb HB))
                     (case aF => exact (fun _ _ => trivial))
                     (case aO => exact (zR aj))
                     (case aS => exact (below_size (zb HB)))
                     (case aL => have := aD.out; omega)
                     intro ax w44 ho hb hg hat
                     rw [← Ny745.out] at ho
                     have ai := zK (hb)
                     have ak := zK (ho)
                     clear HB aj; have HB := ai; have ah := ak; clear ai ak ho hb hg hat
                     refine hK.out _ _ ⟨((HB.out.cell (World.block_lt_of_cell? w _ ad)).trans ad), ((HB.out.cell (World.block_lt_of_cell? w _ ac)).trans ac), ((HB.out.cell (World.block_lt_of_cell? w _ ab)).trans ab)⟩ (fun hHeld => ?_)
                     clear hK K
                     refine norm_ (a' := ?_) ?_ ?_
                     rotate_left
                     ·show Act.put _ (some 73) _ = _
                      simp only [Act.put, zp, zq, zr, i64_w, i32_w]
                      rfl
                     refine one_ (i := 8) (N := some 79) #[tt, tt, tt, tt, tt, tt, tt, tt, tt, ff, ff] rfl rfl (one_of HT_.out (by kernel_rfl)) (by decide) (fun K hK => ?_)
                     refine Kd.R_lit_step (Kd.int .i64) _ 3 ?hg (N := 79) ?hd (xs := ([(rd_T52 l0 aa).f0] : List Int)) (inner := [.int .i64 ((rd_T52 l0 aa).f0)]) (ok := fun _ => True) (okp := fun _ => True) ?hr ?hp (fun _ hk => hk) trivial (Below.refl _ _) (Nat.le_refl _) (by simp) ?_; (case hd => rfl); (case hg => rfl); (case hr => first | (go_simp; done) | (go_simp; rfl)); (case hp => exact (Reps.one (show Kd.M (Kd.int .i64) _ _ _ ((rd_T52 l0 aa).f0) [.int .i64 ((rd_T52 l0 aa).f0)] from rfl) (Reps.none _ _)))
                     intro aq w45 ho46 hb hg_ hnew_
                     clear hg_ hnew_
                     (first | rw [← Ny749.out] at ho46 | (simp only [Int.reduceToNat] at ho46; rw [← Ny749.out] at ho46))
                     have ai := zK (Kd.R_elder' (zR ah) (Kd.R_base ho46) hb)
                     have ak := zK (Kd.R_lower (Kd.R_new' ho46 (Kd.R_lt (zR ah))) (below_size (zb HB)))
                     have ao := zK (below_step (zb HB) hb)
                     clear ah HB; have ah := ai; have ae := ak; have HB := ao; clear ai ak ao hb ho46
                     refine hK.out _ _ ⟨((HB.out.cell (World.block_lt_of_cell? w _ ad)).trans ad), ((HB.out.cell (World.block_lt_of_cell? w _ ac)).trans ac), ((HB.out.cell (World.block_lt_of_cell? w _ ab)).trans ab)⟩ (fun hHeld => ?_)
                     clear hK K
                     refine norm_ (a' := ?_) ?_ ?_
                     rotate_left
                     ·show Act.put _ (some 79) _ = _
                      simp only [Act.put, zp, zq, zr, i64_w, i32_w]
                      rfl
                     exact norm_ (by simp only [putAll, Act.put, List.setIfInBounds_toArray, List.set_cons_zero, List.set_cons_succ]) (hCont (ay, ax, aq) _ ⟨hHeld, (by (with_reducible repeat (first | apply Kd.R_alloc | apply Kd.R_drewN | apply Kd.R_drew)); exact Kd.R_mono ah.out (fun _ hk => hk.2)), (by (with_reducible repeat (first | apply Kd.R_alloc | apply Kd.R_drewN | apply Kd.R_drew)); exact Kd.R_mono ae.out (fun _ hk => hk.2)), (zb HB)⟩)
                    ·skip
                     refine Kd.R_lit_step (Kd.int .i64) _ 3 ?hg (N := 79) ?hd (xs := ([(rd_T52 l0 aa).f0] : List Int)) (inner := [.int .i64 ((rd_T52 l0 aa).f0)]) (ok := fun _ => True) (okp := fun _ => True) ?hr ?hp (fun _ hk => hk) trivial (Below.refl _ _) (Nat.le_refl _) (by simp) ?_; (case hd => rfl); (case hg => rfl); (case hr => first | (go_simp; done) | (go_simp; rfl)); (case hp => exact (Reps.one (show Kd.M (Kd.int .i64) _ _ _ ((rd_T52 l0 aa).f0) [.int .i64 ((rd_T52 l0 aa).f0)] from rfl) (Reps.none _ _)))
                     intro aq w44 ho45 hb hg_ hnew_
                     clear hg_ hnew_
                     (first | rw [← Ny749.out] at ho45 | (simp only [Int.reduceToNat] at ho45; rw [← Ny749.out] at ho45))
                     have ai := zK (Kd.R_elder' (zR aj) (Kd.R_base ho45) hb)
                     have ak := zK (Kd.R_lower (Kd.R_new' ho45 (Kd.R_lt (zR aj))) (below_size (zb HB)))
                     have ao := zK (below_step (zb HB) hb)
                     clear aj HB; have aj := ai; have ae := ak; have HB := ao; clear ai ak ao hb ho45
                     refine hK.out _ _ ⟨((HB.out.cell (World.block_lt_of_cell? w _ ad)).trans ad), ((HB.out.cell (World.block_lt_of_cell? w _ ac)).trans ac), ((HB.out.cell (World.block_lt_of_cell? w _ ab)).trans ab)⟩ (fun hHeld => ?_)
                     clear hK K
                     refine norm_ (a' := ?_) ?_ ?_
                     rotate_left
                     ·show Act.put _ (some 79) _ = _
                      simp only [Act.put, zp, zq, zr, i64_w, i32_w]
                      rfl
                     refine one_ (i := 2) (N := some 73) #[tt, tt, tt, tt, tt, tt, tt, tt, tt, ff, ff] rfl rfl (one_of HT_.out (by kernel_rfl)) (by decide) (fun K hK => ?_)
                     refine Kd.R_append_rows_step (Kd.int .i64) (w0 := w) w.heap.size (by rfl) (.tmp 71) (.tmp 72) 29 3 (.int .i64 0) 8 rfl Try.underlying29 info3 rfl (by decide) (by omega) ay aC l3 _ _ _ (fun k_ => some k_ ≠ (aq : Value).ownBlock) (fun _ => False) rfl rfl ?aO ?aR (fun _ _ h => h) (fun _ h => h.elim) ?aF ?aB ?aS ?aL ?_
                     (case aR => repeat (first | exact (Kd.C_below a7.out HB.out) | (with_reducible refine Kd.C_alloc ?_ _) | (with_reducible refine Kd.C_drewN ?_ _) | (with_reducible refine Kd.C_drew ?_)))
                     (case aB => exact (zb HB))
                     (case aF => exact (fun k_ hk => Kd.fresh' (Kd.R_lt (zR ae)) k_ hk))
                     (case aO => exact (by (with_reducible repeat (first | apply Kd.R_alloc | apply Kd.R_drewN | apply Kd.R_drew)); exact Kd.R_mono aj.out (fun _ hk => hk.2)))
                     (case aS => exact (below_size (zb HB)))
                     (case aL => have := aD.out; omega)
                     intro ax w46 ho hb hg hat
                     rw [← Ny745.out] at ho
                     have ai := zK (Kd.R_after (ok := (fun _ => True)) (zR ae) hg hat)
                     have ak := zK (hb)
                     have ao := zK (ho)
                     clear ae HB aj; have ae := ai; have HB := ak; have ah := ao; clear ai ak ao ho hb hg hat
                     refine hK.out _ _ ⟨((HB.out.cell (World.block_lt_of_cell? w _ ad)).trans ad), ((HB.out.cell (World.block_lt_of_cell? w _ ac)).trans ac), ((HB.out.cell (World.block_lt_of_cell? w _ ab)).trans ab)⟩ (fun hHeld => ?_)
                     clear hK K
                     refine norm_ (a' := ?_) ?_ ?_
                     rotate_left
                     ·show Act.put _ (some 73) _ = _
                      simp only [Act.put, zp, zq, zr, i64_w, i32_w]
                      rfl
                     exact norm_ (by simp only [putAll, Act.put, List.setIfInBounds_toArray, List.set_cons_zero, List.set_cons_succ]) (hCont (ay, ax, aq) _ ⟨hHeld, (zR ah), (by (with_reducible repeat (first | apply Kd.R_alloc | apply Kd.R_drewN | apply Kd.R_drew)); exact Kd.R_mono ae.out (fun _ hk => hk.2)), (zb HB)⟩)
                   ·skip
                    refine Kd.R_lit_step (Kd.int .i64) _ 3 ?hg (N := 79) ?hd (xs := ([(rd_T52 l0 aa).f0] : List Int)) (inner := [.int .i64 ((rd_T52 l0 aa).f0)]) (ok := fun _ => True) (okp := fun _ => True) ?hr ?hp (fun _ hk => hk) trivial (Below.refl _ _) (Nat.le_refl _) (by simp) ?_; (case hd => rfl); (case hg => rfl); (case hr => first | (go_simp; done) | (go_simp; rfl)); (case hp => exact (Reps.one (show Kd.M (Kd.int .i64) _ _ _ ((rd_T52 l0 aa).f0) [.int .i64 ((rd_T52 l0 aa).f0)] from rfl) (Reps.none _ _)))
                    intro aq w42 ho43 hb hg_ hnew_
                    clear hg_ hnew_
                    (first | rw [← Ny749.out] at ho43 | (simp only [Int.reduceToNat] at ho43; rw [← Ny749.out] at ho43))
                    have ai := zK (Kd.R_lower ho43 (below_size (zb HB)))
                    have ak := zK (below_step (zb HB) hb)
                    clear HB; have ae := ai; have HB := ak; clear ai ak hb ho43
                    refine hK.out _ _ ⟨((HB.out.cell (World.block_lt_of_cell? w _ ad)).trans ad), ((HB.out.cell (World.block_lt_of_cell? w _ ac)).trans ac), ((HB.out.cell (World.block_lt_of_cell? w _ ab)).trans ab)⟩ (fun hHeld => ?_)
                    clear hK K
                    refine norm_ (a' := ?_) ?_ ?_
                    rotate_left
                    ·show Act.put _ (some 79) _ = _
                     simp only [Act.put, zp, zq, zr, i64_w, i32_w]
                     rfl
                    refine one_ (i := 0) (N := some 71) #[tt, tt, ff, tt, tt, tt, tt, tt, tt, ff, ff] rfl rfl (one_of HT_.out (by kernel_rfl)) (by decide) (fun K hK => ?_)
                    refine Kd.R_lit_step (Kd.int .i64) _ 3 ?hg (N := 71) ?hd (xs := ([] : List Int)) (inner := []) (ok := fun _ => True) (okp := fun _ => True) ?hr ?hp (fun _ hk => hk) trivial (Below.refl _ _) (Nat.le_refl _) (by simp) ?_; (case hd => rfl); (case hg => rfl); (case hr => first | (go_simp; done) | (go_simp; rfl)); (case hp => exact (Reps.none _ _))
                    intro ay w44 ho45 hb hg_ hnew_
                    clear hg_ hnew_
                    (first | rw [← Ny742.out] at ho45 | (simp only [Int.reduceToNat] at ho45; rw [← Ny742.out] at ho45))
                    have ai := zK (Kd.R_elder' (zR ae) (Kd.R_base ho45) hb)
                    have ak := zK (Kd.R_lower (Kd.R_new' ho45 (Kd.R_lt (zR ae))) (below_size (zb HB)))
                    have ao := zK (below_step (zb HB) hb)
                    clear ae HB; have ae := ai; have aj := ak; have HB := ao; clear ai ak ao hb ho45
                    refine hK.out _ _ ⟨((HB.out.cell (World.block_lt_of_cell? w _ ad)).trans ad), ((HB.out.cell (World.block_lt_of_cell? w _ ac)).trans ac), ((HB.out.cell (World.block_lt_of_cell? w _ ab)).trans ab)⟩ (fun hHeld => ?_)
                    clear hK K
                    refine norm_ (a' := ?_) ?_ ?_
                    rotate_left
                    ·show Act.put _ (some 71) _ = _
                     simp only [Act.put, zp, zq, zr, i64_w, i32_w]
                     rfl
                    refine one_ (i := 2) (N := some 73) #[tt, tt, tt, tt, tt, tt, tt, tt, tt, ff, ff] rfl rfl (one_of HT_.out (by kernel_rfl)) (by decide) (fun K hK => ?_)
                    refine Kd.R_append_rows_step (Kd.int .i64) (w0 := w) w.heap.size (by rfl) (.tmp 71) (.tmp 72) 29 3 (.int .i64 0) 8 rfl Try.underlying29 info3 rfl (by decide) (by omega) ay aC l3 _ _ _ (fun k_ => some k_ ≠ (aq : Value).ownBlock) (fun _ => False) rfl rfl ?aO ?aR (fun _ _ h => h) (fun _ h => h.elim) ?aF ?aB ?aS ?aL ?_
                    (case aR => repeat (first | exact (Kd.C_below a7.out HB.out) | (with_reducible refine Kd.C_alloc ?_ _) | (with_reducible refine Kd.C_drewN ?_ _) | (with_reducible refine Kd.C_drew ?_)))
                    (case aB => exact (zb HB))
                    (case aF => exact (fun k_ hk => Kd.fresh' (Kd.R_lt (zR ae)) k_ hk))
                    (case aO => exact (by (with_reducible repeat (first | apply Kd.R_alloc | apply Kd.R_drewN | apply Kd.R_drew)); exact Kd.R_mono aj.out (fun _ hk => hk.2)))
                    (case aS => exact (below_size (zb HB)))
                    (case aL => have := aD.out; omega)
                    intro ax w46 ho hb hg hat
                    rw [← Ny745.out] at ho
                    have ai := zK (Kd.R_after (ok := (fun _ => True)) (zR ae) hg hat)
                    have ak := zK (hb)
                    have ao := zK (ho)
                    clear ae HB aj; have ae := ai; have HB := ak; have ah := ao; clear ai ak ao ho hb hg hat
                    refine hK.out _ _ ⟨((HB.out.cell (World.block_lt_of_cell? w _ ad)).trans ad), ((HB.out.cell (World.block_lt_of_cell? w _ ac)).trans ac), ((HB.out.cell (World.block_lt_of_cell? w _ ab)).trans ab)⟩ (fun hHeld => ?_)
                    clear hK K
                    refine norm_ (a' := ?_) ?_ ?_
                    rotate_left
                    ·show Act.put _ (some 73) _ = _
                     simp only [Act.put, zp, zq, zr, i64_w, i32_w]
                     rfl
                    exact norm_ (by simp only [putAll, Act.put, List.setIfInBounds_toArray, List.set_cons_zero, List.set_cons_succ]) (hCont (ay, ax, aq) _ ⟨hHeld, (zR ah), (by (with_reducible repeat (first | apply Kd.R_alloc | apply Kd.R_drewN | apply Kd.R_drew)); exact Kd.R_mono ae.out (fun _ hk => hk.2)), (zb HB)⟩)
                  rintro ⟨ay, ax, aq⟩ bx ⟨hS_, h0_, h1_, h2_⟩
                  have ai : Aside0 (Kd.R (Kd.int .i64) 3 bx w.heap.size (fun k_ => some k_ ≠ (aq : Value).ownBlock) ax aA) := ⟨h0_⟩
                  have ak : Aside0 (Kd.R (Kd.int .i64) 3 bx w.heap.size (fun k_ => some k_ ≠ (ax : Value).ownBlock) aq az) := ⟨h1_⟩
                  have ao : Aside0 (Below w.heap.size w bx) := ⟨h2_⟩
                  clear HB h0_ h1_ h2_; have ah := ai; have ae := ak; have HB := ao; clear ai ak ao
                  have hHeld : bx.cell? (af.add ((aa).toNat * 3)) = some (.int .i64 ((rd_T52 l0 aa).f0)) ∧ bx.cell? ⟨(af.add ((aa).toNat * 3)).block, (af.add ((aa).toNat * 3)).off + 1, none⟩ = some (.int .i64 ((rd_T52 l0 aa).f1)) ∧ bx.cell? ⟨(af.add ((aa).toNat * 3)).block, (af.add ((aa).toNat * 3)).off + 2, none⟩ = some (.int .i64 ((rd_T52 l0 aa).f2)) := hS_
                  obtain ⟨Ao49, co49, bN⟩ := Kd.R_slice ae.out
                  (first | subst bN | (injection bN with f1_ f2_ f3_; have f4_ := f1_.symm; have f5_ := f3_.symm; clear f1_ f2_ f3_; subst f4_; subst f5_))
                  refine norm_ (a' := ?_) ?_ ?_
                  rotate_left
                  ·simp only [putAll, Act.put, List.setIfInBounds_toArray, List.set_cons_zero, List.set_cons_succ]
                   rfl
                  refine one_ (i := 9) (N := some 80) #[tt, tt, tt, tt, tt, tt, tt, tt, tt, tt, ff] rfl rfl (one_of HT_.out (by kernel_rfl)) (by decide) (fun K hK => ?_)
                  refine Kd.R_append_rows_step (Kd.int .i64) (w0 := w) w.heap.size (by rfl) (.tmp 73) (.tmp 79) 29 3 (.int .i64 0) 8 rfl Try.underlying29 info3 rfl (by decide) (by omega) ax aA az _ _ _ (fun k_ => some k_ ≠ (.slice Ao49 az.length co49 : Value).ownBlock) (fun _ => False) rfl rfl ?aO ?aR (fun _ _ h => h) (fun _ h => h.elim) ?aF ?aB ?aS ?aL ?_
                  (case aR => repeat (first | exact (Kd.R_reads' ae.out).2.2 | (with_reducible refine Kd.C_alloc ?_ _) | (with_reducible refine Kd.C_drewN ?_ _) | (with_reducible refine Kd.C_drew ?_)))
                  (case aB => exact (zb HB))
                  (case aF => exact (fun k_ hk => Kd.fresh' (Kd.R_lt (zR ae)) k_ hk))
                  (case aO => exact (zR ah))
                  (case aS => exact (below_size (zb HB)))
                  (case aL => have := bf.out; omega)
                  intro bM w48 ho hb hg hat
                  rw [← Ny752.out] at ho
                  have ai := zK (Kd.R_after (ok := (fun _ => True)) (by (with_reducible repeat (first | apply Kd.R_alloc | apply Kd.R_drewN | apply Kd.R_drew)); exact Kd.R_mono ae.out (fun _ hk => ⟨trivial, hk⟩)) hg hat)
                  have ak := zK (hb)
                  have ao := zK (ho)
                  clear ae HB ah; have ae := ai; have HB := ak; have aw := ao; clear ai ak ao ho hb hg hat
                  refine hK.out _ _ ⟨((HB.out.cell (World.block_lt_of_cell? w _ ad)).trans ad), ((HB.out.cell (World.block_lt_of_cell? w _ ac)).trans ac), ((HB.out.cell (World.block_lt_of_cell? w _ ab)).trans ab)⟩ (fun hHeld => ?_)
                  clear hK K
                  refine norm_ (a' := ?_) ?_ ?_
                  rotate_left
                  ·show Act.put _ (some 80) _ = _
                   simp only [Act.put, zp, zq, zr, i64_w, i32_w]
                   rfl
                  refine zu 10 (some 15) #[tt, tt, tt, tt, tt, tt, tt, tt, tt, tt, tt] (any_of HT_.out (by kernel_rfl)) ?_
                  refine done_ (done_of HT_.out (by kernel_rfl)) ?_
                  obtain ⟨Ao50, co50, eo50⟩ := Kd.R_slice aw.out
                  subst eo50
                  try go_wp2_with (first | ((with_reducible refine gate_callee (f := 86) rfl ?_); refine goesL_ (some 88) rfl rfl Try.func86 (by kernel_rfl) rfl #[.slice (some af) l0.length c0, .slice A1 l1.length c1, .int .i64 (wrap64 (a2 + 1)), .slice Ao50 a1.length co50, .int .i64 a4, .int .i64 a5] rfl (by (try simp only [List.map_toArray, List.map_cons, List.map_nil]); first | done | rfl | (simp only [List.length_drop, List.length_take]; rfl)) ?_; (with_reducible refine (ih kj14 (by have := aT.out; have := aZ.out; have := a0.out; have := aK.out; omega) _ _ l0 _ _ l1 (wrap64 (a2 + 1)) _ _ a1 a4 a5 ap _ ?side1 ?side2 ?side3 ?side4 ?side5 ?side6 A27.out).mono ?_); (case side1 => repeat (first | exact (Kd.C_below aY.out HB.out) | (with_reducible refine Kd.C_alloc ?_ _) | (with_reducible refine Kd.C_drewN ?_ _) | (with_reducible refine Kd.C_drew ?_))); (case side2 => exact bj.out); (case side3 => repeat (first | exact (Kd.C_below bk.out HB.out) | (with_reducible refine Kd.C_alloc ?_ _) | (with_reducible refine Kd.C_drewN ?_ _) | (with_reducible refine Kd.C_drew ?_))); (case side4 => exact bl.out); (case side5 => repeat (first | exact (Kd.R_reads' aw.out).2.2 | (with_reducible refine Kd.C_alloc ?_ _) | (with_reducible refine Kd.C_drewN ?_ _) | (with_reducible refine Kd.C_drew ?_))); (case side6 => exact (Kd.R_reads' aw.out).2.1); rintro e w51 ⟨rfl, hb⟩; refine ⟨_, rfl, ?_⟩; have ai := zK (Kd.R_below (zR ae) hb); have ak := zK (Kd.R_below (zR aw) hb); have ao := zK (below_step (zb HB) hb); clear ae; clear aw; clear HB; have ae := ai; have aw := ak; have HB := ao; clear ai ak ao; (try clear hb)))
                  go_roundg kj14
                  case measure => have := aT.out; have := aZ.out; have := a0.out; have := aK.out; omega
                  case rel => exact ⟨(ag), (wrap64 (aa + 1)), (by first | rfl | (simp; done) | (simp [*]; done)), (by first | rfl | (simp; done) | (simp [*]; done)), H', ⟨by have := aT.out; have := aZ.out; have := a0.out; have := aK.out; omega⟩, ⟨zb HB⟩⟩
                ·rw [if_neg bu] at H
                 have bJ : decide (0 ≤ ap) = false := decide_eq_false bu
                 clear bu; have H' := zK H; clear H
                 try go_wp2
                 have ai := zK (zE HB.out)
                 clear HB; have HB := ai; clear ai
                 have aM : 0 ≤ (aa : Int) := of_decide_eq_true (by first | (with_reducible assumption) | assumption)
                 have aN : aa < (l0.length : Int) := of_decide_eq_true (by first | (with_reducible assumption) | assumption)
                 obtain ⟨af, bg, al, am, an⟩ := at_T52 aY.out aa aM aN
                 have ab := an; have ac := am; have ad := al
                 cases bg
                 replace al := (HB.out.cell (World.block_lt_of_cell? w _ al)).trans al
                 replace am := (HB.out.cell (World.block_lt_of_cell? w _ am)).trans am
                 replace an := (HB.out.cell (World.block_lt_of_cell? w _ an)).trans an
                 replace aM := eq_true aM; replace aN := eq_true aN
                 refine start_ (n := 11) (S := fun w' => w'.cell? (af.add ((aa).toNat * 3)) = some (.int .i64 ((rd_T52 l0 aa).f0)) ∧ w'.cell? ⟨(af.add ((aa).toNat * 3)).block, (af.add ((aa).toNat * 3)).off + 1, none⟩ = some (.int .i64 ((rd_T52 l0 aa).f1)) ∧ w'.cell? ⟨(af.add ((aa).toNat * 3)).block, (af.add ((aa).toNat * 3)).off + 2, none⟩ = some (.int .i64 ((rd_T52 l0 aa).f2))) (ds := []) #[ff, ff, ff, ff, ff, ff, ff, ff, ff, ff, ff] (by kernel_rfl) rfl rfl ⟨((HB.out.cell (World.block_lt_of_cell? w _ ad)).trans ad), ((HB.out.cell (World.block_lt_of_cell? w _ ac)).trans ac), ((HB.out.cell (World.block_lt_of_cell? w _ ab)).trans ab)⟩ (fun hHeld => ?_); refine with_tabW spec_l03Most.tab10 spec_l03Most.bits10 (fun HT_ HW_ => ?_)
                 generalize wc.drew = w52 at HB al am an hHeld ⊢
                 refine zu 1 (some 72) #[ff, tt, ff, ff, ff, ff, ff, ff, ff, ff, ff] (any_of HT_.out (by kernel_rfl)) ?_
                 refine zu 3 (some 74) #[ff, tt, ff, tt, ff, ff, ff, ff, ff, ff, ff] (any_of HT_.out (by kernel_rfl)) ?_
                 refine zu 4 (some 75) #[ff, tt, ff, tt, tt, ff, ff, ff, ff, ff, ff] (any_of HT_.out (by kernel_rfl)) ?_
                 refine zu 5 (some 76) #[ff, tt, ff, tt, tt, tt, ff, ff, ff, ff, ff] (any_of HT_.out (by kernel_rfl)) ?_
                 refine zu 6 (some 77) #[ff, tt, ff, tt, tt, tt, tt, ff, ff, ff, ff] (any_of HT_.out (by kernel_rfl)) ?_
                 refine zt 7 (some 78) #[ff, tt, ff, tt, tt, tt, tt, tt, ff, ff, ff] (take_ofW HT_.out HW_.out (by kernel_rfl)) hHeld ?_
                 refine join_ (σ := Value × Value × Value) 2 #[tt, tt, tt, tt, tt, tt, tt, tt, tt, ff, ff] (fun s_ => [(71, s_.1), (73, s_.2.1), (79, s_.2.2)]) (fun s_ w' => (w'.cell? (af.add ((aa).toNat * 3)) = some (.int .i64 ((rd_T52 l0 aa).f0)) ∧ w'.cell? ⟨(af.add ((aa).toNat * 3)).block, (af.add ((aa).toNat * 3)).off + 1, none⟩ = some (.int .i64 ((rd_T52 l0 aa).f1)) ∧ w'.cell? ⟨(af.add ((aa).toNat * 3)).block, (af.add ((aa).toNat * 3)).off + 2, none⟩ = some (.int .i64 ((rd_T52 l0 aa).f2))) ∧ (Kd.R (Kd.int .i64) 3 w' w.heap.size (fun k_ => some k_ ≠ (s_.2.2 : Value).ownBlock) s_.2.1 aA) ∧ (Kd.R (Kd.int .i64) 3 w' w.heap.size (fun k_ => some k_ ≠ (s_.2.1 : Value).ownBlock) s_.2.2 az) ∧ (Below w.heap.size w w')) ?_ ?_
                 rotate_left
                 ·intro hCont
                  refine two_ (i := 0) (j := 8) (Ni := some 71) (Nj := some 79) #[tt, tt, ff, tt, tt, tt, tt, tt, ff, ff, ff] #[ff, tt, ff, tt, tt, tt, tt, tt, tt, ff, ff] rfl rfl rfl rfl (two_of HT_.out (by kernel_rfl)) (by decide) (by decide) (fun K hK => ?_) (fun K hK => ?_)
                  ·skip
                   refine Kd.R_lit_step (Kd.int .i64) _ 3 ?hg (N := 71) ?hd (xs := ([] : List Int)) (inner := []) (ok := fun _ => True) (okp := fun _ => True) ?hr ?hp (fun _ hk => hk) trivial (Below.refl _ _) (Nat.le_refl _) (by simp) ?_; (case hd => rfl); (case hg => rfl); (case hr => first | (go_simp; done) | (go_simp; rfl)); (case hp => exact (Reps.none _ _))
                   intro ay w53 ho54 hb hg_ hnew_
                   clear hg_ hnew_
                   (first | rw [← Ny742.out] at ho54 | (simp only [Int.reduceToNat] at ho54; rw [← Ny742.out] at ho54))
                   have ai := zK (Kd.R_lower ho54 (below_size (zb HB)))
                   have ak := zK (below_step (zb HB) hb)
                   clear HB; have aj := ai; have HB := ak; clear ai ak hb ho54
                   refine hK.out _ _ ⟨((HB.out.cell (World.block_lt_of_cell? w _ ad)).trans ad), ((HB.out.cell (World.block_lt_of_cell? w _ ac)).trans ac), ((HB.out.cell (World.block_lt_of_cell? w _ ab)).trans ab)⟩ (fun hHeld => ?_)
                   clear hK K
                   refine norm_ (a' := ?_) ?_ ?_
                   rotate_left
                   ·show Act.put _ (some 71) _ = _
                    simp only [Act.put, zp, zq, zr, i64_w, i32_w]
                    rfl
                   refine two_ (i := 2) (j := 8) (Ni := some 73) (Nj := some 79) #[tt, tt, tt, tt, tt, tt, tt, tt, ff, ff, ff] #[tt, tt, ff, tt, tt, tt, tt, tt, tt, ff, ff] rfl rfl rfl rfl (two_of HT_.out (by kernel_rfl)) (by decide) (by decide) (fun K hK => ?_) (fun K hK => ?_)
                   ·skip
                    refine Kd.R_append_rows_step (Kd.int .i64) (w0 := w) w.heap.size (by rfl) (.tmp 71) (.tmp 72) 29 3 (.int .i64 0) 8 rfl Try.underlying29 info3 rfl (by decide) (by omega) ay aC l3 _ _ _ (fun _ => True) (fun _ => False) rfl rfl ?aO ?aR (fun _ _ h => h) (fun _ h => h.elim) ?aF ?aB ?aS ?aL ?_
                    (case aR => repeat (first | exact (Kd.C_below a7.out HB.out) | (with_reducible refine Kd.C_alloc ?_ _) | (with_reducible refine Kd.C_drewN ?_ _) | (with_reducible refine Kd.C_drew ?_)))
                    (case aB => exact (zb HB))
                    (case aF => exact (fun _ _ => trivial))
                    (case aO => exact (zR aj))
                    (case aS => exact (below_size (zb HB)))
                    (case aL => have := aD.out; omega)
                    intro ax w55 ho hb hg hat
                    rw [← Ny745.out] at ho
                    have ai := zK (hb)
                    have ak := zK (ho)
                    clear HB aj; have HB := ai; have ah := ak; clear ai ak ho hb hg hat
                    refine hK.out _ _ ⟨((HB.out.cell (World.block_lt_of_cell? w _ ad)).trans ad), ((HB.out.cell (World.block_lt_of_cell? w _ ac)).trans ac), ((HB.out.cell (World.block_lt_of_cell? w _ ab)).trans ab)⟩ (fun hHeld => ?_)
                    clear hK K
                    refine norm_ (a' := ?_) ?_ ?_
                    rotate_left
                    ·show Act.put _ (some 73) _ = _
                     simp only [Act.put, zp, zq, zr, i64_w, i32_w]
                     rfl
                    refine one_ (i := 8) (N := some 79) #[tt, tt, tt, tt, tt, tt, tt, tt, tt, ff, ff] rfl rfl (one_of HT_.out (by kernel_rfl)) (by decide) (fun K hK => ?_)
                    refine Kd.R_lit_step (Kd.int .i64) _ 3 ?hg (N := 79) ?hd (xs := ([(rd_T52 l0 aa).f0] : List Int)) (inner := [.int .i64 ((rd_T52 l0 aa).f0)]) (ok := fun _ => True) (okp := fun _ => True) ?hr ?hp (fun _ hk => hk) trivial (Below.refl _ _) (Nat.le_refl _) (by simp) ?_; (case hd => rfl); (case hg => rfl); (case hr => first | (go_simp; done) | (go_simp; rfl)); (case hp => exact (Reps.one (show Kd.M (Kd.int .i64) _ _ _ ((rd_T52 l0 aa).f0) [.int .i64 ((rd_T52 l0 aa).f0)] from rfl) (Reps.none _ _)))
                    intro aq w56 ho57 hb hg_ hnew_
                    clear hg_ hnew_
                    (first | rw [← Ny749.out] at ho57 | (simp only [Int.reduceToNat] at ho57; rw [← Ny749.out] at ho57))
                    have ai := zK (Kd.R_elder' (zR ah) (Kd.R_base ho57) hb)
                    have ak := zK (Kd.R_lower (Kd.R_new' ho57 (Kd.R_lt (zR ah))) (below_size (zb HB)))
                    have ao := zK (below_step (zb HB) hb)
                    clear ah HB; have ah := ai; have ae := ak; have HB := ao; clear ai ak ao hb ho57
                    refine hK.out _ _ ⟨((HB.out.cell (World.block_lt_of_cell? w _ ad)).trans ad), ((HB.out.cell (World.block_lt_of_cell? w _ ac)).trans ac), ((HB.out.cell (World.block_lt_of_cell? w _ ab)).trans ab)⟩ (fun hHeld => ?_)
                    clear hK K
                    refine norm_ (a' := ?_) ?_ ?_
                    rotate_left
                    ·show Act.put _ (some 79) _ = _
                     simp only [Act.put, zp, zq, zr, i64_w, i32_w]
                     rfl
                    exact norm_ (by simp only [putAll, Act.put, List.setIfInBounds_toArray, List.set_cons_zero, List.set_cons_succ]) (hCont (ay, ax, aq) _ ⟨hHeld, (by (with_reducible repeat (first | apply Kd.R_alloc | apply Kd.R_drewN | apply Kd.R_drew)); exact Kd.R_mono ah.out (fun _ hk => hk.2)), (by (with_reducible repeat (first | apply Kd.R_alloc | apply Kd.R_drewN | apply Kd.R_drew)); exact Kd.R_mono ae.out (fun _ hk => hk.2)), (zb HB)⟩)
                   ·skip
                    refine Kd.R_lit_step (Kd.int .i64) _ 3 ?hg (N := 79) ?hd (xs := ([(rd_T52 l0 aa).f0] : List Int)) (inner := [.int .i64 ((rd_T52 l0 aa).f0)]) (ok := fun _ => True) (okp := fun _ => True) ?hr ?hp (fun _ hk => hk) trivial (Below.refl _ _) (Nat.le_refl _) (by simp) ?_; (case hd => rfl); (case hg => rfl); (case hr => first | (go_simp; done) | (go_simp; rfl)); (case hp => exact (Reps.one (show Kd.M (Kd.int .i64) _ _ _ ((rd_T52 l0 aa).f0) [.int .i64 ((rd_T52 l0 aa).f0)] from rfl) (Reps.none _ _)))
                    intro aq w55 ho56 hb hg_ hnew_
                    clear hg_ hnew_
                    (first | rw [← Ny749.out] at ho56 | (simp only [Int.reduceToNat] at ho56; rw [← Ny749.out] at ho56))
                    have ai := zK (Kd.R_elder' (zR aj) (Kd.R_base ho56) hb)
                    have ak := zK (Kd.R_lower (Kd.R_new' ho56 (Kd.R_lt (zR aj))) (below_size (zb HB)))
                    have ao := zK (below_step (zb HB) hb)
                    clear aj HB; have aj := ai; have ae := ak; have HB := ao; clear ai ak ao hb ho56
                    refine hK.out _ _ ⟨((HB.out.cell (World.block_lt_of_cell? w _ ad)).trans ad), ((HB.out.cell (World.block_lt_of_cell? w _ ac)).trans ac), ((HB.out.cell (World.block_lt_of_cell? w _ ab)).trans ab)⟩ (fun hHeld => ?_)
                    clear hK K
                    refine norm_ (a' := ?_) ?_ ?_
                    rotate_left
                    ·show Act.put _ (some 79) _ = _
                     simp only [Act.put, zp, zq, zr, i64_w, i32_w]
                     rfl
                    refine one_ (i := 2) (N := some 73) #[tt, tt, tt, tt, tt, tt, tt, tt, tt, ff, ff] rfl rfl (one_of HT_.out (by kernel_rfl)) (by decide) (fun K hK => ?_)
                    refine Kd.R_append_rows_step (Kd.int .i64) (w0 := w) w.heap.size (by rfl) (.tmp 71) (.tmp 72) 29 3 (.int .i64 0) 8 rfl Try.underlying29 info3 rfl (by decide) (by omega) ay aC l3 _ _ _ (fun k_ => some k_ ≠ (aq : Value).ownBlock) (fun _ => False) rfl rfl ?aO ?aR (fun _ _ h => h) (fun _ h => h.elim) ?aF ?aB ?aS ?aL ?_
                    (case aR => repeat (first | exact (Kd.C_below a7.out HB.out) | (with_reducible refine Kd.C_alloc ?_ _) | (with_reducible refine Kd.C_drewN ?_ _) | (with_reducible refine Kd.C_drew ?_)))
                    (case aB => exact (zb HB))
                    (case aF => exact (fun k_ hk => Kd.fresh' (Kd.R_lt (zR ae)) k_ hk))
                    (case aO => exact (by (with_reducible repeat (first | apply Kd.R_alloc | apply Kd.R_drewN | apply Kd.R_drew)); exact Kd.R_mono aj.out (fun _ hk => hk.2)))
                    (case aS => exact (below_size (zb HB)))
                    (case aL => have := aD.out; omega)
                    intro ax w57 ho hb hg hat
                    rw [← Ny745.out] at ho
                    have ai := zK (Kd.R_after (ok := (fun _ => True)) (zR ae) hg hat)
                    have ak := zK (hb)
                    have ao := zK (ho)
                    clear ae HB aj; have ae := ai; have HB := ak; have ah := ao; clear ai ak ao ho hb hg hat
                    refine hK.out _ _ ⟨((HB.out.cell (World.block_lt_of_cell? w _ ad)).trans ad), ((HB.out.cell (World.block_lt_of_cell? w _ ac)).trans ac), ((HB.out.cell (World.block_lt_of_cell? w _ ab)).trans ab)⟩ (fun hHeld => ?_)
                    clear hK K
                    refine norm_ (a' := ?_) ?_ ?_
                    rotate_left
                    ·show Act.put _ (some 73) _ = _
                     simp only [Act.put, zp, zq, zr, i64_w, i32_w]
                     rfl
                    exact norm_ (by simp only [putAll, Act.put, List.setIfInBounds_toArray, List.set_cons_zero, List.set_cons_succ]) (hCont (ay, ax, aq) _ ⟨hHeld, (zR ah), (by (with_reducible repeat (first | apply Kd.R_alloc | apply Kd.R_drewN | apply Kd.R_drew)); exact Kd.R_mono ae.out (fun _ hk => hk.2)), (zb HB)⟩)
                  ·skip
                   refine Kd.R_lit_step (Kd.int .i64) _ 3 ?hg (N := 79) ?hd (xs := ([(rd_T52 l0 aa).f0] : List Int)) (inner := [.int .i64 ((rd_T52 l0 aa).f0)]) (ok := fun _ => True) (okp := fun _ => True) ?hr ?hp (fun _ hk => hk) trivial (Below.refl _ _) (Nat.le_refl _) (by simp) ?_; (case hd => rfl); (case hg => rfl); (case hr => first | (go_simp; done) | (go_simp; rfl)); (case hp => exact (Reps.one (show Kd.M (Kd.int .i64) _ _ _ ((rd_T52 l0 aa).f0) [.int .i64 ((rd_T52 l0 aa).f0)] from rfl) (Reps.none _ _)))
                   intro aq w53 ho54 hb hg_ hnew_
                   clear hg_ hnew_
                   (first | rw [← Ny749.out] at ho54 | (simp only [Int.reduceToNat] at ho54; rw [← Ny749.out] at ho54))
                   have ai := zK (Kd.R_lower ho54 (below_size (zb HB)))
                   have ak := zK (below_step (zb HB) hb)
                   clear HB; have ae := ai; have HB := ak; clear ai ak hb ho54
                   refine hK.out _ _ ⟨((HB.out.cell (World.block_lt_of_cell? w _ ad)).trans ad), ((HB.out.cell (World.block_lt_of_cell? w _ ac)).trans ac), ((HB.out.cell (World.block_lt_of_cell? w _ ab)).trans ab)⟩ (fun hHeld => ?_)
                   clear hK K
                   refine norm_ (a' := ?_) ?_ ?_
                   rotate_left
                   ·show Act.put _ (some 79) _ = _
                    simp only [Act.put, zp, zq, zr, i64_w, i32_w]
                    rfl
                   refine one_ (i := 0) (N := some 71) #[tt, tt, ff, tt, tt, tt, tt, tt, tt, ff, ff] rfl rfl (one_of HT_.out (by kernel_rfl)) (by decide) (fun K hK => ?_)
                   refine Kd.R_lit_step (Kd.int .i64) _ 3 ?hg (N := 71) ?hd (xs := ([] : List Int)) (inner := []) (ok := fun _ => True) (okp := fun _ => True) ?hr ?hp (fun _ hk => hk) trivial (Below.refl _ _) (Nat.le_refl _) (by simp) ?_; (case hd => rfl); (case hg => rfl); (case hr => first | (go_simp; done) | (go_simp; rfl)); (case hp => exact (Reps.none _ _))
                   intro ay w55 ho56 hb hg_ hnew_
                   clear hg_ hnew_
                   (first | rw [← Ny742.out] at ho56 | (simp only [Int.reduceToNat] at ho56; rw [← Ny742.out] at ho56))
                   have ai := zK (Kd.R_elder' (zR ae) (Kd.R_base ho56) hb)
                   have ak := zK (Kd.R_lower (Kd.R_new' ho56 (Kd.R_lt (zR ae))) (below_size (zb HB)))
                   have ao := zK (below_step (zb HB) hb)
                   clear ae HB; have ae := ai; have aj := ak; have HB := ao; clear ai ak ao hb ho56
                   refine hK.out _ _ ⟨((HB.out.cell (World.block_lt_of_cell? w _ ad)).trans ad), ((HB.out.cell (World.block_lt_of_cell? w _ ac)).trans ac), ((HB.out.cell (World.block_lt_of_cell? w _ ab)).trans ab)⟩ (fun hHeld => ?_)
                   clear hK K
                   refine norm_ (a' := ?_) ?_ ?_
                   rotate_left
                   ·show Act.put _ (some 71) _ = _
                    simp only [Act.put, zp, zq, zr, i64_w, i32_w]
                    rfl
                   refine one_ (i := 2) (N := some 73) #[tt, tt, tt, tt, tt, tt, tt, tt, tt, ff, ff] rfl rfl (one_of HT_.out (by kernel_rfl)) (by decide) (fun K hK => ?_)
                   refine Kd.R_append_rows_step (Kd.int .i64) (w0 := w) w.heap.size (by rfl) (.tmp 71) (.tmp 72) 29 3 (.int .i64 0) 8 rfl Try.underlying29 info3 rfl (by decide) (by omega) ay aC l3 _ _ _ (fun k_ => some k_ ≠ (aq : Value).ownBlock) (fun _ => False) rfl rfl ?aO ?aR (fun _ _ h => h) (fun _ h => h.elim) ?aF ?aB ?aS ?aL ?_
                   (case aR => repeat (first | exact (Kd.C_below a7.out HB.out) | (with_reducible refine Kd.C_alloc ?_ _) | (with_reducible refine Kd.C_drewN ?_ _) | (with_reducible refine Kd.C_drew ?_)))
                   (case aB => exact (zb HB))
                   (case aF => exact (fun k_ hk => Kd.fresh' (Kd.R_lt (zR ae)) k_ hk))
                   (case aO => exact (by (with_reducible repeat (first | apply Kd.R_alloc | apply Kd.R_drewN | apply Kd.R_drew)); exact Kd.R_mono aj.out (fun _ hk => hk.2)))
                   (case aS => exact (below_size (zb HB)))
                   (case aL => have := aD.out; omega)
                   intro ax w57 ho hb hg hat
                   rw [← Ny745.out] at ho
                   have ai := zK (Kd.R_after (ok := (fun _ => True)) (zR ae) hg hat)
                   have ak := zK (hb)
                   have ao := zK (ho)
                   clear ae HB aj; have ae := ai; have HB := ak; have ah := ao; clear ai ak ao ho hb hg hat
                   refine hK.out _ _ ⟨((HB.out.cell (World.block_lt_of_cell? w _ ad)).trans ad), ((HB.out.cell (World.block_lt_of_cell? w _ ac)).trans ac), ((HB.out.cell (World.block_lt_of_cell? w _ ab)).trans ab)⟩ (fun hHeld => ?_)
                   clear hK K
                   refine norm_ (a' := ?_) ?_ ?_
                   rotate_left
                   ·show Act.put _ (some 73) _ = _
                    simp only [Act.put, zp, zq, zr, i64_w, i32_w]
                    rfl
                   exact norm_ (by simp only [putAll, Act.put, List.setIfInBounds_toArray, List.set_cons_zero, List.set_cons_succ]) (hCont (ay, ax, aq) _ ⟨hHeld, (zR ah), (by (with_reducible repeat (first | apply Kd.R_alloc | apply Kd.R_drewN | apply Kd.R_drew)); exact Kd.R_mono ae.out (fun _ hk => hk.2)), (zb HB)⟩)
                 rintro ⟨ay, ax, aq⟩ bz ⟨hS_, h0_, h1_, h2_⟩
                 have ai : Aside0 (Kd.R (Kd.int .i64) 3 bz w.heap.size (fun k_ => some k_ ≠ (aq : Value).ownBlock) ax aA) := ⟨h0_⟩
                 have ak : Aside0 (Kd.R (Kd.int .i64) 3 bz w.heap.size (fun k_ => some k_ ≠ (ax : Value).ownBlock) aq az) := ⟨h1_⟩
                 have ao : Aside0 (Below w.heap.size w bz) := ⟨h2_⟩
                 clear HB h0_ h1_ h2_; have ah := ai; have ae := ak; have HB := ao; clear ai ak ao
                 have hHeld : bz.cell? (af.add ((aa).toNat * 3)) = some (.int .i64 ((rd_T52 l0 aa).f0)) ∧ bz.cell? ⟨(af.add ((aa).toNat * 3)).block, (af.add ((aa).toNat * 3)).off + 1, none⟩ = some (.int .i64 ((rd_T52 l0 aa).f1)) ∧ bz.cell? ⟨(af.add ((aa).toNat * 3)).block, (af.add ((aa).toNat * 3)).off + 2, none⟩ = some (.int .i64 ((rd_T52 l0 aa).f2)) := hS_
                 obtain ⟨Ao60, co60, bO⟩ := Kd.R_slice ae.out
                 (first | subst bO | (injection bO with f1_ f2_ f3_; have f4_ := f1_.symm; have f5_ := f3_.symm; clear f1_ f2_ f3_; subst f4_; subst f5_))
                 refine norm_ (a' := ?_) ?_ ?_
                 rotate_left
                 ·simp only [putAll, Act.put, List.setIfInBounds_toArray, List.set_cons_zero, List.set_cons_succ]
                  rfl
                 refine one_ (i := 9) (N := some 80) #[tt, tt, tt, tt, tt, tt, tt, tt, tt, tt, ff] rfl rfl (one_of HT_.out (by kernel_rfl)) (by decide) (fun K hK => ?_)
                 refine Kd.R_append_rows_step (Kd.int .i64) (w0 := w) w.heap.size (by rfl) (.tmp 73) (.tmp 79) 29 3 (.int .i64 0) 8 rfl Try.underlying29 info3 rfl (by decide) (by omega) ax aA az _ _ _ (fun k_ => some k_ ≠ (.slice Ao60 az.length co60 : Value).ownBlock) (fun _ => False) rfl rfl ?aO ?aR (fun _ _ h => h) (fun _ h => h.elim) ?aF ?aB ?aS ?aL ?_
                 (case aR => repeat (first | exact (Kd.R_reads' ae.out).2.2 | (with_reducible refine Kd.C_alloc ?_ _) | (with_reducible refine Kd.C_drewN ?_ _) | (with_reducible refine Kd.C_drew ?_)))
                 (case aB => exact (zb HB))
                 (case aF => exact (fun k_ hk => Kd.fresh' (Kd.R_lt (zR ae)) k_ hk))
                 (case aO => exact (zR ah))
                 (case aS => exact (below_size (zb HB)))
                 (case aL => have := bf.out; omega)
                 intro bM w59 ho hb hg hat
                 rw [← Ny752.out] at ho
                 have ai := zK (Kd.R_after (ok := (fun _ => True)) (by (with_reducible repeat (first | apply Kd.R_alloc | apply Kd.R_drewN | apply Kd.R_drew)); exact Kd.R_mono ae.out (fun _ hk => ⟨trivial, hk⟩)) hg hat)
                 have ak := zK (hb)
                 have ao := zK (ho)
                 clear ae HB ah; have ae := ai; have HB := ak; have aw := ao; clear ai ak ao ho hb hg hat
                 refine hK.out _ _ ⟨((HB.out.cell (World.block_lt_of_cell? w _ ad)).trans ad), ((HB.out.cell (World.block_lt_of_cell? w _ ac)).trans ac), ((HB.out.cell (World.block_lt_of_cell? w _ ab)).trans ab)⟩ (fun hHeld => ?_)
                 clear hK K
                 refine norm_ (a' := ?_) ?_ ?_
                 rotate_left
                 ·show Act.put _ (some 80) _ = _
                  simp only [Act.put, zp, zq, zr, i64_w, i32_w]
                  rfl
                 refine zu 10 (some 15) #[tt, tt, tt, tt, tt, tt, tt, tt, tt, tt, tt] (any_of HT_.out (by kernel_rfl)) ?_
                 refine done_ (done_of HT_.out (by kernel_rfl)) ?_
                 obtain ⟨Ao61, co61, eo61⟩ := Kd.R_slice aw.out
                 subst eo61
                 try go_wp2_with (first | ((with_reducible refine gate_callee (f := 86) rfl ?_); refine goesL_ (some 88) rfl rfl Try.func86 (by kernel_rfl) rfl #[.slice (some af) l0.length c0, .slice A1 l1.length c1, .int .i64 (wrap64 (a2 + 1)), .slice Ao61 a1.length co61, .int .i64 a4, .int .i64 a5] rfl (by (try simp only [List.map_toArray, List.map_cons, List.map_nil]); first | done | rfl | (simp only [List.length_drop, List.length_take]; rfl)) ?_; (with_reducible refine (ih kj14 (by have := aT.out; have := aZ.out; have := a0.out; have := aK.out; omega) _ _ l0 _ _ l1 (wrap64 (a2 + 1)) _ _ a1 a4 a5 ap _ ?side1 ?side2 ?side3 ?side4 ?side5 ?side6 A27.out).mono ?_); (case side1 => repeat (first | exact (Kd.C_below aY.out HB.out) | (with_reducible refine Kd.C_alloc ?_ _) | (with_reducible refine Kd.C_drewN ?_ _) | (with_reducible refine Kd.C_drew ?_))); (case side2 => exact bj.out); (case side3 => repeat (first | exact (Kd.C_below bk.out HB.out) | (with_reducible refine Kd.C_alloc ?_ _) | (with_reducible refine Kd.C_drewN ?_ _) | (with_reducible refine Kd.C_drew ?_))); (case side4 => exact bl.out); (case side5 => repeat (first | exact (Kd.R_reads' aw.out).2.2 | (with_reducible refine Kd.C_alloc ?_ _) | (with_reducible refine Kd.C_drewN ?_ _) | (with_reducible refine Kd.C_drew ?_))); (case side6 => exact (Kd.R_reads' aw.out).2.1); rintro e w62 ⟨rfl, hb⟩; refine ⟨_, rfl, ?_⟩; have ai := zK (Kd.R_below (zR ae) hb); have ak := zK (Kd.R_below (zR aw) hb); have ao := zK (below_step (zb HB) hb); clear ae; clear aw; clear HB; have ae := ai; have aw := ak; have HB := ao; clear ai ak ao; (try clear hb)))
                 go_roundg kj14
                 case measure => have := aT.out; have := aZ.out; have := a0.out; have := aK.out; omega
                 case rel => exact ⟨(ag), (wrap64 (aa + 1)), (by first | rfl | (simp; done) | (simp [*]; done)), (by first | rfl | (simp; done) | (simp [*]; done)), H', ⟨by have := aT.out; have := aZ.out; have := a0.out; have := aK.out; omega⟩, ⟨zb HB⟩⟩
               ·rw [if_neg c26] at H
                exact absurd H (by simp)
              ·rw [if_neg c25] at H
               exact absurd H (by simp)
             ·rw [if_neg c24] at H
              exact absurd H (by simp)
            ·rw [if_neg c23] at H
             exact absurd H (by simp)
        ·rw [if_neg bs] at H
         have bm : decide (aa < (l0.length : Int)) = false := decide_eq_false bs
         clear bs; obtain rfl := Option.some.inj H
         go_wp2
         go_ret
         exact ⟨by first | rfl | (simp [errW_none, errW_some] <;> rfl) | (simp [*, errW_none, errW_some] <;> rfl), by repeat (first | (with_reducible first | exact HB.out | apply zB | apply zC | apply zE) | exact HB.out)⟩
def spec_MostAssigned.f (k : Nat) (l0 : List (S52)) (l1 : List (S89)) : Option (Int) := (spec_ExpectOk.f k l0).bind fun t756 => (if t756 = true then ((spec_SightsOk.f k l1).bind fun t757 => (if t757 = true then ((spec_l03Most.f k l0 l1 0 (([] : List Int)) (-1) 0).bind fun t761 => (some t761)) else (some (-1)))) else (some (-1)))
set_option maxHeartbeats 8000000 in
set_option maxRecDepth 100000 in
theorem spec_MostAssigned.calls (k : Nat) (A0 : Option Addr) (c0 : Nat) (l0 : List (S52)) (A1 : Option Addr) (c1 : Nat) (l1 : List (S89)) (r : Int) (w : World) (hr0 : Kd.C k52 w A0 l0.length l0) (hc0 : l0.length ≤ c0) (hr1 : Kd.C k89 w A1 l1.length l1) (hc1 : l1.length ≤ c1) (h : spec_MostAssigned.f k l0 l1 = some r) :
  Calls Try.prog 85 #[.slice A0 l0.length c0, .slice A1 l1.length c1] w fun e w' => e = .returned (.int .i64 r) ∧ Below w.heap.size w w' := by
 have HR0 := zK hr0; have HC0 := zK hc0; clear hr0 hc0; have HR1 := zK hr1; have HC1 := zK hc1; clear hr1 hc1
 have HB := zK (Below.refl w.heap.size w)
 have H : ((spec_ExpectOk.f k l0).bind fun af => (if af = true then ((spec_SightsOk.f k l1).bind fun ac => (if ac = true then ((spec_l03Most.f k l0 l1 0 (([] : List Int)) (-1) 0).bind fun aa => (some aa)) else (some (-1)))) else (some (-1)))) = some r := h
 clear h; replace H := Option.bind_eq_some_iff.mp H
 obtain ⟨af, A30, H⟩ := H
 replace H : (if af = true then ((spec_SightsOk.f k l1).bind fun ac => (if ac = true then ((spec_l03Most.f k l0 l1 0 (([] : List Int)) (-1) 0).bind fun aa => (some aa)) else (some (-1)))) else (some (-1))) = some r := H
 have A3 := zK A30; clear A30
 by_cases c4 : af = true
 ·subst c4
  have H1 : ((spec_SightsOk.f k l1).bind fun ac => (if ac = true then ((spec_l03Most.f k l0 l1 0 (([] : List Int)) (-1) 0).bind fun aa => (some aa)) else (some (-1)))) = some r := by rw [if_pos rfl] at H; exact H
  clear H; have H := H1; clear H1; replace H := Option.bind_eq_some_iff.mp H
  obtain ⟨ac, A50, H⟩ := H
  replace H : (if ac = true then ((spec_l03Most.f k l0 l1 0 (([] : List Int)) (-1) 0).bind fun aa => (some aa)) else (some (-1))) = some r := H
  have A5 := zK A50; clear A50
  by_cases c6 : ac = true
  ·subst c6
   have H1 : ((spec_l03Most.f k l0 l1 0 (([] : List Int)) (-1) 0).bind fun aa => (some aa)) = some r := by rw [if_pos rfl] at H; exact H
   clear H; have H := H1; clear H1
   obtain ⟨ag, ad⟩ : ∃ y_ : List Int, y_ = (([] : List Int)) := ⟨_, rfl⟩
   replace H : ((spec_l03Most.f k l0 l1 0 ag (-1) 0).bind fun aa => (some aa)) = some r := by first | (rw [ad]; with_reducible exact H) | (have H2_ := (Option.bind_some _ _).symm.trans H; rw [ad]; with_reducible exact H2_) | (have H2_ := (Option.bind_some _ _).symm.trans H; with_reducible exact H2_) | with_reducible exact H | (rw [ad]; exact H) | exact H
   have Ny758 := zK ad; clear ad; replace H := Option.bind_eq_some_iff.mp H
   obtain ⟨aa, A70, H⟩ := H
   replace H : (some aa) = some r := H
   have A7 := zK A70; clear A70; obtain rfl := Option.some.inj H
   go_enter Try.func85, Try.ntmps85
   go_wp2_with (first | ((with_reducible refine gate_callee (f := 37) rfl ?_); refine goesL_ (some 6) rfl rfl Try.func37 (by kernel_rfl) rfl #[.slice A0 l0.length c0] rfl (by (try simp only [List.map_toArray, List.map_cons, List.map_nil]); first | done | rfl | (simp only [List.length_drop, List.length_take]; rfl)) ?_; (with_reducible refine (spec_ExpectOk.calls k _ _ l0 true _ ?side1 ?side2 A3.out).mono ?_); (case side1 => repeat (first | exact HR0.out | (with_reducible refine Kd.C_alloc ?_ _) | (with_reducible refine Kd.C_drewN ?_ _) | (with_reducible refine Kd.C_drew ?_))); (case side2 => exact HC0.out); rintro e w' ⟨rfl, ⟨nd, rfl⟩⟩; refine ⟨_, rfl, ?_⟩) | (go_at_call 39; (with_reducible refine (spec_SightsOk.calls k _ _ l1 true _ ?side1 ?side2 A5.out).mono ?_); (case side1 => repeat (first | exact HR1.out | (with_reducible refine Kd.C_alloc ?_ _) | (with_reducible refine Kd.C_drewN ?_ _) | (with_reducible refine Kd.C_drew ?_))); (case side2 => exact HC1.out); rintro e w8 ⟨rfl, hb⟩; have ae := zK (below_step (zb HB) hb); clear HB; have HB := ae; clear ae; (try clear hb); (try clear hk)) | ((with_reducible refine gate_dst (N := 15) rfl ?_); refine Kd.R_lit (Kd.int .i64) _ 3 ?hg (N := 15) ?hd (xs := ([] : List Int)) (inner := []) (ok := fun _ => True) (okp := fun _ => True) ?hr ?hp (fun _ hk => hk) trivial (Below.refl _ _) (Nat.le_refl _) (by simp) ?_; (case hd => rfl); (case hg => rfl); (case hr => first | (go_simp; done) | (go_simp; rfl)); (case hp => exact (Reps.none _ _)); intro v759 w9 ho10 hb hg_ hnew_; clear hg_ hnew_; (first | rw [← Ny758.out] at ho10 | (simp only [Int.reduceToNat] at ho10; rw [← Ny758.out] at ho10)); have ae := zK (Kd.R_lower ho10 (below_size (zb HB))); have ah := zK (below_step (zb HB) hb); clear HB; have ab := ae; have HB := ah; clear ae ah; clear hb ho10; obtain ⟨Ao11, co11, eo11⟩ := Kd.R_slice ab.out; subst eo11) | ((with_reducible refine gate_callee (f := 86) rfl ?_); refine goesL_ (some 16) rfl rfl Try.func86 (by kernel_rfl) rfl #[.slice A0 l0.length c0, .slice A1 l1.length c1, .int .i64 0, .slice Ao11 ag.length co11, .int .i64 (-1), .int .i64 0] rfl (by (try simp only [List.map_toArray, List.map_cons, List.map_nil]); first | done | rfl | (simp only [List.length_drop, List.length_take]; rfl)) ?_; (with_reducible refine (spec_l03Most.calls k _ _ l0 _ _ l1 0 _ _ ag (-1) 0 aa _ ?side1 ?side2 ?side3 ?side4 ?side5 ?side6 A7.out).mono ?_); (case side1 => repeat (first | exact (Kd.C_below HR0.out HB.out) | (with_reducible refine Kd.C_alloc ?_ _) | (with_reducible refine Kd.C_drewN ?_ _) | (with_reducible refine Kd.C_drew ?_))); (case side2 => exact HC0.out); (case side3 => repeat (first | exact (Kd.C_below HR1.out HB.out) | (with_reducible refine Kd.C_alloc ?_ _) | (with_reducible refine Kd.C_drewN ?_ _) | (with_reducible refine Kd.C_drew ?_))); (case side4 => exact HC1.out); (case side5 => repeat (first | exact (Kd.R_reads' ab.out).2.2 | (with_reducible refine Kd.C_alloc ?_ _) | (with_reducible refine Kd.C_drewN ?_ _) | (with_reducible refine Kd.C_drew ?_))); (case side6 => exact (Kd.R_reads' ab.out).2.1); rintro e w12 ⟨rfl, hb⟩; refine ⟨_, rfl, ?_⟩; have ae := zK (Kd.R_below (zR ab) hb); have ah := zK (below_step (zb HB) hb); clear ab; clear HB; have ab := ae; have HB := ah; clear ae ah; (try clear hb); (try clear hk)))
   go_ret
   exact ⟨by first | rfl | (simp [errW_none, errW_some] <;> rfl) | (simp [*, errW_none, errW_some] <;> rfl), by repeat (first | (with_reducible first | exact HB.out | apply zB | apply zC | apply zE) | exact HB.out)⟩
  ·replace c6 := Bool.eq_false_iff.mpr c6
   subst c6
   have H1 : (some (-1)) = some r := by rw [if_neg (show ¬ (false = true) by decide)] at H; exact H
   clear H; have H := H1; clear H1; obtain rfl := Option.some.inj H
   go_enter Try.func85, Try.ntmps85
   go_wp2_with (first | ((with_reducible refine gate_callee (f := 37) rfl ?_); refine goesL_ (some 6) rfl rfl Try.func37 (by kernel_rfl) rfl #[.slice A0 l0.length c0] rfl (by (try simp only [List.map_toArray, List.map_cons, List.map_nil]); first | done | rfl | (simp only [List.length_drop, List.length_take]; rfl)) ?_; (with_reducible refine (spec_ExpectOk.calls k _ _ l0 true _ ?side1 ?side2 A3.out).mono ?_); (case side1 => repeat (first | exact HR0.out | (with_reducible refine Kd.C_alloc ?_ _) | (with_reducible refine Kd.C_drewN ?_ _) | (with_reducible refine Kd.C_drew ?_))); (case side2 => exact HC0.out); rintro e w' ⟨rfl, ⟨nd, rfl⟩⟩; refine ⟨_, rfl, ?_⟩) | (go_at_call 39; (with_reducible refine (spec_SightsOk.calls k _ _ l1 false _ ?side1 ?side2 A5.out).mono ?_); (case side1 => repeat (first | exact HR1.out | (with_reducible refine Kd.C_alloc ?_ _) | (with_reducible refine Kd.C_drewN ?_ _) | (with_reducible refine Kd.C_drew ?_))); (case side2 => exact HC1.out); rintro e w13 ⟨rfl, hb⟩; have ae := zK (below_step (zb HB) hb); clear HB; have HB := ae; clear ae; (try clear hb)))
   go_ret
   exact ⟨by first | rfl | (simp [errW_none, errW_some] <;> rfl) | (simp [*, errW_none, errW_some] <;> rfl), by repeat (first | (with_reducible first | exact HB.out | apply zB | apply zC | apply zE) | exact HB.out)⟩
 ·replace c4 := Bool.eq_false_iff.mpr c4
  subst c4
  have H1 : (some (-1)) = some r := by rw [if_neg (show ¬ (false = true) by decide)] at H; exact H
  clear H; have H := H1; clear H1; obtain rfl := Option.some.inj H
  go_enter Try.func85, Try.ntmps85
  go_wp2_with (first | ((with_reducible refine gate_callee (f := 37) rfl ?_); refine goesL_ (some 6) rfl rfl Try.func37 (by kernel_rfl) rfl #[.slice A0 l0.length c0] rfl (by (try simp only [List.map_toArray, List.map_cons, List.map_nil]); first | done | rfl | (simp only [List.length_drop, List.length_take]; rfl)) ?_; (with_reducible refine (spec_ExpectOk.calls k _ _ l0 false _ ?side1 ?side2 A3.out).mono ?_); (case side1 => repeat (first | exact HR0.out | (with_reducible refine Kd.C_alloc ?_ _) | (with_reducible refine Kd.C_drewN ?_ _) | (with_reducible refine Kd.C_drew ?_))); (case side2 => exact HC0.out); rintro e w' ⟨rfl, ⟨nd, rfl⟩⟩; refine ⟨_, rfl, ?_⟩))
  go_ret
  exact ⟨by first | rfl | (simp [errW_none, errW_some] <;> rfl) | (simp [*, errW_none, errW_some] <;> rfl), by repeat (first | (with_reducible first | exact HB.out | apply zB | apply zC | apply zE) | exact HB.out)⟩
mutual
def spec_Choices.j0 : Nat → List (S52) → List (S89) → Int → List Int → Bool → Option (List Int)
 | 0, _, _, _, _, _ => none
 | k + 1, x0, x1, x2, x7, x30 => if x30 = true then (some x7) else (if 0 ≤ x2 then (if x2 < (x1.length : Int) then (if ((rd_T89 x1 x2).f1) = 0 then ((spec_MostAssigned.f k x0 x1).bind fun t772 => ((spec_l03Most.f k x0 x1 0 (([] : List Int)) x2 0).bind fun t776 => (if t776 = t772 then (if x7.length < 17592186044416 then (spec_Choices.j1 k x0 x1 x2 (x7 ++ [0]) t772) else (none)) else (spec_Choices.j1 k x0 x1 x2 x7 t772)))) else (some (([(rd_T89 x1 x2).f1] : List Int)))) else (none)) else (none))
def spec_Choices.j1 : Nat → List (S52) → List (S89) → Int → List Int → Int → Option (List Int)
 | 0, _, _, _, _, _ => none
 | k + 1, x0, x1, x2, x7, x8 => spec_Choices.l0 k x0 x1 x2 x7 x8 0
def spec_Choices.l0 : Nat → List (S52) → List (S89) → Int → List Int → Int → Int → Option (List Int)
 | 0, _, _, _, _, _, _ => none
 | k + 1, x0, x1, x2, x7, x8, x9 => if (x7.length : Int) ≤ (x0.length : Int) then (spec_Choices.l1 k x0 x1 x2 x7 x8 x9 0 0) else (some x7)
def spec_Choices.l1 : Nat → List (S52) → List (S89) → Int → List Int → Int → Int → Int → Int → Option (List Int)
 | 0, _, _, _, _, _, _, _, _ => none
 | k + 1, x0, x1, x2, x7, x8, x9, x10, x11 => if x11 < (x0.length : Int) then (if 0 ≤ x11 then (if ((rd_T52 x0 x11).f0) > x9 then (if x10 = 0 then (spec_Choices.j4 k x0 x1 x2 x7 x8 x9 x10 x11 true) else (spec_Choices.j4 k x0 x1 x2 x7 x8 x9 x10 x11 (decide (((rd_T52 x0 x11).f0) < x10)))) else (spec_Choices.j4 k x0 x1 x2 x7 x8 x9 x10 x11 false)) else (none)) else (if x10 = 0 then (some x7) else ((spec_l03Most.f k x0 x1 0 (([] : List Int)) x2 x10).bind fun t786 => (if t786 = x8 then (if x7.length < 17592186044416 then (spec_Choices.l0 k x0 x1 x2 (x7 ++ [x10]) x8 x10) else (none)) else (spec_Choices.l0 k x0 x1 x2 x7 x8 x10))))
def spec_Choices.j4 : Nat → List (S52) → List (S89) → Int → List Int → Int → Int → Int → Int → Bool → Option (List Int)
 | 0, _, _, _, _, _, _, _, _, _ => none
 | k + 1, x0, x1, x2, x7, x8, x9, x10, x11, x87 => if x87 = true then (if 0 ≤ x11 then (if x11 < (x0.length : Int) then (spec_Choices.l1 k x0 x1 x2 x7 x8 x9 ((rd_T52 x0 x11).f0) (wrap64 (x11 + 1))) else (none)) else (none)) else (spec_Choices.l1 k x0 x1 x2 x7 x8 x9 x10 (wrap64 (x11 + 1)))
end
def spec_Choices.f (k : Nat) (l0 : List (S52)) (l1 : List (S89)) (a2 : Int) : Option (List Int) := (some (([] : List Int) : List Int)).bind fun y762 => ((spec_ExpectOk.f k l0).bind fun t765 => (if t765 = true then ((spec_SightsOk.f k l1).bind fun t766 => (if t766 = true then (if a2 < 0 then (spec_Choices.j0 k l0 l1 a2 y762 true) else (spec_Choices.j0 k l0 l1 a2 y762 (decide (a2 ≥ (l1.length : Int))))) else (spec_Choices.j0 k l0 l1 a2 y762 true))) else (spec_Choices.j0 k l0 l1 a2 y762 true)))
set_option maxHeartbeats 8000000 in
set_option maxRecDepth 100000 in
theorem spec_Choices.calls (k : Nat) (A0 : Option Addr) (c0 : Nat) (l0 : List (S52)) (A1 : Option Addr) (c1 : Nat) (l1 : List (S89)) (a2 : Int) (r : List Int) (w : World) (hr0 : Kd.C k52 w A0 l0.length l0) (hc0 : l0.length ≤ c0) (hr1 : Kd.C k89 w A1 l1.length l1) (hc1 : l1.length ≤ c1) (h : spec_Choices.f k l0 l1 a2 = some r) :
  Calls Try.prog 45 #[.slice A0 l0.length c0, .slice A1 l1.length c1, .int .i64 a2] w fun e w' => ∃ v0_ : Value, e = .returned (v0_) ∧ Kd.R (Kd.int .i64) 3 w' w.heap.size (fun _ => True) v0_ r ∧ Below w.heap.size w w' := by
 have a8 := zK hr0; have bs := zK hc0; clear hr0 hc0; have bm := zK hr1; have bD := zK hc1; clear hr1 hc1
 have HB := zK (Below.refl w.heap.size w)
 have H : ((some (([] : List Int) : List Int)).bind fun ad => ((spec_ExpectOk.f k l0).bind fun a9 => (if a9 = true then ((spec_SightsOk.f k l1).bind fun aG => (if aG = true then (if a2 < 0 then (spec_Choices.j0 k l0 l1 a2 ad true) else (spec_Choices.j0 k l0 l1 a2 ad (decide (a2 ≥ (l1.length : Int))))) else (spec_Choices.j0 k l0 l1 a2 ad true))) else (spec_Choices.j0 k l0 l1 a2 ad true)))) = some r := h
 clear h
 obtain ⟨ad, aU⟩ : ∃ y_ : List Int, y_ = (([] : List Int)) := ⟨_, rfl⟩
 replace H : ((spec_ExpectOk.f k l0).bind fun a9 => (if a9 = true then ((spec_SightsOk.f k l1).bind fun aG => (if aG = true then (if a2 < 0 then (spec_Choices.j0 k l0 l1 a2 ad true) else (spec_Choices.j0 k l0 l1 a2 ad (decide (a2 ≥ (l1.length : Int))))) else (spec_Choices.j0 k l0 l1 a2 ad true))) else (spec_Choices.j0 k l0 l1 a2 ad true))) = some r := by first | (rw [aU]; with_reducible exact H) | (have H2_ := (Option.bind_some _ _).symm.trans H; rw [aU]; with_reducible exact H2_) | (have H2_ := (Option.bind_some _ _).symm.trans H; with_reducible exact H2_) | with_reducible exact H | (rw [aU]; exact H) | exact H
 have Ny762 := zK aU; clear aU; have HC4 := zK H; clear H
 go_enter Try.func45, Try.ntmps45
 go_upto_region 2 with (first | ((with_reducible refine gate_dst (N := 12) rfl ?_); (try (refine gate_guard (by rfl) ?_; dsimp only)); refine Kd.R_lit (Kd.int .i64) _ 3 ?hg (N := 12) ?hd (xs := ([] : List Int)) (inner := []) (ok := fun _ => True) (okp := fun _ => True) ?hr ?hp (fun _ hk => hk) trivial (Below.refl _ _) (Nat.le_refl _) (by simp) ?_; (case hd => rfl); (case hg => rfl); (case hr => first | (go_simp; done) | (go_simp; rfl)); (case hp => exact (Reps.none _ _)); intro bR w5 ho6 hb hg_ hnew_; clear hg_ hnew_; (first | rw [← Ny762.out] at ho6 | (simp only [Int.reduceToNat] at ho6; rw [← Ny762.out] at ho6)); have am := zK (Kd.R_lower ho6 (below_size (zb HB))); have an := zK (below_step (zb HB) hb); clear HB; have ao := am; have HB := an; clear am an; clear hb ho6))
 (try simp only [Act.put, zp, zq, zr])
 go_cut [30] (fun v30 wc => ∃ (kq : Nat) (a4 : Bool), v30 = .bool a4 ∧ Aside0 (spec_Choices.j0 kq l0 l1 a2 ad a4 = some r) ∧ Aside0 (kq ≤ k) ∧ Aside0 (Kd.R (Kd.int .i64) 3 wc w.heap.size (fun _ => True) bR ad) ∧ Aside0 (Below w.heap.size w wc))
 case first =>
  have H := HC4.out; clear HC4; replace H := Option.bind_eq_some_iff.mp H
  obtain ⟨a9, A70, H⟩ := H
  replace H : (if a9 = true then ((spec_SightsOk.f k l1).bind fun aG => (if aG = true then (if a2 < 0 then (spec_Choices.j0 k l0 l1 a2 ad true) else (spec_Choices.j0 k l0 l1 a2 ad (decide (a2 ≥ (l1.length : Int))))) else (spec_Choices.j0 k l0 l1 a2 ad true))) else (spec_Choices.j0 k l0 l1 a2 ad true)) = some r := H
  have A7 := zK A70; clear A70
  by_cases c8 : a9 = true
  ·subst c8
   have H1 : ((spec_SightsOk.f k l1).bind fun aG => (if aG = true then (if a2 < 0 then (spec_Choices.j0 k l0 l1 a2 ad true) else (spec_Choices.j0 k l0 l1 a2 ad (decide (a2 ≥ (l1.length : Int))))) else (spec_Choices.j0 k l0 l1 a2 ad true))) = some r := by rw [if_pos rfl] at H; exact H
   clear H; have H := H1; clear H1; replace H := Option.bind_eq_some_iff.mp H
   obtain ⟨aG, A90, H⟩ := H
   replace H : (if aG = true then (if a2 < 0 then (spec_Choices.j0 k l0 l1 a2 ad true) else (spec_Choices.j0 k l0 l1 a2 ad (decide (a2 ≥ (l1.length : Int))))) else (spec_Choices.j0 k l0 l1 a2 ad true)) = some r := H
   have A9 := zK A90; clear A90
   by_cases c10 : aG = true
   ·subst c10
    have H1 : (if a2 < 0 then (spec_Choices.j0 k l0 l1 a2 ad true) else (spec_Choices.j0 k l0 l1 a2 ad (decide (a2 ≥ (l1.length : Int))))) = some r := by rw [if_pos rfl] at H; exact H
    clear H; have H := H1; clear H1
    by_cases bc : a2 < 0
    ·rw [if_pos bc] at H
     have ap : decide (a2 < 0) = true := decide_eq_true bc
     clear bc
     (first | rw [ap] | (simp only [i64_w, i32_w]; rw [ap]) | skip)
     have H' := zK H; clear H
     go_wp2_with (first | ((with_reducible refine gate_callee (f := 37) rfl ?_); refine goesL_ (some 14) rfl rfl Try.func37 (by kernel_rfl) rfl #[.slice A0 l0.length c0] rfl (by (try simp only [List.map_toArray, List.map_cons, List.map_nil]); first | done | rfl | (simp only [List.length_drop, List.length_take]; rfl)) ?_; (with_reducible refine (spec_ExpectOk.calls k _ _ l0 true _ ?side1 ?side2 A7.out).mono ?_); (case side1 => repeat (first | exact (Kd.C_below a8.out HB.out) | (with_reducible refine Kd.C_alloc ?_ _) | (with_reducible refine Kd.C_drewN ?_ _) | (with_reducible refine Kd.C_drew ?_))); (case side2 => exact bs.out); rintro e w' ⟨rfl, ⟨nd, rfl⟩⟩; refine ⟨_, rfl, ?_⟩) | (go_at_call 39; (with_reducible refine (spec_SightsOk.calls k _ _ l1 true _ ?side1 ?side2 A9.out).mono ?_); (case side1 => repeat (first | exact (Kd.C_below bm.out (zb HB)) | (with_reducible refine Kd.C_alloc ?_ _) | (with_reducible refine Kd.C_drewN ?_ _) | (with_reducible refine Kd.C_drew ?_))); (case side2 => exact bD.out); rintro e w12 ⟨rfl, hb⟩; have am := zK (Kd.R_below (zR ao) hb); have an := zK (below_step (zb HB) hb); clear ao; clear HB; have ao := am; have HB := an; clear am an; (try clear hb)))
     go_meet
     case rel => exact ⟨_, (true), (by first | rfl | (simp; done) | (simp [*]; done)), H', ⟨by first | omega | exact Nat.le_refl _⟩, ⟨zR ao⟩, ⟨zb HB⟩⟩
    ·rw [if_neg bc] at H
     have ap : decide (a2 < 0) = false := decide_eq_false bc
     clear bc
     (first | rw [ap] | (simp only [i64_w, i32_w]; rw [ap]) | skip)
     have H' := zK H; clear H
     go_wp2_with (first | ((with_reducible refine gate_callee (f := 37) rfl ?_); refine goesL_ (some 14) rfl rfl Try.func37 (by kernel_rfl) rfl #[.slice A0 l0.length c0] rfl (by (try simp only [List.map_toArray, List.map_cons, List.map_nil]); first | done | rfl | (simp only [List.length_drop, List.length_take]; rfl)) ?_; (with_reducible refine (spec_ExpectOk.calls k _ _ l0 true _ ?side1 ?side2 A7.out).mono ?_); (case side1 => repeat (first | exact (Kd.C_below a8.out HB.out) | (with_reducible refine Kd.C_alloc ?_ _) | (with_reducible refine Kd.C_drewN ?_ _) | (with_reducible refine Kd.C_drew ?_))); (case side2 => exact bs.out); rintro e w' ⟨rfl, ⟨nd, rfl⟩⟩; refine ⟨_, rfl, ?_⟩) | (go_at_call 39; (with_reducible refine (spec_SightsOk.calls k _ _ l1 true _ ?side1 ?side2 A9.out).mono ?_); (case side1 => repeat (first | exact (Kd.C_below bm.out (zb HB)) | (with_reducible refine Kd.C_alloc ?_ _) | (with_reducible refine Kd.C_drewN ?_ _) | (with_reducible refine Kd.C_drew ?_))); (case side2 => exact bD.out); rintro e w13 ⟨rfl, hb⟩; have am := zK (Kd.R_below (zR ao) hb); have an := zK (below_step (zb HB) hb); clear ao; clear HB; have ao := am; have HB := an; clear am an; (try clear hb)))
     go_meet
     case rel => exact ⟨_, (decide (a2 ≥ (l1.length : Int))), (by first | rfl | (simp; done) | (simp [*]; done)), H', ⟨by first | omega | exact Nat.le_refl _⟩, ⟨zR ao⟩, ⟨zb HB⟩⟩
   ·replace c10 := Bool.eq_false_iff.mpr c10
    subst c10
    have H1 : (spec_Choices.j0 k l0 l1 a2 ad true) = some r := by rw [if_neg (show ¬ (false = true) by decide)] at H; exact H
    clear H; have H := H1; clear H1; have H' := zK H; clear H
    go_wp2_with (first | ((with_reducible refine gate_callee (f := 37) rfl ?_); refine goesL_ (some 14) rfl rfl Try.func37 (by kernel_rfl) rfl #[.slice A0 l0.length c0] rfl (by (try simp only [List.map_toArray, List.map_cons, List.map_nil]); first | done | rfl | (simp only [List.length_drop, List.length_take]; rfl)) ?_; (with_reducible refine (spec_ExpectOk.calls k _ _ l0 true _ ?side1 ?side2 A7.out).mono ?_); (case side1 => repeat (first | exact (Kd.C_below a8.out HB.out) | (with_reducible refine Kd.C_alloc ?_ _) | (with_reducible refine Kd.C_drewN ?_ _) | (with_reducible refine Kd.C_drew ?_))); (case side2 => exact bs.out); rintro e w' ⟨rfl, ⟨nd, rfl⟩⟩; refine ⟨_, rfl, ?_⟩) | (go_at_call 39; (with_reducible refine (spec_SightsOk.calls k _ _ l1 false _ ?side1 ?side2 A9.out).mono ?_); (case side1 => repeat (first | exact (Kd.C_below bm.out (zb HB)) | (with_reducible refine Kd.C_alloc ?_ _) | (with_reducible refine Kd.C_drewN ?_ _) | (with_reducible refine Kd.C_drew ?_))); (case side2 => exact bD.out); rintro e w14 ⟨rfl, hb⟩; have am := zK (Kd.R_below (zR ao) hb); have an := zK (below_step (zb HB) hb); clear ao; clear HB; have ao := am; have HB := an; clear am an; (try clear hb)))
    go_meet
    case rel => exact ⟨_, (true), (by first | rfl | (simp; done) | (simp [*]; done)), H', ⟨by first | omega | exact Nat.le_refl _⟩, ⟨zR ao⟩, ⟨zb HB⟩⟩
  ·replace c8 := Bool.eq_false_iff.mpr c8
   subst c8
   have H1 : (spec_Choices.j0 k l0 l1 a2 ad true) = some r := by rw [if_neg (show ¬ (false = true) by decide)] at H; exact H
   clear H; have H := H1; clear H1; have H' := zK H; clear H
   go_wp2_with (first | ((with_reducible refine gate_callee (f := 37) rfl ?_); refine goesL_ (some 14) rfl rfl Try.func37 (by kernel_rfl) rfl #[.slice A0 l0.length c0] rfl (by (try simp only [List.map_toArray, List.map_cons, List.map_nil]); first | done | rfl | (simp only [List.length_drop, List.length_take]; rfl)) ?_; (with_reducible refine (spec_ExpectOk.calls k _ _ l0 false _ ?side1 ?side2 A7.out).mono ?_); (case side1 => repeat (first | exact (Kd.C_below a8.out HB.out) | (with_reducible refine Kd.C_alloc ?_ _) | (with_reducible refine Kd.C_drewN ?_ _) | (with_reducible refine Kd.C_drew ?_))); (case side2 => exact bs.out); rintro e w' ⟨rfl, ⟨nd, rfl⟩⟩; refine ⟨_, rfl, ?_⟩))
   go_meet
   case rel => exact ⟨_, (true), (by first | rfl | (simp; done) | (simp [*]; done)), H', ⟨by first | omega | exact Nat.le_refl _⟩, ⟨zR ao⟩, ⟨zb HB⟩⟩
 case rest =>
  clear HC4
  try clear c1
  try clear p2
  try clear c3
  try clear c4
  try clear c8
  try clear c10
  try clear bc
  try clear ap
  obtain ⟨kq, a4, rfl, HA, ba, ac, HB⟩ := hcut
  cases kq with
  | zero => exact absurd HA.out (by simp [spec_Choices.j0])
  | succ kj3 =>
   have H := HA.out; clear HA
   simp only [spec_Choices.j0] at H
   by_cases bt : a4 = true
   ·subst bt
    have H1 : (some ad) = some r := by rw [if_pos rfl] at H; exact H
    clear H; have H := H1; clear H1; obtain rfl := Option.some.inj H
    go_wp2
    go_ret
    exact ⟨_, by first | rfl | (simp [errW_none, errW_some] <;> rfl) | (simp [*, errW_none, errW_some] <;> rfl), by (with_reducible repeat (first | apply Kd.R_alloc | apply Kd.R_drewN | apply Kd.R_drew)); exact ac.out, by repeat (first | (with_reducible first | exact HB.out | apply zB | apply zC | apply zE) | exact HB.out)⟩
   ·replace bt := Bool.eq_false_iff.mpr bt
    subst bt
    have H1 : (if 0 ≤ a2 then (if a2 < (l1.length : Int) then (if ((rd_T89 l1 a2).f1) = 0 then ((spec_MostAssigned.f kj3 l0 l1).bind fun ae => ((spec_l03Most.f kj3 l0 l1 0 (([] : List Int)) a2 0).bind fun au => (if au = ae then (if ad.length < 17592186044416 then (spec_Choices.j1 kj3 l0 l1 a2 (ad ++ [0]) ae) else (none)) else (spec_Choices.j1 kj3 l0 l1 a2 ad ae)))) else (some (([(rd_T89 l1 a2).f1] : List Int)))) else (none)) else (none)) = some r := by rw [if_neg (show ¬ (false = true) by decide)] at H; exact H
    clear H; have H := H1; clear H1
    by_cases bu : 0 ≤ a2
    ·rw [if_pos bu] at H
     have a5 : decide (0 ≤ a2) = true := decide_eq_true bu
     clear bu
     by_cases bv : a2 < (l1.length : Int)
     ·rw [if_pos bv] at H
      have a6 : decide (a2 < (l1.length : Int)) = true := decide_eq_true bv
      clear bv
      by_cases bd : ((rd_T89 l1 a2).f1) = 0
      ·rw [if_pos bd] at H
       have aV : (((rd_T89 l1 a2).f1) == 0) = true := beq_iff_eq.mpr bd
       have aW : (((rd_T89 l1 a2).f1) != 0) = false := bne_eq_false_iff_eq.mpr bd
       clear bd; replace H := Option.bind_eq_some_iff.mp H
       obtain ⟨ae, bS, H⟩ := H
       replace H : ((spec_l03Most.f kj3 l0 l1 0 (([] : List Int)) a2 0).bind fun au => (if au = ae then (if ad.length < 17592186044416 then (spec_Choices.j1 kj3 l0 l1 a2 (ad ++ [0]) ae) else (none)) else (spec_Choices.j1 kj3 l0 l1 a2 ad ae))) = some r := H
       have A19 := zK bS; clear bS
       obtain ⟨bo, aX⟩ : ∃ y_ : List Int, y_ = (([] : List Int)) := ⟨_, rfl⟩
       replace H : ((spec_l03Most.f kj3 l0 l1 0 bo a2 0).bind fun au => (if au = ae then (if ad.length < 17592186044416 then (spec_Choices.j1 kj3 l0 l1 a2 (ad ++ [0]) ae) else (none)) else (spec_Choices.j1 kj3 l0 l1 a2 ad ae))) = some r := by first | (rw [aX]; with_reducible exact H) | (have H2_ := (Option.bind_some _ _).symm.trans H; rw [aX]; with_reducible exact H2_) | (have H2_ := (Option.bind_some _ _).symm.trans H; with_reducible exact H2_) | with_reducible exact H | (rw [aX]; exact H) | exact H
       have Ny773 := zK aX; clear aX; replace H := Option.bind_eq_some_iff.mp H
       obtain ⟨au, bT, H⟩ := H
       replace H : (if au = ae then (if ad.length < 17592186044416 then (spec_Choices.j1 kj3 l0 l1 a2 (ad ++ [0]) ae) else (none)) else (spec_Choices.j1 kj3 l0 l1 a2 ad ae)) = some r := H
       have A20 := zK bT; clear bT; have bE := zK H; clear H
       have aC : 0 ≤ (a2 : Int) := of_decide_eq_true (by first | (with_reducible assumption) | assumption)
       have aD : a2 < (l1.length : Int) := of_decide_eq_true (by first | (with_reducible assumption) | assumption)
       obtain ⟨aJ, bF, ai, aj⟩ := at_T89 bm.out a2 aC aD
       cases bF
       replace ai := (HB.out.cell (World.block_lt_of_cell? w _ ai)).trans ai
       replace aj := (HB.out.cell (World.block_lt_of_cell? w _ aj)).trans aj
       replace aC := eq_true aC; replace aD := eq_true aD
       go_upto_if 53 with (first | ((with_reducible refine gate_callee (f := 85) rfl ?_); refine goesL_ (some 46) rfl rfl Try.func85 (by kernel_rfl) rfl #[.slice A0 l0.length c0, .slice (some aJ) l1.length c1] rfl (by (try simp only [List.map_toArray, List.map_cons, List.map_nil]); first | done | rfl | (simp only [List.length_drop, List.length_take]; rfl)) ?_; (with_reducible refine (spec_MostAssigned.calls kj3 _ _ l0 _ _ l1 ae _ ?side1 ?side2 ?side3 ?side4 A19.out).mono ?_); (case side1 => repeat (first | exact (Kd.C_below a8.out HB.out) | (with_reducible refine Kd.C_alloc ?_ _) | (with_reducible refine Kd.C_drewN ?_ _) | (with_reducible refine Kd.C_drew ?_))); (case side2 => exact bs.out); (case side3 => repeat (first | exact (Kd.C_below bm.out HB.out) | (with_reducible refine Kd.C_alloc ?_ _) | (with_reducible refine Kd.C_drewN ?_ _) | (with_reducible refine Kd.C_drew ?_))); (case side4 => exact bD.out); rintro e w22 ⟨rfl, hb⟩; refine ⟨_, rfl, ?_⟩; have am := zK (Kd.R_below (zR ac) hb); have an := zK (below_step (zb HB) hb); clear ac; clear HB; have ac := am; have HB := an; clear am an; (try clear hb); (try clear hk)) | ((with_reducible refine gate_dst (N := 49) rfl ?_); (try (refine gate_guard (by rfl) ?_; dsimp only)); refine Kd.R_lit (Kd.int .i64) _ 3 ?hg (N := 49) ?hd (xs := ([] : List Int)) (inner := []) (ok := fun _ => True) (okp := fun _ => True) ?hr ?hp (fun _ hk => hk) trivial (Below.refl _ _) (Nat.le_refl _) (by simp) ?_; (case hd => rfl); (case hg => rfl); (case hr => first | (go_simp; done) | (go_simp; rfl)); (case hp => exact (Reps.none _ _)); intro v774 w23 ho24 hb hg_ hnew_; clear hg_ hnew_; (first | rw [← Ny773.out] at ho24 | (simp only [Int.reduceToNat] at ho24; rw [← Ny773.out] at ho24)); have am := zK (Kd.R_elder' (zR ac) (Kd.R_base ho24) hb); have an := zK (Kd.R_lower (Kd.R_new' ho24 (Kd.R_lt (zR ac))) (below_size (zb HB))); have av := zK (below_step (zb HB) hb); clear ac; clear HB; have ac := am; have aq := an; have HB := av; clear am an av; clear hb ho24; obtain ⟨bU, bV, eo25⟩ := Kd.R_slice aq.out; subst eo25) | ((with_reducible refine gate_callee (f := 86) rfl ?_); refine goesL_ (some 51) rfl rfl Try.func86 (by kernel_rfl) rfl #[.slice A0 l0.length c0, .slice (some aJ) l1.length c1, .int .i64 0, .slice bU bo.length bV, .int .i64 a2, .int .i64 0] rfl (by (try simp only [List.map_toArray, List.map_cons, List.map_nil]); first | done | rfl | (simp only [List.length_drop, List.length_take]; rfl)) ?_; (with_reducible refine (spec_l03Most.calls kj3 _ _ l0 _ _ l1 0 _ _ bo a2 0 au _ ?side1 ?side2 ?side3 ?side4 ?side5 ?side6 A20.out).mono ?_); (case side1 => repeat (first | exact (Kd.C_below a8.out HB.out) | (with_reducible refine Kd.C_alloc ?_ _) | (with_reducible refine Kd.C_drewN ?_ _) | (with_reducible refine Kd.C_drew ?_))); (case side2 => exact bs.out); (case side3 => repeat (first | exact (Kd.C_below bm.out HB.out) | (with_reducible refine Kd.C_alloc ?_ _) | (with_reducible refine Kd.C_drewN ?_ _) | (with_reducible refine Kd.C_drew ?_))); (case side4 => exact bD.out); (case side5 => repeat (first | exact (Kd.R_reads' aq.out).2.2 | (with_reducible refine Kd.C_alloc ?_ _) | (with_reducible refine Kd.C_drewN ?_ _) | (with_reducible refine Kd.C_drew ?_))); (case side6 => exact (Kd.R_reads' aq.out).2.1); rintro e w26 ⟨rfl, hb⟩; refine ⟨_, rfl, ?_⟩; have am := zK (Kd.R_below (zR ac) hb); have an := zK (Kd.R_below (zR aq) hb); have av := zK (below_step (zb HB) hb); clear ac; clear aq; clear HB; have ac := am; have aq := an; have HB := av; clear am an av; (try clear hb); (try clear hk)))
       (try simp only [Act.put, zp, zq, zr])
       go_cut [7] (fun v7 wc => ∃ (kq : Nat) (a7 : List Int), Aside0 (spec_Choices.j1 kq l0 l1 a2 a7 ae = some r) ∧ Aside0 (kq ≤ kj3) ∧ Aside0 (Kd.R (Kd.int .i64) 3 wc w.heap.size (fun _ => True) v7 a7) ∧ Aside0 (Below w.heap.size w wc))
       case first =>
        have H := bE.out; clear bE
        by_cases be : au = ae
        ·rw [if_pos be] at H
         have ar : (au == ae) = true := beq_iff_eq.mpr be
         have aY : (au != ae) = false := bne_eq_false_iff_eq.mpr be
         clear be
         (first | rw [ar] | (simp only [i64_w, i32_w]; rw [ar]) | skip)
         by_cases bw : ad.length < 17592186044416
         ·rw [if_pos bw] at H
          have bW := zK bw; clear bw
          obtain ⟨bX, aZ⟩ : ∃ y_ : List Int, y_ = (ad ++ [0]) := ⟨_, rfl⟩
          replace H : (spec_Choices.j1 kj3 l0 l1 a2 bX ae) = some r := by first | (rw [aZ]; with_reducible exact H) | (have H2_ := (Option.bind_some _ _).symm.trans H; rw [aZ]; with_reducible exact H2_) | (have H2_ := (Option.bind_some _ _).symm.trans H; with_reducible exact H2_) | with_reducible exact H | (rw [aZ]; exact H) | exact H
          have Ny777 := zK aZ; clear aZ; have H' := zK H; clear H
          go_wp2_with (first | ((with_reducible refine gate_builtin (b := .append) (xs := #[.tmp 54, .tmp 55]) rfl ?_); (try (refine gate_guard (by rfl) ?_; dsimp only)); at_builtin; refine Kd.R_append (Kd.int .i64) (w0 := w) w.heap.size rfl (.tmp 54) (.tmp 55) 29 3 (.int .i64 0) 8 rfl Try.underlying29 info3 rfl (by decide) (by omega) bR ad 0 [.int .i64 0] (fun k_ => some k_ ≠ (.slice bU bo.length bV : Value).ownBlock) (fun _ => False) rfl rfl ?aP (fun _ hk => hk.elim) ?aF ?aO ?aB ?aS ?aL ?_; (case aP => exact rfl); (case aB => exact (zb HB)); (case aF => exact (fun k_ hk => Kd.fresh' (Kd.R_lt (zR aq)) k_ hk)); (case aO => exact (by (with_reducible repeat (first | apply Kd.R_alloc | apply Kd.R_drewN | apply Kd.R_drew)); exact Kd.R_mono ac.out (fun _ hk => hk.2))); (case aS => exact (below_size (zb HB))); (case aL => have := bW.out; omega); intro v778 w29 ho hb hg hat; rw [← Ny777.out] at ho; have am := zK (Kd.R_after (ok := (fun _ => True)) (zR aq) hg hat); have an := zK (hb); have av := zK (ho); clear aq; clear HB; clear ac; have aq := am; have HB := an; have bY := av; clear am an av; clear ho hb hg hat))
          go_meet
          case rel => exact ⟨_, (bX), H', ⟨by have := ba.out; first | omega | exact Nat.le_refl _⟩, ⟨by (with_reducible repeat (first | apply Kd.R_alloc | apply Kd.R_drewN | apply Kd.R_drew)); exact Kd.R_mono bY.out (fun _ hk => trivial)⟩, ⟨zb HB⟩⟩
         ·rw [if_neg bw] at H
          exact absurd H (by simp)
        ·rw [if_neg be] at H
         have ar : (au == ae) = false := beq_eq_false_iff_ne.mpr be
         have aY : (au != ae) = true := bne_iff_ne.mpr be
         (first | rw [ar] | (simp only [i64_w, i32_w]; rw [ar]) | skip)
         have H' := zK H; clear H
         go_wp2
         go_meet
         case rel => exact ⟨_, (ad), H', ⟨by have := ba.out; first | omega | exact Nat.le_refl _⟩, ⟨by (with_reducible repeat (first | apply Kd.R_alloc | apply Kd.R_drewN | apply Kd.R_drew)); exact Kd.R_mono ac.out (fun _ hk => trivial)⟩, ⟨zb HB⟩⟩
       case rest =>
        clear bE
        try clear c1
        try clear c2
        try clear p2
        try clear c3
        try clear c4
        try clear p7
        try clear q7
        try clear hx7
        try clear c8
        try clear c10
        try clear bc
        try clear ap
        try clear bt
        try clear bu
        try clear a5
        try clear bv
        try clear a6
        try clear bd
        try clear aV
        try clear aW
        try clear be
        try clear ar
        try clear aY
        try clear bw
        try clear ai
        try clear aj
        try clear p2
        try clear aC
        try clear aD
        obtain ⟨kq, a7, HA, aE, ac, HB⟩ := hcut
        cases kq with
        | zero => exact absurd HA.out (by simp [spec_Choices.j1])
        | succ kj20 =>
         have H := HA.out; clear HA
         simp only [spec_Choices.j1] at H
         have H' := zK H; clear H
         go_wp2
         go_loopg [7, 9] kj20 (fun kq v7 v9 w' => ∃ (ak : List Int) (aH : Int), v9 = .int .i64 aH ∧ Aside0 (spec_Choices.l0 kq l0 l1 a2 ak ae aH = some r) ∧ Aside0 (kq ≤ kj20) ∧ Aside0 (Kd.R (Kd.int .i64) 3 w' w.heap.size (fun _ => True) v7 ak) ∧ Aside0 (Below w.heap.size w w'))
         case atStart => exact ⟨(a7), (0), (by first | rfl | (simp; done) | (simp [*]; done)), H', ⟨Nat.le_refl _⟩, ⟨zR ac⟩, ⟨zb HB⟩⟩
         case round =>
          clear H'
          try clear c1
          try clear c2
          try clear p2
          try clear c3
          try clear c4
          try clear p7
          try clear q7
          try clear hx7
          try clear c8
          try clear c10
          try clear bc
          try clear ap
          try clear bt
          try clear bu
          try clear a5
          try clear bv
          try clear a6
          try clear bd
          try clear aV
          try clear aW
          try clear be
          try clear ar
          try clear aY
          try clear bw
          try clear ai
          try clear aj
          try clear p2
          try clear p7
          try clear aC
          try clear q7
          try clear aD
          obtain ⟨ak, aH, rfl, HA, bf, ac, HB⟩ := hrel
          cases gk with
          | zero => exact absurd HA.out (by simp [spec_Choices.l0])
          | succ k3 =>
           have H := HA.out; clear HA
           simp only [spec_Choices.l0] at H
           by_cases bn : (ak.length : Int) ≤ (l0.length : Int)
           ·rw [if_pos bn] at H
            have bg : decide ((ak.length : Int) ≤ (l0.length : Int)) = true := decide_eq_true bn
            have bh : decide (ak.length ≤ l0.length) = true := decide_eq_true (Int.ofNat_le.mp bn)
            clear bn; have H' := zK H; clear H
            obtain ⟨bG, bH, eo31⟩ := Kd.R_slice ac.out
            subst eo31
            go_wp2
            go_loopg [10, 11] k3 (fun kq v10 v11 w' => ∃ (ab : Int) (aa : Int), v10 = .int .i64 ab ∧ v11 = .int .i64 aa ∧ Aside0 (spec_Choices.l1 kq l0 l1 a2 ak ae aH ab aa = some r) ∧ Aside0 (kq ≤ k3) ∧ Aside0 (Kd.R (Kd.int .i64) 3 w' w.heap.size (fun _ => True) (.slice bG ak.length bH) ak) ∧ Aside0 (Below w.heap.size w w'))
            case atStart => exact ⟨(0), (0), (by first | rfl | (simp; done) | (simp [*]; done)), (by first | rfl | (simp; done) | (simp [*]; done)), H', ⟨Nat.le_refl _⟩, ⟨zR ac⟩, ⟨zb HB⟩⟩
            case round =>
             clear H'
             try clear c1
             try clear c2
             try clear p2
             try clear c3
             try clear c4
             try clear p7
             try clear q7
             try clear hx7
             try clear c8
             try clear c10
             try clear bc
             try clear ap
             try clear bt
             try clear bu
             try clear a5
             try clear bv
             try clear a6
             try clear bd
             try clear aV
             try clear aW
             try clear be
             try clear ar
             try clear aY
             try clear bw
             try clear bn
             try clear bg
             try clear bh
             try clear ai
             try clear aj
             try clear p2
             try clear p7
             try clear aC
             try clear q7
             try clear aD
             obtain ⟨ab, aa, rfl, rfl, HA, bi, ac, HB⟩ := hrel
             cases gk with
             | zero => exact absurd HA.out (by simp [spec_Choices.l1])
             | succ k4 =>
              have H := HA.out; clear HA
              simp only [spec_Choices.l1] at H
              by_cases bI : aa < (l0.length : Int)
              ·rw [if_pos bI] at H
               have bx : decide (aa < (l0.length : Int)) = true := decide_eq_true bI
               clear bI; have bJ := zK H; clear H
               go_upto_region 15 with (fail)
               go_cut [87] (fun v87 wc => ∃ (kq : Nat) (aK : Bool), v87 = .bool aK ∧ Aside0 (spec_Choices.j4 kq l0 l1 a2 ak ae aH ab aa aK = some r) ∧ Aside0 (kq ≤ k4) ∧ Aside0 (Kd.R (Kd.int .i64) 3 wc w.heap.size (fun _ => True) (.slice bG ak.length bH) ak) ∧ Aside0 (Below w.heap.size w wc))
               case first =>
                have H := bJ.out; clear bJ
                by_cases bZ : 0 ≤ aa
                ·rw [if_pos bZ] at H
                 have bj : decide (0 ≤ aa) = true := decide_eq_true bZ
                 clear bZ
                 (first | rw [bj] | (simp only [i64_w, i32_w]; rw [bj]) | skip)
                 by_cases bK : ((rd_T52 l0 aa).f0) > aH
                 ·rw [if_pos bK] at H
                  have bz : decide (aH < ((rd_T52 l0 aa).f0)) = true := decide_eq_true bK
                  clear bK
                  by_cases bA : ab = 0
                  ·rw [if_pos bA] at H
                   have bB : (ab == 0) = true := beq_iff_eq.mpr bA
                   have bC : (ab != 0) = false := bne_eq_false_iff_eq.mpr bA
                   clear bA; have H' := zK H; clear H
                   have aw : 0 ≤ (aa : Int) := of_decide_eq_true (by first | (with_reducible assumption) | assumption)
                   have ax : aa < (l0.length : Int) := of_decide_eq_true (by first | (with_reducible assumption) | assumption)
                   obtain ⟨bk, bl, af, ag, ah⟩ := at_T52 a8.out aa aw ax
                   cases bl
                   replace af := (HB.out.cell (World.block_lt_of_cell? w _ af)).trans af
                   replace ag := (HB.out.cell (World.block_lt_of_cell? w _ ag)).trans ag
                   replace ah := (HB.out.cell (World.block_lt_of_cell? w _ ah)).trans ah
                   replace aw := eq_true aw; replace ax := eq_true ax
                   go_wp2
                   go_meet
                   case rel => exact ⟨_, (true), (by first | rfl | (simp; done) | (simp [*]; done)), H', ⟨by have := ba.out; have := aE.out; have := bf.out; have := bi.out; first | omega | exact Nat.le_refl _⟩, ⟨zR ac⟩, ⟨zb HB⟩⟩
                  ·rw [if_neg bA] at H
                   have bB : (ab == 0) = false := beq_eq_false_iff_ne.mpr bA
                   have bC : (ab != 0) = true := bne_iff_ne.mpr bA
                   have H' := zK H; clear H
                   have aw : 0 ≤ (aa : Int) := of_decide_eq_true (by first | (with_reducible assumption) | assumption)
                   have ax : aa < (l0.length : Int) := of_decide_eq_true (by first | (with_reducible assumption) | assumption)
                   obtain ⟨bk, bl, af, ag, ah⟩ := at_T52 a8.out aa aw ax
                   cases bl
                   replace af := (HB.out.cell (World.block_lt_of_cell? w _ af)).trans af
                   replace ag := (HB.out.cell (World.block_lt_of_cell? w _ ag)).trans ag
                   replace ah := (HB.out.cell (World.block_lt_of_cell? w _ ah)).trans ah
                   replace aw := eq_true aw; replace ax := eq_true ax
                   have bp : 0 ≤ (aa : Int) := of_decide_eq_true (by first | (with_reducible assumption) | assumption)
                   have bq : aa < (l0.length : Int) := of_decide_eq_true (by first | (with_reducible assumption) | assumption)
                   obtain ⟨b0, e781, ay, az, aA⟩ := at_T52 a8.out aa bp bq
                   obtain rfl : bk = b0 := (by injection e781)
                   replace ay := (HB.out.cell (World.block_lt_of_cell? w _ ay)).trans ay
                   replace az := (HB.out.cell (World.block_lt_of_cell? w _ az)).trans az
                   replace aA := (HB.out.cell (World.block_lt_of_cell? w _ aA)).trans aA
                   replace bp := eq_true bp; replace bq := eq_true bq
                   go_wp2
                   go_meet
                   case rel => exact ⟨_, (decide (((rd_T52 l0 aa).f0) < ab)), (by first | rfl | (simp; done) | (simp [*]; done)), H', ⟨by have := ba.out; have := aE.out; have := bf.out; have := bi.out; first | omega | exact Nat.le_refl _⟩, ⟨zR ac⟩, ⟨zb HB⟩⟩
                 ·rw [if_neg bK] at H
                  have bz : decide (aH < ((rd_T52 l0 aa).f0)) = false := decide_eq_false bK
                  clear bK; have H' := zK H; clear H
                  have aw : 0 ≤ (aa : Int) := of_decide_eq_true (by first | (with_reducible assumption) | assumption)
                  have ax : aa < (l0.length : Int) := of_decide_eq_true (by first | (with_reducible assumption) | assumption)
                  obtain ⟨bk, bl, af, ag, ah⟩ := at_T52 a8.out aa aw ax
                  cases bl
                  replace af := (HB.out.cell (World.block_lt_of_cell? w _ af)).trans af
                  replace ag := (HB.out.cell (World.block_lt_of_cell? w _ ag)).trans ag
                  replace ah := (HB.out.cell (World.block_lt_of_cell? w _ ah)).trans ah
                  replace aw := eq_true aw; replace ax := eq_true ax
                  go_wp2
                  go_meet
                  case rel => exact ⟨_, (false), (by first | rfl | (simp; done) | (simp [*]; done)), H', ⟨by have := ba.out; have := aE.out; have := bf.out; have := bi.out; first | omega | exact Nat.le_refl _⟩, ⟨zR ac⟩, ⟨zb HB⟩⟩
                ·rw [if_neg bZ] at H
                 exact absurd H (by simp)
               case rest =>
                clear bJ
                try clear c1
                try clear c2
                try clear p2
                try clear c3
                try clear c4
                try clear p7
                try clear q7
                try clear hx7
                try clear c8
                try clear c10
                try clear bc
                try clear ap
                try clear bt
                try clear bu
                try clear a5
                try clear bv
                try clear a6
                try clear bd
                try clear aV
                try clear aW
                try clear be
                try clear ar
                try clear aY
                try clear bw
                try clear bn
                try clear bg
                try clear bh
                try clear bI
                try clear bx
                try clear bZ
                try clear bj
                try clear bK
                try clear bz
                try clear bA
                try clear bB
                try clear bC
                try clear ai
                try clear aj
                try clear af
                try clear ag
                try clear ah
                try clear ay
                try clear az
                try clear aA
                try clear p2
                try clear p7
                try clear aC
                try clear aw
                try clear bp
                try clear q7
                try clear aD
                try clear ax
                try clear bq
                obtain ⟨kq, aK, rfl, HA, br, ac, HB⟩ := hcut
                cases kq with
                | zero => exact absurd HA.out (by simp [spec_Choices.j4])
                | succ kj32 =>
                 have H := HA.out; clear HA
                 simp only [spec_Choices.j4] at H
                 by_cases c37 : aK = true
                 ·subst c37
                  have H1 : (if 0 ≤ aa then (if aa < (l0.length : Int) then (spec_Choices.l1 kj32 l0 l1 a2 ak ae aH ((rd_T52 l0 aa).f0) (wrap64 (aa + 1))) else (none)) else (none)) = some r := by rw [if_pos rfl] at H; exact H
                  clear H; have H := H1; clear H1
                  by_cases c38 : 0 ≤ aa
                  ·rw [if_pos c38] at H
                   have c38b0 : decide (0 ≤ aa) = true := decide_eq_true c38
                   clear c38
                   by_cases c39 : aa < (l0.length : Int)
                   ·rw [if_pos c39] at H
                    have c39b0 : decide (aa < (l0.length : Int)) = true := decide_eq_true c39
                    clear c39; have H' := zK H; clear H
                    have bL : 0 ≤ (aa : Int) := of_decide_eq_true (by first | (with_reducible assumption) | assumption)
                    have bM : aa < (l0.length : Int) := of_decide_eq_true (by first | (with_reducible assumption) | assumption)
                    obtain ⟨ad782, e782, aM, aN, aQ⟩ := at_T52 a8.out aa bL bM
                    cases e782
                    replace aM := (HB.out.cell (World.block_lt_of_cell? w _ aM)).trans aM
                    replace aN := (HB.out.cell (World.block_lt_of_cell? w _ aN)).trans aN
                    replace aQ := (HB.out.cell (World.block_lt_of_cell? w _ aQ)).trans aQ
                    replace bL := eq_true bL; replace bM := eq_true bM
                    go_wp2
                    go_roundg kj32
                    case measure => have := ba.out; have := aE.out; have := bf.out; have := bi.out; have := br.out; omega
                    case rel => exact ⟨((rd_T52 l0 aa).f0), (wrap64 (aa + 1)), (by first | rfl | (simp; done) | (simp [*]; done)), (by first | rfl | (simp; done) | (simp [*]; done)), H', ⟨by have := ba.out; have := aE.out; have := bf.out; have := bi.out; have := br.out; omega⟩, ⟨zR ac⟩, ⟨zb HB⟩⟩
                   ·rw [if_neg c39] at H
                    exact absurd H (by simp)
                  ·rw [if_neg c38] at H
                   exact absurd H (by simp)
                 ·replace c37 := Bool.eq_false_iff.mpr c37
                  subst c37
                  have H1 : (spec_Choices.l1 kj32 l0 l1 a2 ak ae aH ab (wrap64 (aa + 1))) = some r := by rw [if_neg (show ¬ (false = true) by decide)] at H; exact H
                  clear H; have H := H1; clear H1; have H' := zK H; clear H
                  go_wp2
                  go_roundg kj32
                  case measure => have := ba.out; have := aE.out; have := bf.out; have := bi.out; have := br.out; omega
                  case rel => exact ⟨(ab), (wrap64 (aa + 1)), (by first | rfl | (simp; done) | (simp [*]; done)), (by first | rfl | (simp; done) | (simp [*]; done)), H', ⟨by have := ba.out; have := aE.out; have := bf.out; have := bi.out; have := br.out; omega⟩, ⟨zR ac⟩, ⟨zb HB⟩⟩
              ·rw [if_neg bI] at H
               have bx : decide (aa < (l0.length : Int)) = false := decide_eq_false bI
               clear bI
               by_cases bN : ab = 0
               ·rw [if_pos bN] at H
                have b1 : (ab == 0) = true := beq_iff_eq.mpr bN
                have b2 : (ab != 0) = false := bne_eq_false_iff_eq.mpr bN
                clear bN; obtain rfl := Option.some.inj H
                go_wp2
                go_ret
                exact ⟨_, by first | rfl | (simp [errW_none, errW_some] <;> rfl) | (simp [*, errW_none, errW_some] <;> rfl), by (with_reducible repeat (first | apply Kd.R_alloc | apply Kd.R_drewN | apply Kd.R_drew)); exact ac.out, by repeat (first | (with_reducible first | exact HB.out | apply zB | apply zC | apply zE) | exact HB.out)⟩
               ·rw [if_neg bN] at H
                have b1 : (ab == 0) = false := beq_eq_false_iff_ne.mpr bN
                have b2 : (ab != 0) = true := bne_iff_ne.mpr bN
                obtain ⟨bb, a0⟩ : ∃ y_ : List Int, y_ = (([] : List Int)) := ⟨_, rfl⟩
                replace H : ((spec_l03Most.f k4 l0 l1 0 bb a2 ab).bind fun aI => (if aI = ae then (if ak.length < 17592186044416 then (spec_Choices.l0 k4 l0 l1 a2 (ak ++ [ab]) ae ab) else (none)) else (spec_Choices.l0 k4 l0 l1 a2 ak ae ab))) = some r := by first | (rw [a0]; with_reducible exact H) | (have H2_ := (Option.bind_some _ _).symm.trans H; rw [a0]; with_reducible exact H2_) | (have H2_ := (Option.bind_some _ _).symm.trans H; with_reducible exact H2_) | with_reducible exact H | (rw [a0]; exact H) | exact H
                have Ny783 := zK a0; clear a0; replace H := Option.bind_eq_some_iff.mp H
                obtain ⟨aI, b3, H⟩ := H
                replace H : (if aI = ae then (if ak.length < 17592186044416 then (spec_Choices.l0 k4 l0 l1 a2 (ak ++ [ab]) ae ab) else (none)) else (spec_Choices.l0 k4 l0 l1 a2 ak ae ab)) = some r := H
                have A41 := zK b3; clear b3
                by_cases bO : aI = ae
                ·rw [if_pos bO] at H
                 have b4 : (aI == ae) = true := beq_iff_eq.mpr bO
                 have b5 : (aI != ae) = false := bne_eq_false_iff_eq.mpr bO
                 clear bO
                 by_cases c43 : ak.length < 17592186044416
                 ·rw [if_pos c43] at H
                  have b6 := zK c43; clear c43
                  obtain ⟨b7, a1⟩ : ∃ y_ : List Int, y_ = (ak ++ [ab]) := ⟨_, rfl⟩
                  replace H : (spec_Choices.l0 k4 l0 l1 a2 b7 ae ab) = some r := by first | (rw [a1]; with_reducible exact H) | (have H2_ := (Option.bind_some _ _).symm.trans H; rw [a1]; with_reducible exact H2_) | (have H2_ := (Option.bind_some _ _).symm.trans H; with_reducible exact H2_) | with_reducible exact H | (rw [a1]; exact H) | exact H
                  have Ny787 := zK a1; clear a1; have H' := zK H; clear H
                  go_wp2_with (first | ((with_reducible refine gate_dst (N := 97) rfl ?_); (try (refine gate_guard (by rfl) ?_; dsimp only)); refine Kd.R_lit (Kd.int .i64) _ 3 ?hg (N := 97) ?hd (xs := ([] : List Int)) (inner := []) (ok := fun _ => True) (okp := fun _ => True) ?hr ?hp (fun _ hk => hk) trivial (Below.refl _ _) (Nat.le_refl _) (by simp) ?_; (case hd => rfl); (case hg => rfl); (case hr => first | (go_simp; done) | (go_simp; rfl)); (case hp => exact (Reps.none _ _)); intro v784 w44 ho45 hb hg_ hnew_; clear hg_ hnew_; (first | rw [← Ny783.out] at ho45 | (simp only [Int.reduceToNat] at ho45; rw [← Ny783.out] at ho45)); have am := zK (Kd.R_elder' (zR ac) (Kd.R_base ho45) hb); have an := zK (Kd.R_lower (Kd.R_new' ho45 (Kd.R_lt (zR ac))) (below_size (zb HB))); have av := zK (below_step (zb HB) hb); clear ac; clear HB; have ac := am; have al := an; have HB := av; clear am an av; clear hb ho45; obtain ⟨b8, b9, eo46⟩ := Kd.R_slice al.out; subst eo46) | ((with_reducible refine gate_callee (f := 86) rfl ?_); refine goesL_ (some 100) rfl rfl Try.func86 (by kernel_rfl) rfl #[.slice A0 l0.length c0, .slice (some aJ) l1.length c1, .int .i64 0, .slice b8 bb.length b9, .int .i64 a2, .int .i64 ab] rfl (by (try simp only [List.map_toArray, List.map_cons, List.map_nil]); first | done | rfl | (simp only [List.length_drop, List.length_take]; rfl)) ?_; (with_reducible refine (spec_l03Most.calls k4 _ _ l0 _ _ l1 0 _ _ bb a2 ab aI _ ?side1 ?side2 ?side3 ?side4 ?side5 ?side6 A41.out).mono ?_); (case side1 => repeat (first | exact (Kd.C_below a8.out HB.out) | (with_reducible refine Kd.C_alloc ?_ _) | (with_reducible refine Kd.C_drewN ?_ _) | (with_reducible refine Kd.C_drew ?_))); (case side2 => exact bs.out); (case side3 => repeat (first | exact (Kd.C_below bm.out HB.out) | (with_reducible refine Kd.C_alloc ?_ _) | (with_reducible refine Kd.C_drewN ?_ _) | (with_reducible refine Kd.C_drew ?_))); (case side4 => exact bD.out); (case side5 => repeat (first | exact (Kd.R_reads' al.out).2.2 | (with_reducible refine Kd.C_alloc ?_ _) | (with_reducible refine Kd.C_drewN ?_ _) | (with_reducible refine Kd.C_drew ?_))); (case side6 => exact (Kd.R_reads' al.out).2.1); rintro e w47 ⟨rfl, hb⟩; refine ⟨_, rfl, ?_⟩; have am := zK (Kd.R_below (zR ac) hb); have an := zK (Kd.R_below (zR al) hb); have av := zK (below_step (zb HB) hb); clear ac; clear al; clear HB; have ac := am; have al := an; have HB := av; clear am an av; (try clear hb); (try clear hk)) | ((with_reducible refine gate_builtin (b := .append) (xs := #[.tmp 103, .tmp 105]) rfl ?_); (try (refine gate_guard (by rfl) ?_; dsimp only)); at_builtin; refine Kd.R_append (Kd.int .i64) (w0 := w) w.heap.size rfl (.tmp 103) (.tmp 105) 29 3 (.int .i64 0) 8 rfl Try.underlying29 info3 rfl (by decide) (by omega) (.slice bG ak.length bH) ak ab [.int .i64 ab] (fun k_ => some k_ ≠ (.slice b8 bb.length b9 : Value).ownBlock) (fun _ => False) rfl rfl ?aP (fun _ hk => hk.elim) ?aF ?aO ?aB ?aS ?aL ?_; (case aP => exact rfl); (case aB => exact (zb HB)); (case aF => exact (fun k_ hk => Kd.fresh' (Kd.R_lt (zR al)) k_ hk)); (case aO => exact (by (with_reducible repeat (first | apply Kd.R_alloc | apply Kd.R_drewN | apply Kd.R_drew)); exact Kd.R_mono ac.out (fun _ hk => hk.2))); (case aS => exact (below_size (zb HB))); (case aL => have := b6.out; omega); intro v788 w48 ho hb hg hat; rw [← Ny787.out] at ho; have am := zK (Kd.R_after (ok := (fun _ => True)) (zR al) hg hat); have an := zK (hb); have av := zK (ho); clear al; clear HB; clear ac; have al := am; have HB := an; have ca := av; clear am an av; clear ho hb hg hat))
                  go_roundg k4
                  case measure => have := ba.out; have := aE.out; have := bf.out; have := bi.out; omega
                  case rel => exact ⟨(b7), (ab), (by first | rfl | (simp; done) | (simp [*]; done)), H', ⟨by have := ba.out; have := aE.out; have := bf.out; have := bi.out; omega⟩, ⟨by (with_reducible repeat (first | apply Kd.R_alloc | apply Kd.R_drewN | apply Kd.R_drew)); exact Kd.R_mono ca.out (fun _ hk => trivial)⟩, ⟨zb HB⟩⟩
                 ·rw [if_neg c43] at H
                  exact absurd H (by simp)
                ·rw [if_neg bO] at H
                 have b4 : (aI == ae) = false := beq_eq_false_iff_ne.mpr bO
                 have b5 : (aI != ae) = true := bne_iff_ne.mpr bO
                 have H' := zK H; clear H
                 go_wp2_with (first | ((with_reducible refine gate_dst (N := 97) rfl ?_); (try (refine gate_guard (by rfl) ?_; dsimp only)); refine Kd.R_lit (Kd.int .i64) _ 3 ?hg (N := 97) ?hd (xs := ([] : List Int)) (inner := []) (ok := fun _ => True) (okp := fun _ => True) ?hr ?hp (fun _ hk => hk) trivial (Below.refl _ _) (Nat.le_refl _) (by simp) ?_; (case hd => rfl); (case hg => rfl); (case hr => first | (go_simp; done) | (go_simp; rfl)); (case hp => exact (Reps.none _ _)); intro v784 w49 ho50 hb hg_ hnew_; clear hg_ hnew_; (first | rw [← Ny783.out] at ho50 | (simp only [Int.reduceToNat] at ho50; rw [← Ny783.out] at ho50)); have am := zK (Kd.R_elder' (zR ac) (Kd.R_base ho50) hb); have an := zK (Kd.R_lower (Kd.R_new' ho50 (Kd.R_lt (zR ac))) (below_size (zb HB))); have av := zK (below_step (zb HB) hb); clear ac; clear HB; have ac := am; have al := an; have HB := av; clear am an av; clear hb ho50; obtain ⟨Ao51, co51, eo51⟩ := Kd.R_slice al.out; subst eo51) | ((with_reducible refine gate_callee (f := 86) rfl ?_); refine goesL_ (some 100) rfl rfl Try.func86 (by kernel_rfl) rfl #[.slice A0 l0.length c0, .slice (some aJ) l1.length c1, .int .i64 0, .slice Ao51 bb.length co51, .int .i64 a2, .int .i64 ab] rfl (by (try simp only [List.map_toArray, List.map_cons, List.map_nil]); first | done | rfl | (simp only [List.length_drop, List.length_take]; rfl)) ?_; (with_reducible refine (spec_l03Most.calls k4 _ _ l0 _ _ l1 0 _ _ bb a2 ab aI _ ?side1 ?side2 ?side3 ?side4 ?side5 ?side6 A41.out).mono ?_); (case side1 => repeat (first | exact (Kd.C_below a8.out HB.out) | (with_reducible refine Kd.C_alloc ?_ _) | (with_reducible refine Kd.C_drewN ?_ _) | (with_reducible refine Kd.C_drew ?_))); (case side2 => exact bs.out); (case side3 => repeat (first | exact (Kd.C_below bm.out HB.out) | (with_reducible refine Kd.C_alloc ?_ _) | (with_reducible refine Kd.C_drewN ?_ _) | (with_reducible refine Kd.C_drew ?_))); (case side4 => exact bD.out); (case side5 => repeat (first | exact (Kd.R_reads' al.out).2.2 | (with_reducible refine Kd.C_alloc ?_ _) | (with_reducible refine Kd.C_drewN ?_ _) | (with_reducible refine Kd.C_drew ?_))); (case side6 => exact (Kd.R_reads' al.out).2.1); rintro e w52 ⟨rfl, hb⟩; refine ⟨_, rfl, ?_⟩; have am := zK (Kd.R_below (zR ac) hb); have an := zK (Kd.R_below (zR al) hb); have av := zK (below_step (zb HB) hb); clear ac; clear al; clear HB; have ac := am; have al := an; have HB := av; clear am an av; (try clear hb); (try clear hk)))
                 go_roundg k4
                 case measure => have := ba.out; have := aE.out; have := bf.out; have := bi.out; omega
                 case rel => exact ⟨(ak), (ab), (by first | rfl | (simp; done) | (simp [*]; done)), H', ⟨by have := ba.out; have := aE.out; have := bf.out; have := bi.out; omega⟩, ⟨by (with_reducible repeat (first | apply Kd.R_alloc | apply Kd.R_drewN | apply Kd.R_drew)); exact Kd.R_mono ac.out (fun _ hk => trivial)⟩, ⟨zb HB⟩⟩
           ·rw [if_neg bn] at H
            have bg : decide ((ak.length : Int) ≤ (l0.length : Int)) = false := decide_eq_false bn
            have bh : decide (ak.length ≤ l0.length) = false := decide_eq_false (fun h => bn (Int.ofNat_le.mpr h))
            clear bn; obtain rfl := Option.some.inj H
            obtain ⟨Ao53, co53, eo53⟩ := Kd.R_slice ac.out
            subst eo53
            go_wp2
            go_ret
            exact ⟨_, by first | rfl | (simp [errW_none, errW_some] <;> rfl) | (simp [*, errW_none, errW_some] <;> rfl), by (with_reducible repeat (first | apply Kd.R_alloc | apply Kd.R_drewN | apply Kd.R_drew)); exact ac.out, by repeat (first | (with_reducible first | exact HB.out | apply zB | apply zC | apply zE) | exact HB.out)⟩
      ·rw [if_neg bd] at H
       have aV : (((rd_T89 l1 a2).f1) == 0) = false := beq_eq_false_iff_ne.mpr bd
       have aW : (((rd_T89 l1 a2).f1) != 0) = true := bne_iff_ne.mpr bd
       obtain ⟨y769, a3⟩ : ∃ y_ : List Int, y_ = (([(rd_T89 l1 a2).f1] : List Int)) := ⟨_, rfl⟩
       replace H : (some y769) = some r := by first | (rw [a3]; with_reducible exact H) | (have H2_ := (Option.bind_some _ _).symm.trans H; rw [a3]; with_reducible exact H2_) | (have H2_ := (Option.bind_some _ _).symm.trans H; with_reducible exact H2_) | with_reducible exact H | (rw [a3]; exact H) | exact H
       have Ny769 := zK a3; clear a3; obtain rfl := Option.some.inj H
       have aC : 0 ≤ (a2 : Int) := of_decide_eq_true (by first | (with_reducible assumption) | assumption)
       have aD : a2 < (l1.length : Int) := of_decide_eq_true (by first | (with_reducible assumption) | assumption)
       obtain ⟨aJ, bF, ai, aj⟩ := at_T89 bm.out a2 aC aD
       cases bF
       replace ai := (HB.out.cell (World.block_lt_of_cell? w _ ai)).trans ai
       replace aj := (HB.out.cell (World.block_lt_of_cell? w _ aj)).trans aj
       replace aC := eq_true aC; replace aD := eq_true aD
       have bP : 0 ≤ (a2 : Int) := of_decide_eq_true (by first | (with_reducible assumption) | assumption)
       have bQ : a2 < (l1.length : Int) := of_decide_eq_true (by first | (with_reducible assumption) | assumption)
       obtain ⟨cb, e768, aR, aT⟩ := at_T89 bm.out a2 bP bQ
       obtain rfl : aJ = cb := (by injection e768)
       replace aR := (HB.out.cell (World.block_lt_of_cell? w _ aR)).trans aR
       replace aT := (HB.out.cell (World.block_lt_of_cell? w _ aT)).trans aT
       replace bP := eq_true bP; replace bQ := eq_true bQ
       go_wp2_with (first | ((with_reducible refine gate_dst (N := 43) rfl ?_); (try (refine gate_guard (by rfl) ?_; dsimp only)); refine Kd.R_lit (Kd.int .i64) _ 3 ?hg (N := 43) ?hd (xs := ([(rd_T89 l1 a2).f1] : List Int)) (inner := [.int .i64 ((rd_T89 l1 a2).f1)]) (ok := fun _ => True) (okp := fun _ => True) ?hr ?hp (fun _ hk => hk) trivial (Below.refl _ _) (Nat.le_refl _) (by simp) ?_; (case hd => rfl); (case hg => rfl); (case hr => first | (go_simp; done) | (go_simp; rfl)); (case hp => exact (Reps.one (show Kd.M (Kd.int .i64) _ _ _ ((rd_T89 l1 a2).f1) [.int .i64 ((rd_T89 l1 a2).f1)] from rfl) (Reps.none _ _))); intro v770 w54 ho55 hb hg_ hnew_; clear hg_ hnew_; (first | rw [← Ny769.out] at ho55 | (simp only [Int.reduceToNat] at ho55; rw [← Ny769.out] at ho55)); have am := zK (Kd.R_elder' (zR ac) (Kd.R_base ho55) hb); have an := zK (Kd.R_lower (Kd.R_new' ho55 (Kd.R_lt (zR ac))) (below_size (zb HB))); have av := zK (below_step (zb HB) hb); clear ac; clear HB; have ac := am; have cc := an; have HB := av; clear am an av; clear hb ho55))
       go_ret
       exact ⟨_, by first | rfl | (simp [errW_none, errW_some] <;> rfl) | (simp [*, errW_none, errW_some] <;> rfl), by (with_reducible repeat (first | apply Kd.R_alloc | apply Kd.R_drewN | apply Kd.R_drew)); exact Kd.R_mono cc.out (fun _ hk => trivial), by repeat (first | (with_reducible first | exact HB.out | apply zB | apply zC | apply zE) | exact HB.out)⟩
     ·rw [if_neg bv] at H
      exact absurd H (by simp)
    ·rw [if_neg bu] at H
     exact absurd H (by simp)
end Go.Proofs.Ytdmbfmfdijgdkaa.Px
