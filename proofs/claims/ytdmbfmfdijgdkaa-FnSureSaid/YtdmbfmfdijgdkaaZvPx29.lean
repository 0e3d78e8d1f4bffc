import Derived.Test.YtdmbfmfdijgdkaaZvPx0
import Derived.Test.YtdmbfmfdijgdkaaZvPx6
import Derived.Test.YtdmbfmfdijgdkaaZvPx10
import Derived.Test.YtdmbfmfdijgdkaaZvPx11
import Derived.Test.YtdmbfmfdijgdkaaZvPx12
import Derived.Test.YtdmbfmfdijgdkaaZvPx16
import Derived.Test.YtdmbfmfdijgdkaaZvPx18
namespace Go.Proofs.Ytdmbfmfdijgdkaa.Px
open Go.RowKit Go.Proofs.YtdmbfmfdijgdkaaW.PrintWords Go.Proofs.YtdmbfmfdijgdkaaW.PrintLast Go.Proofs.YtdmbfmfdijgdkaaW.PrintMore
attribute [local go_sem] max2_int min2_int max_two min_two max_three min_three max_four min_four   
set_option linter.unusedVariables false
set_option linter.unusedSimpArgs false
def spec_DrawExpects.f (k : Nat) (l0 : List Int) : Option ((List (S52)) × (List (S89))) := (spec_l01New.f k l0).bind fun bt948 => ((spec_l03Expects.f k bt948.1 bt948.2.1 bt948.2.2).bind fun bt952 => ((spec_l03Sights.f k bt948.1 bt952.2.1 bt952.2.2).bind fun bt957 => (some (bt952.1, bt957.1))))
set_option maxHeartbeats 8000000 in
set_option maxRecDepth 100000 in
theorem spec_DrawExpects.calls (k : Nat) (A0 : Option Addr) (c0 : Nat) (l0 : List Int) (r1 : List (S52)) (r2 : List (S89)) (w : World) (hr0 : Kd.C (Kd.int .u8) w A0 l0.length l0) (hc0 : l0.length ≤ c0) (h : spec_DrawExpects.f k l0 = some (r1, r2)) :
  Calls Try.prog 55 #[.slice A0 l0.length c0] w fun e w' => ∃ v0_ v1_ : Value, e = .returned (.tuple #[v0_, v1_]) ∧ Kd.R k52 52 w' w.heap.size (fun _ => True) v0_ r1 ∧ Kd.R k89 89 w' w.heap.size (fun _ => True) v1_ r2 ∧ Below w.heap.size w w' := by
 have HR0 := zK hr0; have HC0 := zK hc0; clear hr0 hc0
 have HB := zK (Below.refl w.heap.size w)
 have H : ((spec_l01New.f k l0).bind fun bt948 => ((spec_l03Expects.f k bt948.1 bt948.2.1 bt948.2.2).bind fun bt952 => ((spec_l03Sights.f k bt948.1 bt952.2.1 bt952.2.2).bind fun bt957 => (some (bt952.1, bt957.1))))) = some (r1, r2) := h
 clear h; replace H := Option.bind_eq_some_iff.mp H
 obtain ⟨⟨aa, ag, ah⟩, A20, H⟩ := H
 replace H : ((spec_l03Expects.f k aa ag ah).bind fun bt952 => ((spec_l03Sights.f k aa bt952.2.1 bt952.2.2).bind fun bt957 => (some (bt952.1, bt957.1)))) = some (r1, r2) := H
 have A2 := zK A20; clear A20; replace H := Option.bind_eq_some_iff.mp H
 obtain ⟨⟨ai, ac, ad⟩, A30, H⟩ := H
 replace H : ((spec_l03Sights.f k aa ac ad).bind fun bt957 => (some (ai, bt957.1))) = some (r1, r2) := H
 have A3 := zK A30; clear A30; replace H := Option.bind_eq_some_iff.mp H
 obtain ⟨⟨aj, t960, t961⟩, A40, H⟩ := H
 replace H : (some (ai, aj)) = some (r1, r2) := H
 have A4 := zK A40; clear A40
 simp only [Option.some.injEq, Prod.mk.injEq] at H
 obtain ⟨rfl, rfl⟩ := H
 go_enter Try.func55, Try.ntmps55
 go_wp2_with (first | ((with_reducible refine gate_callee (f := 62) rfl ?_); refine goesL_ (some 7) rfl rfl Try.func62 (by kernel_rfl) rfl #[.slice A0 l0.length c0] rfl (by (try simp only [List.map_toArray, List.map_cons, List.map_nil]); first | done | rfl | (simp only [List.length_drop, List.length_take]; rfl)) ?_; (with_reducible refine (spec_l01New.calls k _ _ l0 aa ag ah w _ ?side1 ?side2 ?side3 A2.out).mono ?_); (case side1 => repeat (first | (with_reducible first | exact HB.out | apply zB | apply zC | apply zE) | exact HB.out)); (case side2 => exact HR0.out); (case side3 => exact HC0.out); rintro e w5 ⟨g951, rfl, hi, hb, hb2⟩; refine ⟨_, rfl, ?_⟩; have ae := zK (hb); have af := zK (hi); clear HB; have HB := ae; have HI951 := af; clear ae af; (try clear hb); (try clear hb2); (try clear hk); (try clear hi)) | ((with_reducible refine gate_callee (f := 93) rfl ?_); refine goesL_ (some 9) rfl rfl Try.func93 (by kernel_rfl) rfl #[.pointer (some ⟨g951, 0, none⟩)] rfl (by (try simp only [List.map_toArray, List.map_cons, List.map_nil]); first | done | rfl | (simp only [List.length_drop, List.length_take]; rfl)) ?_; (with_reducible refine (spec_l03Expects.calls k g951 aa ag ah ai ac ad w _ ?side1 ?side2 A3.out).mono ?_); (case side1 => repeat (first | (with_reducible first | exact HI951.out | apply IsS104.alloc | apply IsS104.drewN | apply IsS104.drew | apply IsS104.set_1 | apply IsS104.set_2) | exact HI951.out)); (case side2 => repeat (first | (with_reducible first | exact HB.out | apply zB | apply zC | apply zE | refine zS ?_ (IsS104.ge HI951.out)) | exact HB.out)); rintro e w6 ⟨v953, rfl, ho0, hi, hb, hk⟩; refine ⟨_, rfl, ?_⟩; have ae := zK (Kd.R_lower ho0 (below_size (by repeat (first | (with_reducible first | exact HB.out | apply zB | apply zC | apply zE | refine zS ?_ (IsS104.ge HI951.out)) | exact HB.out)))); have af := zK (hb); have ak := zK (hi); clear HB; clear HI951; have ab := ae; have HB := af; have HI951 := ak; clear ae af ak; (try clear hb); (try clear hb2); (try clear hk); (try clear hi); (try clear ho0)) | ((with_reducible refine gate_callee (f := 94) rfl ?_); refine goesL_ (some 12) rfl rfl Try.func94 (by kernel_rfl) rfl #[.pointer (some ⟨g951, 0, none⟩)] rfl (by (try simp only [List.map_toArray, List.map_cons, List.map_nil]); first | done | rfl | (simp only [List.length_drop, List.length_take]; rfl)) ?_; (with_reducible refine (spec_l03Sights.calls k g951 aa ac ad aj t960 t961 w _ ?side1 ?side2 A4.out).mono ?_); (case side1 => repeat (first | (with_reducible first | exact HI951.out | apply IsS104.alloc | apply IsS104.drewN | apply IsS104.drew | apply IsS104.set_1 | apply IsS104.set_2) | exact HI951.out)); (case side2 => repeat (first | (with_reducible first | exact HB.out | apply zB | apply zC | apply zE | refine zS ?_ (IsS104.ge HI951.out)) | exact HB.out)); rintro e w7 ⟨v958, rfl, ho0, hi, hb, hk⟩; refine ⟨_, rfl, ?_⟩; have ae := zK (Kd.R_mono (Kd.R_keep (IsS104.apart (show IsS104 w _ g951 aa ac ad from by repeat (first | (with_reducible first | exact HI951.out | apply IsS104.alloc | apply IsS104.drewN | apply IsS104.drew | apply IsS104.set_1 | apply IsS104.set_2) | exact HI951.out)) (zR ab) (by decide)) hk (fun _ h => h.2)) (fun _ h => h.1)); have af := zK (Kd.R_lower ho0 (below_size (by repeat (first | (with_reducible first | exact HB.out | apply zB | apply zC | apply zE | refine zS ?_ (IsS104.ge HI951.out)) | exact HB.out)))); have ak := zK (hb); have n3_ := zK (hi); clear ab; clear HB; clear HI951; have ab := ae; have al := af; have HB := ak; have HI951 := n3_; clear ae af ak n3_; (try clear hb); (try clear hb2); (try clear hk); (try clear hi); (try clear ho0)))
 go_ret2
 exact ⟨_, _, by first | rfl | (simp [errW_none, errW_some] <;> rfl) | (simp [*, errW_none, errW_some] <;> rfl), by (with_reducible repeat (first | apply Kd.R_alloc | apply Kd.R_drewN | apply Kd.R_drew)); exact ab.out, by (with_reducible repeat (first | apply Kd.R_alloc | apply Kd.R_drewN | apply Kd.R_drew)); exact al.out, by repeat (first | (with_reducible first | exact HB.out | apply zB | apply zC | apply zE | refine zS ?_ (IsS104.ge HI951.out)) | exact HB.out)⟩
mutual
def laws_FnSure.j0 : Nat → List (S52) → List (S89) → List Int → List Int → Bool → Option (Bool)
 | 0, _, _, _, _, _ => none
 | k + 1, x3, x4, x5, x6, x36 => if x36 = true then (some false) else (laws_FnSure.l0 k x3 x4 x5 x6 0)
def laws_FnSure.l0 : Nat → List (S52) → List (S89) → List Int → List Int → Int → Option (Bool)
 | 0, _, _, _, _, _ => none
 | k + 1, x3, x4, x5, x6, x7 => if x7 < (x4.length : Int) then ((impl_Choices.f k x3 x4 x7).bind fun t979 => ((spec_Choices.f k x3 x4 x7).bind fun t982 => ((laws_sameInts.f k t979 t982).bind fun t985 => (if t985 = true then (if (t979.length : Int) = 0 then (laws_FnSure.j2 k x3 x4 x5 x6 x7 t979 true) else (if 0 ≤ x7 then (if x7 < (x6.length : Int) then (if (rd x6 x7) ≥ 0 then (if x7 < (x5.length : Int) then (if (rd x6 x7) = (rd x5 x7) then (laws_FnSure.j2 k x3 x4 x5 x6 x7 t979 ((decide ((rd x6 x7) ≥ 0)) != ((t979.length : Int) == 1))) else (laws_FnSure.j2 k x3 x4 x5 x6 x7 t979 true)) else (none)) else (laws_FnSure.j2 k x3 x4 x5 x6 x7 t979 ((decide ((rd x6 x7) ≥ 0)) != ((t979.length : Int) == 1)))) else (none)) else (none))) else (laws_FnSure.j2 k x3 x4 x5 x6 x7 t979 true))))) else ((impl_Choices.f k x3 x4 (x4.length : Int)).bind fun t997 => (if (t997.length : Int) = 0 then ((impl_Choices.f k x3 x4 (-1)).bind fun t1000 => (some ((t1000.length : Int) == 0))) else (some false)))
def laws_FnSure.j2 : Nat → List (S52) → List (S89) → List Int → List Int → Int → List Int → Bool → Option (Bool)
 | 0, _, _, _, _, _, _, _ => none
 | k + 1, x3, x4, x5, x6, x7, x8, x87 => if x87 = true then (some false) else (laws_FnSure.l1 k x3 x4 x5 x6 x7 x8 false 0)
def laws_FnSure.l1 : Nat → List (S52) → List (S89) → List Int → List Int → Int → List Int → Bool → Int → Option (Bool)
 | 0, _, _, _, _, _, _, _, _ => none
 | k + 1, x3, x4, x5, x6, x7, x8, x9, x10 => if x10 < (x8.length : Int) then (if x9 = true then (if x10 > 0 then (if 0 ≤ x10 then (if 0 ≤ (wrap64 (x10 - 1)) then (if (wrap64 (x10 - 1)) < (x8.length : Int) then (if (rd x8 x10) ≤ (rd x8 (wrap64 (x10 - 1))) then (some false) else (laws_FnSure.l1 k x3 x4 x5 x6 x7 x8 true (wrap64 (x10 + 1)))) else (none)) else (none)) else (none)) else (laws_FnSure.l1 k x3 x4 x5 x6 x7 x8 true (wrap64 (x10 + 1)))) else (if 0 ≤ x10 then (if 0 ≤ x7 then (if x7 < (x5.length : Int) then (if x10 > 0 then (if 0 ≤ (wrap64 (x10 - 1)) then (if (wrap64 (x10 - 1)) < (x8.length : Int) then (if (rd x8 x10) ≤ (rd x8 (wrap64 (x10 - 1))) then (some false) else (laws_FnSure.l1 k x3 x4 x5 x6 x7 x8 ((rd x8 x10) == (rd x5 x7)) (wrap64 (x10 + 1)))) else (none)) else (none)) else (laws_FnSure.l1 k x3 x4 x5 x6 x7 x8 ((rd x8 x10) == (rd x5 x7)) (wrap64 (x10 + 1)))) else (none)) else (none)) else (none))) else (if x9 = true then (laws_FnSure.l0 k x3 x4 x5 x6 (wrap64 (x7 + 1))) else (some false))
end
def laws_FnSure.f (k : Nat) (l0 : List Int) : Option (Bool) := (laws_big.f l0).bind fun t962 => (if t962 = true then (some true) else ((spec_DrawExpects.f k l0).bind fun bt963 => ((impl_Assign.f k bt963.1 bt963.2).bind fun t969 => ((impl_Sure.f k bt963.1 bt963.2).bind fun t972 => (if (t969.length : Int) = (bt963.2.length : Int) then ((spec_Sure.f k bt963.1 bt963.2).bind fun t975 => ((laws_sameInts.f k t972 t975).bind fun t978 => (laws_FnSure.j0 k bt963.1 bt963.2 t969 t972 (!t978)))) else (laws_FnSure.j0 k bt963.1 bt963.2 t969 t972 true))))))
def laws_FnSure.T12 : Bool × List (List Nat × List Nat) := (true, [([], []), ([], []), ([], []), ([], []), ([1, 2, 3], [1, 2, 3]), ([0, 4, 4], [0, 4]), ([5], [5]), ([6, 5], [6]), ([7], [7]), ([8, 7], [7, 8]), ([9, 7], [7, 9]), ([7, 10], [7, 10]), ([11, 7], [11]), ([12], [12]), ([12], [12]), ([13, 14, 12], [12, 13, 14]), ([15, 12], [12, 15]), ([16, 12], [12, 16]), ([17, 12, 12], [12, 17]), ([18], [18]), ([18], [18]), ([19, 20, 18], [18, 19, 20]), ([21, 18], [18, 21]), ([18], [18]), ([18], [18]), ([23, 24, 18], [18, 23, 24]), ([25, 18], [18, 25]), ([22, 26, 18], [18, 22, 26]), ([18, 27, 12], [12, 18, 27]), ([12, 28], [12, 28]), ([29, 18], [29]), ([30], [30]), ([30], [30]), ([31, 32, 30], [30, 31, 32]), ([33, 30], [30, 33]), ([34, 30], [30, 34]), ([30], [30]), ([36, 30], [30, 36]), ([37, 30], [30, 37]), ([35, 38, 30], [30, 35, 38]), ([30, 39], [30, 39])])
def laws_FnSure.B12 : List Nat := [0, 0, 0, 0, 14, 31, 63, 127, 255, 511, 1023, 2047, 4095, 8191, 8191, 32767, 65535, 131071, 262143, 524287, 524287, 2097151, 4194303, 524287, 524287, 25690111, 59244543, 134217727, 268435455, 536870911, 1073741823, 2147483647, 2147483647, 8589934591, 17179869183, 34359738367, 2147483647, 70866960383, 208305913855, 549755813887, 1099511627775]
theorem laws_FnSure.tab12 : rtab .any (opsOf Try.f12 12) = laws_FnSure.T12 := by kernel_rfl
theorem laws_FnSure.bits12 : waitsOk laws_FnSure.T12.2 laws_FnSure.B12 = true := by kernel_rfl
def laws_FnSure.T18 : Bool × List (List Nat × List Nat) := (true, [([], []), ([0], [0]), ([1], [1]), ([1], [1]), ([2, 3, 1], [1, 2, 3]), ([4, 1], [1, 4]), ([1], [1]), ([1], [1]), ([6, 7, 1], [1, 6, 7]), ([8, 1], [1, 8]), ([5, 9, 1], [1, 5, 9]), ([1, 10], [1, 10]), ([11, 1, 0, 1, 2, 3, 4, 5, 6, 7, 8, 9, 10, 11], [0, 11])])
def laws_FnSure.B18 : List Nat := [0, 1, 3, 3, 15, 31, 3, 3, 195, 451, 1023, 2047, 4095]
theorem laws_FnSure.tab18 : rtab .any (opsOf Try.f12 18) = laws_FnSure.T18 := by kernel_rfl
theorem laws_FnSure.bits18 : waitsOk laws_FnSure.T18.2 laws_FnSure.B18 = true := by kernel_rfl
def laws_FnSure.T19 : Bool × List (List Nat × List Nat) := (true, [([], []), ([0], [0]), ([1], [1]), ([2], [2]), ([2], [2]), ([3, 4, 2], [2, 3, 4]), ([5, 2], [2, 5]), ([2], [2]), ([2], [2]), ([8, 2], [2, 8]), ([7, 9, 2], [2, 7, 9]), ([10, 2], [2, 10]), ([6, 11, 2], [2, 6, 11]), ([2, 12], [2, 12])])
def laws_FnSure.B19 : List Nat := [0, 1, 3, 7, 7, 31, 63, 7, 7, 263, 903, 1927, 4095, 8191]
theorem laws_FnSure.tab19 : rtab .any (opsOf Try.f12 19) = laws_FnSure.T19 := by kernel_rfl
theorem laws_FnSure.bits19 : waitsOk laws_FnSure.T19.2 laws_FnSure.B19 = true := by kernel_rfl
set_option maxHeartbeats 8000000 in
set_option maxRecDepth 100000 in
theorem laws_FnSure.calls (k : Nat) (A0 : Option Addr) (c0 : Nat) (l0 : List Int) (r : Bool) (w : World) (hr0 : Kd.C (Kd.int .u8) w A0 l0.length l0) (hc0 : l0.length ≤ c0) (hrt : Aside0 (r = true)) (h : laws_FnSure.f k l0 = some r) :
  Calls Try.prog 12 #[.slice A0 l0.length c0] w fun e w' => e = .returned (.bool r) ∧ Below w.heap.size w w' := by
 have HR0 := zK hr0; have HC0 := zK hc0; clear hr0 hc0
 have HB := zK (Below.refl w.heap.size w)
 have H : ((laws_big.f l0).bind fun bw => (if bw = true then (some true) else ((spec_DrawExpects.f k l0).bind fun bt963 => ((impl_Assign.f k bt963.1 bt963.2).bind fun ae => ((impl_Sure.f k bt963.1 bt963.2).bind fun ac => (if (ae.length : Int) = (bt963.2.length : Int) then ((spec_Sure.f k bt963.1 bt963.2).bind fun aC => ((laws_sameInts.f k ac aC).bind fun ay => (laws_FnSure.j0 k bt963.1 bt963.2 ae ac (!ay)))) else (laws_FnSure.j0 k bt963.1 bt963.2 ae ac true))))))) = some r := h
 clear h; replace H := Option.bind_eq_some_iff.mp H
 obtain ⟨bw, A20, H⟩ := H
 replace H : (if bw = true then (some true) else ((spec_DrawExpects.f k l0).bind fun bt963 => ((impl_Assign.f k bt963.1 bt963.2).bind fun ae => ((impl_Sure.f k bt963.1 bt963.2).bind fun ac => (if (ae.length : Int) = (bt963.2.length : Int) then ((spec_Sure.f k bt963.1 bt963.2).bind fun aC => ((laws_sameInts.f k ac aC).bind fun ay => (laws_FnSure.j0 k bt963.1 bt963.2 ae ac (!ay)))) else (laws_FnSure.j0 k bt963.1 bt963.2 ae ac true)))))) = some r := H
 have A2 := zK A20; clear A20
 by_cases c3 : bw = true
 ·subst c3
  have H1 : (some true) = some r := by rw [if_pos rfl] at H; exact H
  clear H; have H := H1; clear H1; obtain rfl := Option.some.inj H
  go_enter Try.func12, Try.ntmps12
  go_wp2_with (first | ((with_reducible refine gate_callee (f := 26) rfl ?_); refine goesL_ (some 12) rfl rfl Try.func26 (by kernel_rfl) rfl #[.slice A0 l0.length c0] rfl (by (try simp only [List.map_toArray, List.map_cons, List.map_nil]); first | done | rfl | (simp only [List.length_drop, List.length_take]; rfl)) ?_; (with_reducible refine (laws_big.calls _ _ l0 true _ ?side1 ?side2 A2.out).mono ?_); (case side1 => repeat (first | exact HR0.out | (with_reducible refine Kd.C_alloc ?_ _) | (with_reducible refine Kd.C_drewN ?_ _) | (with_reducible refine Kd.C_drew ?_))); (case side2 => exact HC0.out); rintro e w' ⟨rfl, ⟨nd, rfl⟩⟩; refine ⟨_, rfl, ?_⟩))
  go_ret
  exact ⟨by first | rfl | (simp [errW_none, errW_some] <;> rfl) | (simp [*, errW_none, errW_some] <;> rfl), by repeat (first | (with_reducible first | exact HB.out | apply zB | apply zC | apply zE) | exact HB.out)⟩
 ·replace c3 := Bool.eq_false_iff.mpr c3
  subst c3
  have H1 : ((spec_DrawExpects.f k l0).bind fun bt963 => ((impl_Assign.f k bt963.1 bt963.2).bind fun ae => ((impl_Sure.f k bt963.1 bt963.2).bind fun ac => (if (ae.length : Int) = (bt963.2.length : Int) then ((spec_Sure.f k bt963.1 bt963.2).bind fun aC => ((laws_sameInts.f k ac aC).bind fun ay => (laws_FnSure.j0 k bt963.1 bt963.2 ae ac (!ay)))) else (laws_FnSure.j0 k bt963.1 bt963.2 ae ac true))))) = some r := by rw [if_neg (show ¬ (false = true) by decide)] at H; exact H
  clear H; have H := H1; clear H1; replace H := Option.bind_eq_some_iff.mp H
  obtain ⟨⟨ak, af⟩, A40, H⟩ := H
  replace H : ((impl_Assign.f k ak af).bind fun ae => ((impl_Sure.f k ak af).bind fun ac => (if (ae.length : Int) = (af.length : Int) then ((spec_Sure.f k ak af).bind fun aC => ((laws_sameInts.f k ac aC).bind fun ay => (laws_FnSure.j0 k ak af ae ac (!ay)))) else (laws_FnSure.j0 k ak af ae ac true)))) = some r := H
  have A4 := zK A40; clear A40; replace H := Option.bind_eq_some_iff.mp H
  obtain ⟨ae, A50, H⟩ := H
  replace H : ((impl_Sure.f k ak af).bind fun ac => (if (ae.length : Int) = (af.length : Int) then ((spec_Sure.f k ak af).bind fun aC => ((laws_sameInts.f k ac aC).bind fun ay => (laws_FnSure.j0 k ak af ae ac (!ay)))) else (laws_FnSure.j0 k ak af ae ac true))) = some r := H
  have A5 := zK A50; clear A50; replace H := Option.bind_eq_some_iff.mp H
  obtain ⟨ac, A60, H⟩ := H
  replace H : (if (ae.length : Int) = (af.length : Int) then ((spec_Sure.f k ak af).bind fun aC => ((laws_sameInts.f k ac aC).bind fun ay => (laws_FnSure.j0 k ak af ae ac (!ay)))) else (laws_FnSure.j0 k ak af ae ac true)) = some r := H
  have A6 := zK A60; clear A60; have HC7 := zK H; clear H
  go_enter Try.func12, Try.ntmps12
  go_upto_region 6 with (first | ((with_reducible refine gate_callee (f := 26) rfl ?_); refine goesL_ (some 12) rfl rfl Try.func26 (by kernel_rfl) rfl #[.slice A0 l0.length c0] rfl (by (try simp only [List.map_toArray, List.map_cons, List.map_nil]); first | done | rfl | (simp only [List.length_drop, List.length_take]; rfl)) ?_; (with_reducible refine (laws_big.calls _ _ l0 false _ ?side1 ?side2 A2.out).mono ?_); (case side1 => repeat (first | exact HR0.out | (with_reducible refine Kd.C_alloc ?_ _) | (with_reducible refine Kd.C_drewN ?_ _) | (with_reducible refine Kd.C_drew ?_))); (case side2 => exact HC0.out); rintro e w' ⟨rfl, ⟨nd, rfl⟩⟩; refine ⟨_, rfl, ?_⟩) | ((with_reducible refine gate_callee (f := 55) rfl ?_); refine goesL_ (some 15) rfl rfl Try.func55 (by kernel_rfl) rfl #[.slice A0 l0.length c0] rfl (by (try simp only [List.map_toArray, List.map_cons, List.map_nil]); first | done | rfl | (simp only [List.length_drop, List.length_take]; rfl)) ?_; (with_reducible refine (spec_DrawExpects.calls k _ _ l0 ak af _ ?side1 ?side2 A4.out).mono ?_); (case side1 => repeat (first | exact HR0.out | (with_reducible refine Kd.C_alloc ?_ _) | (with_reducible refine Kd.C_drewN ?_ _) | (with_reducible refine Kd.C_drew ?_))); (case side2 => exact HC0.out); rintro e w8 ⟨v965, v967, rfl, ho0, ho1, hb⟩; refine ⟨_, rfl, ?_⟩; have an := zK (Kd.R_lower ho0 (below_size (zb HB))); have ao := zK (Kd.R_lower ho1 (below_size (zb HB))); have ap := zK (below_step (zb HB) hb); clear HB; have aq := an; have ar := ao; have HB := ap; clear an ao ap; (try clear hb); (try clear ho0); (try clear ho1); obtain ⟨bs, bt, eo9⟩ := Kd.R_slice aq.out; subst eo9; obtain ⟨aL, aM, eo10⟩ := Kd.R_slice ar.out; subst eo10) | ((with_reducible refine gate_callee (f := 40) rfl ?_); refine goesL_ (some 20) rfl rfl Try.func40 (by kernel_rfl) rfl #[.slice bs ak.length bt, .slice aL af.length aM] rfl (by (try simp only [List.map_toArray, List.map_cons, List.map_nil]); first | done | rfl | (simp only [List.length_drop, List.length_take]; rfl)) ?_; (with_reducible refine (impl_Assign.calls k _ _ ak _ _ af ae _ ?side1 ?side2 ?side3 ?side4 A5.out).mono ?_); (case side1 => repeat (first | exact (Kd.R_reads' aq.out).2.2 | (with_reducible refine Kd.C_alloc ?_ _) | (with_reducible refine Kd.C_drewN ?_ _) | (with_reducible refine Kd.C_drew ?_))); (case side2 => exact (Kd.R_reads' aq.out).2.1); (case side3 => repeat (first | exact (Kd.R_reads' ar.out).2.2 | (with_reducible refine Kd.C_alloc ?_ _) | (with_reducible refine Kd.C_drewN ?_ _) | (with_reducible refine Kd.C_drew ?_))); (case side4 => exact (Kd.R_reads' ar.out).2.1); rintro e w11 ⟨aN, rfl, ho0, hb⟩; refine ⟨_, rfl, ?_⟩; have an := zK (Kd.R_below (zR aq) hb); have ao := zK (Kd.R_below (zR ar) hb); have ap := zK (Kd.R_lower ho0 (below_size (zb HB))); have au := zK (below_step (zb HB) hb); clear aq; clear ar; clear HB; have aq := an; have ar := ao; have aB := ap; have HB := au; clear an ao ap au; (try clear hb); (try clear ho0)) | ((with_reducible refine gate_callee (f := 54) rfl ?_); refine goesL_ (some 23) rfl rfl Try.func54 (by kernel_rfl) rfl #[.slice bs ak.length bt, .slice aL af.length aM] rfl (by (try simp only [List.map_toArray, List.map_cons, List.map_nil]); first | done | rfl | (simp only [List.length_drop, List.length_take]; rfl)) ?_; (with_reducible refine (impl_Sure.calls k _ _ ak _ _ af ac _ ?side1 ?side2 ?side3 ?side4 A6.out).mono ?_); (case side1 => repeat (first | exact (Kd.R_reads' aq.out).2.2 | (with_reducible refine Kd.C_alloc ?_ _) | (with_reducible refine Kd.C_drewN ?_ _) | (with_reducible refine Kd.C_drew ?_))); (case side2 => exact (Kd.R_reads' aq.out).2.1); (case side3 => repeat (first | exact (Kd.R_reads' ar.out).2.2 | (with_reducible refine Kd.C_alloc ?_ _) | (with_reducible refine Kd.C_drewN ?_ _) | (with_reducible refine Kd.C_drew ?_))); (case side4 => exact (Kd.R_reads' ar.out).2.1); rintro e w12 ⟨aO, rfl, ho0, hb⟩; refine ⟨_, rfl, ?_⟩; have an := zK (Kd.R_below (zR aq) hb); have ao := zK (Kd.R_below (zR ar) hb); have ap := zK (Kd.R_elder' (zR aB) (Kd.R_base ho0) hb); have au := zK (Kd.R_lower (Kd.R_new' ho0 (Kd.R_lt (zR aB))) (below_size (zb HB))); have av := zK (below_step (zb HB) hb); clear aq; clear ar; clear aB; clear HB; have aq := an; have ar := ao; have aB := ap; have aG := au; have HB := av; clear an ao ap au av; (try clear hb); (try clear ho0)))
  (try simp only [Act.put, zp, zq, zr])
  go_cut [36] (fun v36 wc => ∃ (kq : Nat) (a1 : Bool), v36 = .bool a1 ∧ Aside0 (laws_FnSure.j0 kq ak af ae ac a1 = some r) ∧ Aside0 (kq ≤ k) ∧ Aside0 (Kd.R k52 52 wc w.heap.size (fun _ => True) (.slice bs ak.length bt) ak) ∧ Aside0 (Kd.R k89 89 wc w.heap.size (fun _ => True) (.slice aL af.length aM) af) ∧ Aside0 (Kd.R (Kd.int .i64) 3 wc w.heap.size (fun k_ => some k_ ≠ (aO : Value).ownBlock) aN ae) ∧ Aside0 (Kd.R (Kd.int .i64) 3 wc w.heap.size (fun k_ => some k_ ≠ (aN : Value).ownBlock) aO ac) ∧ Aside0 (Below w.heap.size w wc))
  case first =>
   have H := HC7.out; clear HC7
   by_cases ba : (ae.length : Int) = (af.length : Int)
   ·rw [if_pos ba] at H
    have aI : ((ae.length : Int) == (af.length : Int)) = true := beq_iff_eq.mpr ba
    have bf : ((ae.length : Int) != (af.length : Int)) = false := bne_eq_false_iff_eq.mpr ba
    have bg : (ae.length == af.length) = true := by first | simpa using ba | (simp at ba ⊢; omega)
    clear ba
    (first | rw [aI] | (simp only [i64_w, i32_w]; rw [aI]) | skip)
    replace H := Option.bind_eq_some_iff.mp H
    obtain ⟨aC, b7, H⟩ := H
    replace H : ((laws_sameInts.f k ac aC).bind fun ay => (laws_FnSure.j0 k ak af ae ac (!ay))) = some r := H
    have A14 := zK b7; clear b7; replace H := Option.bind_eq_some_iff.mp H
    obtain ⟨ay, b8, H⟩ := H
    replace H : (laws_FnSure.j0 k ak af ae ac (!ay)) = some r := H
    have A15 := zK b8; clear b8; have H' := zK H; clear H
    obtain ⟨Ao16, co16, eo16⟩ := Kd.R_slice aB.out
    subst eo16
    go_wp2_with (first | (go_at_call 53; (with_reducible refine (spec_Sure.calls k _ _ ak _ _ af aC _ ?side1 ?side2 ?side3 ?side4 A14.out).mono ?_); (case side1 => repeat (first | exact (Kd.R_reads' aq.out).2.2 | (with_reducible refine Kd.C_alloc ?_ _) | (with_reducible refine Kd.C_drewN ?_ _) | (with_reducible refine Kd.C_drew ?_))); (case side2 => exact (Kd.R_reads' aq.out).2.1); (case side3 => repeat (first | exact (Kd.R_reads' ar.out).2.2 | (with_reducible refine Kd.C_alloc ?_ _) | (with_reducible refine Kd.C_drewN ?_ _) | (with_reducible refine Kd.C_drew ?_))); (case side4 => exact (Kd.R_reads' ar.out).2.1); rintro e w17 ⟨v976, rfl, ho0, hb⟩; have an := zK (Kd.R_below (zR aq) hb); have ao := zK (Kd.R_below (zR ar) hb); have ap := zK (Kd.R_elder' (zR aB) (Kd.R_base ho0) hb); have au := zK (Kd.R_elder' (zR aG) (Kd.R_base ho0) hb); have av := zK (Kd.R_lower (Kd.R_new' (Kd.R_new' ho0 (Kd.R_lt (zR aB))) (Kd.R_lt (zR aG))) (below_size (zb HB))); have aw := zK (below_step (zb HB) hb); clear aq; clear ar; clear aB; clear aG; clear HB; have aq := an; have ar := ao; have aB := ap; have aG := au; have bh := av; have HB := aw; clear an ao ap au av aw; (try clear hb); (try clear ho0); obtain ⟨Ao18, co18, eo18⟩ := Kd.R_slice aG.out; subst eo18; obtain ⟨Ao19, co19, eo19⟩ := Kd.R_slice bh.out; subst eo19) | (go_at_call 28; (with_reducible refine (laws_sameInts.calls k _ _ ac _ _ aC ay _ ?side1 ?side2 ?side3 ?side4 A15.out).mono ?_); (case side1 => repeat (first | exact (Kd.R_reads' aG.out).2.2 | (with_reducible refine Kd.C_alloc ?_ _) | (with_reducible refine Kd.C_drewN ?_ _) | (with_reducible refine Kd.C_drew ?_))); (case side2 => exact (Kd.R_reads' aG.out).2.1); (case side3 => repeat (first | exact (Kd.R_reads' bh.out).2.2 | (with_reducible refine Kd.C_alloc ?_ _) | (with_reducible refine Kd.C_drewN ?_ _) | (with_reducible refine Kd.C_drew ?_))); (case side4 => exact (Kd.R_reads' bh.out).2.1); rintro e w' ⟨rfl, ⟨nd, rfl⟩⟩))
    go_meet
    case rel => exact ⟨_, (!ay), (by first | rfl | (simp; done) | (simp [*]; done)), H', ⟨by first | omega | exact Nat.le_refl _⟩, ⟨zR aq⟩, ⟨zR ar⟩, ⟨by (with_reducible repeat (first | apply Kd.R_alloc | apply Kd.R_drewN | apply Kd.R_drew)); exact Kd.R_mono aB.out (fun _ hk => hk.1.2)⟩, ⟨by (with_reducible repeat (first | apply Kd.R_alloc | apply Kd.R_drewN | apply Kd.R_drew)); exact Kd.R_mono aG.out (fun _ hk => hk.1.2)⟩, ⟨zb HB⟩⟩
   ·rw [if_neg ba] at H
    have aI : ((ae.length : Int) == (af.length : Int)) = false := beq_eq_false_iff_ne.mpr ba
    have bf : ((ae.length : Int) != (af.length : Int)) = true := bne_iff_ne.mpr ba
    have bg : (ae.length == af.length) = false := by first | simpa using ba | (simp at ba ⊢; omega)
    (first | rw [aI] | (simp only [i64_w, i32_w]; rw [aI]) | skip)
    exact absurd (H.trans (congrArg some hrt.out)) (by cases k <;> simp [laws_FnSure.j0])
  case rest =>
   clear HC7
   try clear c1
   try clear c2
   try clear p2
   try clear c3
   try clear c4
   try clear c5
   try clear c12
   try clear ba
   try clear aI
   try clear bf
   try clear bg
   obtain ⟨kq, a1, rfl, HA, bd, ai, aj, ah, ag, HB⟩ := hcut
   cases kq with
   | zero => exact absurd HA.out (by simp [laws_FnSure.j0])
   | succ kj6 =>
    have H := HA.out; clear HA
    simp only [laws_FnSure.j0] at H
    by_cases b9 : a1 = true
    ·subst b9
     have H1 : (some false) = some r := by rw [if_pos rfl] at H; exact H
     clear H; have H := H1; clear H1
     exact absurd (H.trans (congrArg some hrt.out)) (by simp)
    ·replace b9 := Bool.eq_false_iff.mpr b9
     subst b9
     have H1 : (laws_FnSure.l0 kj6 ak af ae ac 0) = some r := by rw [if_neg (show ¬ (false = true) by decide)] at H; exact H
     clear H; have H := H1; clear H1; have H' := zK H; clear H
     go_wp2
     go_loopg [7] kj6 (fun kq v7 w' => ∃ (aa : Int), v7 = .int .i64 aa ∧ Aside0 (laws_FnSure.l0 kq ak af ae ac aa = some r) ∧ Aside0 (kq ≤ kj6) ∧ Aside0 (Kd.R k52 52 w' w.heap.size (fun _ => True) (.slice bs ak.length bt) ak) ∧ Aside0 (Kd.R k89 89 w' w.heap.size (fun _ => True) (.slice aL af.length aM) af) ∧ Aside0 (Kd.R (Kd.int .i64) 3 w' w.heap.size (fun k_ => some k_ ≠ (aO : Value).ownBlock) aN ae) ∧ Aside0 (Kd.R (Kd.int .i64) 3 w' w.heap.size (fun k_ => some k_ ≠ (aN : Value).ownBlock) aO ac) ∧ Aside0 (Below w.heap.size w w'))
     case atStart => exact ⟨(0), (by first | rfl | (simp; done) | (simp [*]; done)), H', ⟨Nat.le_refl _⟩, ⟨zR ai⟩, ⟨zR aj⟩, ⟨zR ah⟩, ⟨zR ag⟩, ⟨zb HB⟩⟩
     case round =>
      clear H'
      try clear c1
      try clear c2
      try clear p2
      try clear c3
      try clear c4
      try clear c5
      try clear c12
      try clear ba
      try clear aI
      try clear bf
      try clear bg
      try clear b9
      try clear p2
      obtain ⟨aa, rfl, HA, be, ai, aj, ah, ag, HB⟩ := hrel
      cases gk with
      | zero => exact absurd HA.out (by simp [laws_FnSure.l0])
      | succ k2 =>
       have H := HA.out; clear HA
       simp only [laws_FnSure.l0] at H
       by_cases bX : aa < (af.length : Int)
       ·rw [if_pos bX] at H
        have ca : decide (aa < (af.length : Int)) = true := decide_eq_true bX
        clear bX; replace H := Option.bind_eq_some_iff.mp H
        obtain ⟨ad, cb, H⟩ := H
        replace H : ((spec_Choices.f k2 ak af aa).bind fun aQ => ((laws_sameInts.f k2 ad aQ).bind fun bb => (if bb = true then (if (ad.length : Int) = 0 then (laws_FnSure.j2 k2 ak af ae ac aa ad true) else (if 0 ≤ aa then (if aa < (ac.length : Int) then (if (rd ac aa) ≥ 0 then (if aa < (ae.length : Int) then (if (rd ac aa) = (rd ae aa) then (laws_FnSure.j2 k2 ak af ae ac aa ad ((decide ((rd ac aa) ≥ 0)) != ((ad.length : Int) == 1))) else (laws_FnSure.j2 k2 ak af ae ac aa ad true)) else (none)) else (laws_FnSure.j2 k2 ak af ae ac aa ad ((decide ((rd ac aa) ≥ 0)) != ((ad.length : Int) == 1)))) else (none)) else (none))) else (laws_FnSure.j2 k2 ak af ae ac aa ad true)))) = some r := H
        have A22 := zK cb; clear cb; have bC := zK H; clear H
        go_upto_region 12 with (first | ((with_reducible refine gate_callee (f := 48) rfl ?_); refine goesL_ (some 46) rfl rfl Try.func48 (by kernel_rfl) rfl #[.slice bs ak.length bt, .slice aL af.length aM, .int .i64 aa] rfl (by (try simp only [List.map_toArray, List.map_cons, List.map_nil]); first | done | rfl | (simp only [List.length_drop, List.length_take]; rfl)) ?_; (with_reducible refine (impl_Choices.calls k2 _ _ ak _ _ af aa ad _ ?side1 ?side2 ?side3 ?side4 A22.out).mono ?_); (case side1 => repeat (first | exact (Kd.R_reads' ai.out).2.2 | (with_reducible refine Kd.C_alloc ?_ _) | (with_reducible refine Kd.C_drewN ?_ _) | (with_reducible refine Kd.C_drew ?_))); (case side2 => exact (Kd.R_reads' ai.out).2.1); (case side3 => repeat (first | exact (Kd.R_reads' aj.out).2.2 | (with_reducible refine Kd.C_alloc ?_ _) | (with_reducible refine Kd.C_drewN ?_ _) | (with_reducible refine Kd.C_drew ?_))); (case side4 => exact (Kd.R_reads' aj.out).2.1); rintro e w24 ⟨bc, rfl, ho0, hb⟩; refine ⟨_, rfl, ?_⟩; have an := zK (Kd.R_below (zR ai) hb); have ao := zK (Kd.R_below (zR aj) hb); have ap := zK (Kd.R_elder' (zR ah) (Kd.R_base ho0) hb); have au := zK (Kd.R_elder' (zR ag) (Kd.R_base ho0) hb); have av := zK (Kd.R_lower (Kd.R_new' (Kd.R_new' ho0 (Kd.R_lt (zR ah))) (Kd.R_lt (zR ag))) (below_size (zb HB))); have aw := zK (below_step (zb HB) hb); clear ai; clear aj; clear ah; clear ag; clear HB; have ai := an; have aj := ao; have ah := ap; have ag := au; have am := av; have HB := aw; clear an ao ap au av aw; (try clear hb); (try clear ho0)))
        (try simp only [Act.put, zp, zq, zr])
        go_cut [87] (fun v87 wc => ∃ (kq : Nat) (aR : Bool), v87 = .bool aR ∧ Aside0 (laws_FnSure.j2 kq ak af ae ac aa ad aR = some r) ∧ Aside0 (kq ≤ k2) ∧ Aside0 (Kd.R k52 52 wc w.heap.size (fun _ => True) (.slice bs ak.length bt) ak) ∧ Aside0 (Kd.R k89 89 wc w.heap.size (fun _ => True) (.slice aL af.length aM) af) ∧ Aside0 (Kd.R (Kd.int .i64) 3 wc w.heap.size (fun k_ => some k_ ≠ (aO : Value).ownBlock ∧ some k_ ≠ (bc : Value).ownBlock) aN ae) ∧ Aside0 (Kd.R (Kd.int .i64) 3 wc w.heap.size (fun k_ => some k_ ≠ (aN : Value).ownBlock ∧ some k_ ≠ (bc : Value).ownBlock) aO ac) ∧ Aside0 (Kd.R (Kd.int .i64) 3 wc w.heap.size (fun k_ => some k_ ≠ (aN : Value).ownBlock ∧ some k_ ≠ (aO : Value).ownBlock) bc ad) ∧ Aside0 (Below w.heap.size w wc))
        case first =>
         have H := bC.out; clear bC; replace H := Option.bind_eq_some_iff.mp H
         obtain ⟨aQ, cc, H⟩ := H
         replace H : ((laws_sameInts.f k2 ad aQ).bind fun bb => (if bb = true then (if (ad.length : Int) = 0 then (laws_FnSure.j2 k2 ak af ae ac aa ad true) else (if 0 ≤ aa then (if aa < (ac.length : Int) then (if (rd ac aa) ≥ 0 then (if aa < (ae.length : Int) then (if (rd ac aa) = (rd ae aa) then (laws_FnSure.j2 k2 ak af ae ac aa ad ((decide ((rd ac aa) ≥ 0)) != ((ad.length : Int) == 1))) else (laws_FnSure.j2 k2 ak af ae ac aa ad true)) else (none)) else (laws_FnSure.j2 k2 ak af ae ac aa ad ((decide ((rd ac aa) ≥ 0)) != ((ad.length : Int) == 1)))) else (none)) else (none))) else (laws_FnSure.j2 k2 ak af ae ac aa ad true))) = some r := H
         have A25 := zK cc; clear cc; replace H := Option.bind_eq_some_iff.mp H
         obtain ⟨bb, cd, H⟩ := H
         replace H : (if bb = true then (if (ad.length : Int) = 0 then (laws_FnSure.j2 k2 ak af ae ac aa ad true) else (if 0 ≤ aa then (if aa < (ac.length : Int) then (if (rd ac aa) ≥ 0 then (if aa < (ae.length : Int) then (if (rd ac aa) = (rd ae aa) then (laws_FnSure.j2 k2 ak af ae ac aa ad ((decide ((rd ac aa) ≥ 0)) != ((ad.length : Int) == 1))) else (laws_FnSure.j2 k2 ak af ae ac aa ad true)) else (none)) else (laws_FnSure.j2 k2 ak af ae ac aa ad ((decide ((rd ac aa) ≥ 0)) != ((ad.length : Int) == 1)))) else (none)) else (none))) else (laws_FnSure.j2 k2 ak af ae ac aa ad true)) = some r := H
         have A26 := zK cd; clear cd
         by_cases bY : bb = true
         ·subst bY
          have H1 : (if (ad.length : Int) = 0 then (laws_FnSure.j2 k2 ak af ae ac aa ad true) else (if 0 ≤ aa then (if aa < (ac.length : Int) then (if (rd ac aa) ≥ 0 then (if aa < (ae.length : Int) then (if (rd ac aa) = (rd ae aa) then (laws_FnSure.j2 k2 ak af ae ac aa ad ((decide ((rd ac aa) ≥ 0)) != ((ad.length : Int) == 1))) else (laws_FnSure.j2 k2 ak af ae ac aa ad true)) else (none)) else (laws_FnSure.j2 k2 ak af ae ac aa ad ((decide ((rd ac aa) ≥ 0)) != ((ad.length : Int) == 1)))) else (none)) else (none))) = some r := by rw [if_pos rfl] at H; exact H
          clear H; have H := H1; clear H1
          by_cases bu : (ad.length : Int) = 0
          ·rw [if_pos bu] at H
           have aU : ((ad.length : Int) == 0) = true := beq_iff_eq.mpr bu
           have ce : ((ad.length : Int) != 0) = false := bne_eq_false_iff_eq.mpr bu
           clear bu
           (first | rw [aU] | (simp only [i64_w, i32_w]; rw [aU]) | skip)
           exact absurd (H.trans (congrArg some hrt.out)) (by cases k2 <;> simp [laws_FnSure.j2])
          ·rw [if_neg bu] at H
           have aU : ((ad.length : Int) == 0) = false := beq_eq_false_iff_ne.mpr bu
           have ce : ((ad.length : Int) != 0) = true := bne_iff_ne.mpr bu
           have c28b2 : ¬ (ad = []) := fun h_ => bu (by rw [h_]; rfl)
           (first | rw [aU] | (simp only [i64_w, i32_w]; rw [aU]) | skip)
           by_cases bZ : 0 ≤ aa
           ·rw [if_pos bZ] at H
            have c29b0 : decide (0 ≤ aa) = true := decide_eq_true bZ
            clear bZ
            by_cases b0 : aa < (ac.length : Int)
            ·rw [if_pos b0] at H
             have c30b0 : decide (aa < (ac.length : Int)) = true := decide_eq_true b0
             clear b0
             by_cases bz : (rd ac aa) ≥ 0
             ·rw [if_pos bz] at H
              have bi : decide (0 ≤ (rd ac aa)) = true := decide_eq_true bz
              clear bz
              by_cases b1 : aa < (ae.length : Int)
              ·rw [if_pos b1] at H
               have c32b0 : decide (aa < (ae.length : Int)) = true := decide_eq_true b1
               clear b1
               by_cases bx : (rd ac aa) = (rd ae aa)
               ·rw [if_pos bx] at H
                have bj : ((rd ac aa) == (rd ae aa)) = true := beq_iff_eq.mpr bx
                have bk : ((rd ac aa) != (rd ae aa)) = false := bne_eq_false_iff_eq.mpr bx
                clear bx; have H' := zK H; clear H
                try go_wp2
                have an := zK (Kd.R_drew ai.out)
                have ao := zK (Kd.R_drew aj.out)
                have ap := zK (Kd.R_drew ah.out)
                have au := zK (Kd.R_drew ag.out)
                have av := zK (Kd.R_drew am.out)
                have aw := zK (zE HB.out)
                clear ai aj ah ag am HB; have ai := an; have aj := ao; have ah := ap; have ag := au; have am := av; have HB := aw; clear an ao ap au av aw
                have aS : 0 ≤ (aa : Int) := of_decide_eq_true (by first | (with_reducible assumption) | assumption)
                have aT : aa < (ac.length : Int) := of_decide_eq_true (by first | (with_reducible assumption) | assumption)
                (try obtain ⟨A_, c_, rfl⟩ := Kd.R_slice ag.out)
                obtain ⟨aD, bD, ax⟩ := Kd.at_int (Kd.R_reads' ag.out).2.2 aa aS aT
                cases bD
                replace aS := eq_true aS; replace aT := eq_true aT
                have bE : 0 ≤ (aa : Int) := of_decide_eq_true (by first | (with_reducible assumption) | assumption)
                have bF : aa < (ac.length : Int) := of_decide_eq_true (by first | (with_reducible assumption) | assumption)
                (try obtain ⟨A_, c_, rfl⟩ := Kd.R_slice ag.out)
                obtain ⟨cf, e987, a2⟩ := Kd.at_int (Kd.R_reads' ag.out).2.2 aa bE bF
                obtain rfl : aD = cf := (by injection e987)
                replace bE := eq_true bE; replace bF := eq_true bF
                have bG : 0 ≤ (aa : Int) := of_decide_eq_true (by first | (with_reducible assumption) | assumption)
                have bH : aa < (ae.length : Int) := of_decide_eq_true (by first | (with_reducible assumption) | assumption)
                (try obtain ⟨A_, c_, rfl⟩ := Kd.R_slice ah.out)
                obtain ⟨cg, e988, a3⟩ := Kd.at_int (Kd.R_reads' ah.out).2.2 aa bG bH
                cases e988
                replace bG := eq_true bG; replace bH := eq_true bH
                have bI : 0 ≤ (aa : Int) := of_decide_eq_true (by first | (with_reducible assumption) | assumption)
                have bJ : aa < (ac.length : Int) := of_decide_eq_true (by first | (with_reducible assumption) | assumption)
                (try obtain ⟨A_, c_, rfl⟩ := Kd.R_slice ag.out)
                obtain ⟨ch, e989, a4⟩ := Kd.at_int (Kd.R_reads' ag.out).2.2 aa bI bJ
                obtain rfl : aD = ch := (by injection e989)
                replace bI := eq_true bI; replace bJ := eq_true bJ
                refine start_ (n := 41) (S := fun w' => w'.cell? (aD.add (aa).toNat) = some (.int .i64 (rd ac aa)) ∧ w'.cell? (aD.add (aa).toNat) = some (.int .i64 (rd ac aa)) ∧ w'.cell? (cg.add (aa).toNat) = some (.int .i64 (rd ae aa)) ∧ w'.cell? (aD.add (aa).toNat) = some (.int .i64 (rd ac aa))) (ds := []) #[ff, ff, ff, ff, ff, ff, ff, ff, ff, ff, ff, ff, ff, ff, ff, ff, ff, ff, ff, ff, ff, ff, ff, ff, ff, ff, ff, ff, ff, ff, ff, ff, ff, ff, ff, ff, ff, ff, ff, ff, ff] (by kernel_rfl) rfl rfl ⟨ax, a2, a3, a4⟩ (fun hHeld => ?_); refine with_tabW laws_FnSure.tab12 laws_FnSure.bits12 (fun HT_ HW_ => ?_)
                generalize w24.drew = w34 at ai aj ah ag am HB ax a2 a3 a4 hHeld ⊢
                refine zu 0 (some 47) #[tt, ff, ff, ff, ff, ff, ff, ff, ff, ff, ff, ff, ff, ff, ff, ff, ff, ff, ff, ff, ff, ff, ff, ff, ff, ff, ff, ff, ff, ff, ff, ff, ff, ff, ff, ff, ff, ff, ff, ff, ff] (any_of HT_.out (by kernel_rfl)) ?_
                refine zu 1 (some 48) #[tt, tt, ff, ff, ff, ff, ff, ff, ff, ff, ff, ff, ff, ff, ff, ff, ff, ff, ff, ff, ff, ff, ff, ff, ff, ff, ff, ff, ff, ff, ff, ff, ff, ff, ff, ff, ff, ff, ff, ff, ff] (any_of HT_.out (by kernel_rfl)) ?_
                refine zu 2 (some 49) #[tt, tt, tt, ff, ff, ff, ff, ff, ff, ff, ff, ff, ff, ff, ff, ff, ff, ff, ff, ff, ff, ff, ff, ff, ff, ff, ff, ff, ff, ff, ff, ff, ff, ff, ff, ff, ff, ff, ff, ff, ff] (any_of HT_.out (by kernel_rfl)) ?_
                refine zu 3 (some 50) #[tt, tt, tt, tt, ff, ff, ff, ff, ff, ff, ff, ff, ff, ff, ff, ff, ff, ff, ff, ff, ff, ff, ff, ff, ff, ff, ff, ff, ff, ff, ff, ff, ff, ff, ff, ff, ff, ff, ff, ff, ff] (any_of HT_.out (by kernel_rfl)) ?_
                refine one_ (i := 4) (N := some 51) #[tt, tt, tt, tt, tt, ff, ff, ff, ff, ff, ff, ff, ff, ff, ff, ff, ff, ff, ff, ff, ff, ff, ff, ff, ff, ff, ff, ff, ff, ff, ff, ff, ff, ff, ff, ff, ff, ff, ff, ff, ff] rfl rfl (one_of HT_.out (by kernel_rfl)) (by decide) (fun K hK => ?_)
                refine goes_ Try.func45 (by kernel_rfl) rfl #[.slice bs ak.length bt, .slice aL af.length aM, .int .i64 aa] (by rfl) rfl rfl (by (try simp only [List.map_toArray, List.map_cons, List.map_nil]); first | done | rfl | (simp only [List.length_drop, List.length_take]; rfl)) ?_
                with_reducible refine (spec_Choices.calls k2 _ _ ak _ _ af aa aQ _ ?side1 ?side2 ?side3 ?side4 A25.out).mono ?_
                (case side1 => repeat (first | exact (Kd.R_reads' ai.out).2.2 | (with_reducible refine Kd.C_alloc ?_ _) | (with_reducible refine Kd.C_drewN ?_ _) | (with_reducible refine Kd.C_drew ?_)))
                (case side2 => exact (Kd.R_reads' ai.out).2.1)
                (case side3 => repeat (first | exact (Kd.R_reads' aj.out).2.2 | (with_reducible refine Kd.C_alloc ?_ _) | (with_reducible refine Kd.C_drewN ?_ _) | (with_reducible refine Kd.C_drew ?_)))
                (case side4 => exact (Kd.R_reads' aj.out).2.1)
                rintro e w35 ⟨v983, rfl, ho0, hb⟩
                have bK := (hb.cell (World.block_lt_of_cell? _ _ (hHeld.1))).trans (hHeld.1)
                have bL := (hb.cell (World.block_lt_of_cell? _ _ (hHeld.2.1))).trans (hHeld.2.1)
                have HS2_ := (hb.cell (World.block_lt_of_cell? _ _ (hHeld.2.2.1))).trans (hHeld.2.2.1)
                have HS3_ := (hb.cell (World.block_lt_of_cell? _ _ (hHeld.2.2.2))).trans (hHeld.2.2.2)
                refine ⟨_, rfl, ?_⟩
                have an := zK (Kd.R_below (zR ai) hb)
                have ao := zK (Kd.R_below (zR aj) hb)
                have ap := zK (Kd.R_elder' (zR ah) (Kd.R_base ho0) hb)
                have au := zK (Kd.R_elder' (zR ag) (Kd.R_base ho0) hb)
                have av := zK (Kd.R_elder' (zR am) (Kd.R_base ho0) hb)
                have aw := zK (Kd.R_lower (Kd.R_new' (Kd.R_new' (Kd.R_new' ho0 (Kd.R_lt (zR ah))) (Kd.R_lt (zR ag))) (Kd.R_lt (zR am))) (below_size (zb HB)))
                have bA := zK (below_step (zb HB) hb)
                clear ai aj ah ag am HB; have ai := an; have aj := ao; have ah := ap; have ag := au; have am := av; have aJ := aw; have HB := bA; clear an ao ap au av aw bA; (try clear hb); (try clear hb2); (try clear hk); (try clear hi); (try clear ho0)
                obtain ⟨Ao36, co36, ci⟩ := Kd.R_slice am.out
                (first | subst ci | (injection ci with f1_ f2_ f3_; have f4_ := f1_.symm; have f5_ := f3_.symm; clear f1_ f2_ f3_; subst f4_; subst f5_))
                obtain ⟨Ao37, co37, cj⟩ := Kd.R_slice aJ.out
                (first | subst cj | (injection cj with f1_ f2_ f3_; have f4_ := f1_.symm; have f5_ := f3_.symm; clear f1_ f2_ f3_; subst f4_; subst f5_))
                refine hK.out _ _ ⟨bK, bL, HS2_, HS3_⟩ (fun hHeld => ?_)
                clear hK K
                refine norm_ (a' := ?_) ?_ ?_
                rotate_left
                ·show Act.put _ (some 51) _ = _
                 simp only [Act.put, zp, zq, zr, i64_w, i32_w]
                 rfl
                refine one_ (i := 5) (N := some 52) #[tt, tt, tt, tt, tt, tt, ff, ff, ff, ff, ff, ff, ff, ff, ff, ff, ff, ff, ff, ff, ff, ff, ff, ff, ff, ff, ff, ff, ff, ff, ff, ff, ff, ff, ff, ff, ff, ff, ff, ff, ff] rfl rfl (one_of HT_.out (by kernel_rfl)) (by decide) (fun K hK => ?_)
                refine goes_ Try.func28 (by kernel_rfl) rfl #[.slice Ao36 ad.length co36, .slice Ao37 aQ.length co37] (by rfl) rfl rfl (by (try simp only [List.map_toArray, List.map_cons, List.map_nil]); first | done | rfl | (simp only [List.length_drop, List.length_take]; rfl)) ?_
                with_reducible refine (laws_sameInts.calls k2 _ _ ad _ _ aQ true _ ?side1 ?side2 ?side3 ?side4 A26.out).mono ?_
                (case side1 => repeat (first | exact (Kd.R_reads' am.out).2.2 | (with_reducible refine Kd.C_alloc ?_ _) | (with_reducible refine Kd.C_drewN ?_ _) | (with_reducible refine Kd.C_drew ?_)))
                (case side2 => exact (Kd.R_reads' am.out).2.1)
                (case side3 => repeat (first | exact (Kd.R_reads' aJ.out).2.2 | (with_reducible refine Kd.C_alloc ?_ _) | (with_reducible refine Kd.C_drewN ?_ _) | (with_reducible refine Kd.C_drew ?_)))
                (case side4 => exact (Kd.R_reads' aJ.out).2.1)
                rintro e w' ⟨rfl, ⟨nd, rfl⟩⟩
                refine ⟨_, rfl, ?_⟩
                obtain ⟨Ao38, co38, ck⟩ := Kd.R_slice ag.out
                (first | subst ck | (injection ck with f1_ f2_ f3_; have f4_ := f1_.symm; have f5_ := f3_.symm; clear f1_ f2_ f3_; subst f4_; subst f5_))
                obtain ⟨Ao39, co39, cl⟩ := Kd.R_slice ah.out
                (first | subst cl | (injection cl with f1_ f2_ f3_; have f4_ := f1_.symm; have f5_ := f3_.symm; clear f1_ f2_ f3_; subst f4_; subst f5_))
                refine hK.out _ _ ⟨hHeld.1, hHeld.2.1, hHeld.2.2.1, hHeld.2.2.2⟩ (fun hHeld => ?_)
                clear hK K
                refine norm_ (a' := ?_) ?_ ?_
                rotate_left
                ·show Act.put _ (some 52) _ = _
                 simp only [Act.put, zp, zq, zr, i64_w, i32_w]
                 rfl
                refine zu 6 (some 53) #[tt, tt, tt, tt, tt, tt, tt, ff, ff, ff, ff, ff, ff, ff, ff, ff, ff, ff, ff, ff, ff, ff, ff, ff, ff, ff, ff, ff, ff, ff, ff, ff, ff, ff, ff, ff, ff, ff, ff, ff, ff] (any_of HT_.out (by kernel_rfl)) ?_
                refine zu 7 (some 54) #[tt, tt, tt, tt, tt, tt, tt, tt, ff, ff, ff, ff, ff, ff, ff, ff, ff, ff, ff, ff, ff, ff, ff, ff, ff, ff, ff, ff, ff, ff, ff, ff, ff, ff, ff, ff, ff, ff, ff, ff, ff] (any_of HT_.out (by kernel_rfl)) ?_
                refine zu 8 (some 55) #[tt, tt, tt, tt, tt, tt, tt, tt, tt, ff, ff, ff, ff, ff, ff, ff, ff, ff, ff, ff, ff, ff, ff, ff, ff, ff, ff, ff, ff, ff, ff, ff, ff, ff, ff, ff, ff, ff, ff, ff, ff] (any_of HT_.out (by kernel_rfl)) ?_
                refine zu 9 (some 56) #[tt, tt, tt, tt, tt, tt, tt, tt, tt, tt, ff, ff, ff, ff, ff, ff, ff, ff, ff, ff, ff, ff, ff, ff, ff, ff, ff, ff, ff, ff, ff, ff, ff, ff, ff, ff, ff, ff, ff, ff, ff] (any_of HT_.out (by kernel_rfl)) ?_
                refine zu 10 (some 57) #[tt, tt, tt, tt, tt, tt, tt, tt, tt, tt, tt, ff, ff, ff, ff, ff, ff, ff, ff, ff, ff, ff, ff, ff, ff, ff, ff, ff, ff, ff, ff, ff, ff, ff, ff, ff, ff, ff, ff, ff, ff] (any_of HT_.out (by kernel_rfl)) ?_
                refine zu 11 (some 58) #[tt, tt, tt, tt, tt, tt, tt, tt, tt, tt, tt, tt, ff, ff, ff, ff, ff, ff, ff, ff, ff, ff, ff, ff, ff, ff, ff, ff, ff, ff, ff, ff, ff, ff, ff, ff, ff, ff, ff, ff, ff] (any_of HT_.out (by kernel_rfl)) ?_
                refine zu 12 (some 59) #[tt, tt, tt, tt, tt, tt, tt, tt, tt, tt, tt, tt, tt, ff, ff, ff, ff, ff, ff, ff, ff, ff, ff, ff, ff, ff, ff, ff, ff, ff, ff, ff, ff, ff, ff, ff, ff, ff, ff, ff, ff] (any_of HT_.out (by kernel_rfl)) ?_
                refine zu 13 (some 60) #[tt, tt, tt, tt, tt, tt, tt, tt, tt, tt, tt, tt, tt, tt, ff, ff, ff, ff, ff, ff, ff, ff, ff, ff, ff, ff, ff, ff, ff, ff, ff, ff, ff, ff, ff, ff, ff, ff, ff, ff, ff] (any_of HT_.out (by kernel_rfl)) ?_
                refine zu 14 (some 61) #[tt, tt, tt, tt, tt, tt, tt, tt, tt, tt, tt, tt, tt, tt, tt, ff, ff, ff, ff, ff, ff, ff, ff, ff, ff, ff, ff, ff, ff, ff, ff, ff, ff, ff, ff, ff, ff, ff, ff, ff, ff] (any_of HT_.out (by kernel_rfl)) ?_
                refine zu 15 (some 62) #[tt, tt, tt, tt, tt, tt, tt, tt, tt, tt, tt, tt, tt, tt, tt, tt, ff, ff, ff, ff, ff, ff, ff, ff, ff, ff, ff, ff, ff, ff, ff, ff, ff, ff, ff, ff, ff, ff, ff, ff, ff] (any_of HT_.out (by kernel_rfl)) ?_
                refine zt 16 (some 63) #[tt, tt, tt, tt, tt, tt, tt, tt, tt, tt, tt, tt, tt, tt, tt, tt, tt, ff, ff, ff, ff, ff, ff, ff, ff, ff, ff, ff, ff, ff, ff, ff, ff, ff, ff, ff, ff, ff, ff, ff, ff] (take_ofW HT_.out HW_.out (by kernel_rfl)) hHeld ?_
                refine zu 17 (some 64) #[tt, tt, tt, tt, tt, tt, tt, tt, tt, tt, tt, tt, tt, tt, tt, tt, tt, tt, ff, ff, ff, ff, ff, ff, ff, ff, ff, ff, ff, ff, ff, ff, ff, ff, ff, ff, ff, ff, ff, ff, ff] (any_of HT_.out (by kernel_rfl)) ?_
                refine zu 18 (some 65) #[tt, tt, tt, tt, tt, tt, tt, tt, tt, tt, tt, tt, tt, tt, tt, tt, tt, tt, tt, ff, ff, ff, ff, ff, ff, ff, ff, ff, ff, ff, ff, ff, ff, ff, ff, ff, ff, ff, ff, ff, ff] (any_of HT_.out (by kernel_rfl)) ?_
                refine zu 19 (some 66) #[tt, tt, tt, tt, tt, tt, tt, tt, tt, tt, tt, tt, tt, tt, tt, tt, tt, tt, tt, tt, ff, ff, ff, ff, ff, ff, ff, ff, ff, ff, ff, ff, ff, ff, ff, ff, ff, ff, ff, ff, ff] (any_of HT_.out (by kernel_rfl)) ?_
                refine zu 20 (some 67) #[tt, tt, tt, tt, tt, tt, tt, tt, tt, tt, tt, tt, tt, tt, tt, tt, tt, tt, tt, tt, tt, ff, ff, ff, ff, ff, ff, ff, ff, ff, ff, ff, ff, ff, ff, ff, ff, ff, ff, ff, ff] (any_of HT_.out (by kernel_rfl)) ?_
                refine zu 21 (some 68) #[tt, tt, tt, tt, tt, tt, tt, tt, tt, tt, tt, tt, tt, tt, tt, tt, tt, tt, tt, tt, tt, tt, ff, ff, ff, ff, ff, ff, ff, ff, ff, ff, ff, ff, ff, ff, ff, ff, ff, ff, ff] (any_of HT_.out (by kernel_rfl)) ?_
                refine zu 23 (some 70) #[tt, tt, tt, tt, tt, tt, tt, tt, tt, tt, tt, tt, tt, tt, tt, tt, tt, tt, tt, tt, tt, tt, ff, tt, ff, ff, ff, ff, ff, ff, ff, ff, ff, ff, ff, ff, ff, ff, ff, ff, ff] (any_of HT_.out (by kernel_rfl)) ?_
                refine zu 24 (some 71) #[tt, tt, tt, tt, tt, tt, tt, tt, tt, tt, tt, tt, tt, tt, tt, tt, tt, tt, tt, tt, tt, tt, ff, tt, tt, ff, ff, ff, ff, ff, ff, ff, ff, ff, ff, ff, ff, ff, ff, ff, ff] (any_of HT_.out (by kernel_rfl)) ?_
                refine zu 25 (some 72) #[tt, tt, tt, tt, tt, tt, tt, tt, tt, tt, tt, tt, tt, tt, tt, tt, tt, tt, tt, tt, tt, tt, ff, tt, tt, tt, ff, ff, ff, ff, ff, ff, ff, ff, ff, ff, ff, ff, ff, ff, ff] (any_of HT_.out (by kernel_rfl)) ?_
                refine zt 22 (some 69) #[tt, tt, tt, tt, tt, tt, tt, tt, tt, tt, tt, tt, tt, tt, tt, tt, tt, tt, tt, tt, tt, tt, tt, tt, tt, tt, ff, ff, ff, ff, ff, ff, ff, ff, ff, ff, ff, ff, ff, ff, ff] (take_ofW HT_.out HW_.out (by kernel_rfl)) hHeld ?_
                refine zt 26 (some 73) #[tt, tt, tt, tt, tt, tt, tt, tt, tt, tt, tt, tt, tt, tt, tt, tt, tt, tt, tt, tt, tt, tt, tt, tt, tt, tt, tt, ff, ff, ff, ff, ff, ff, ff, ff, ff, ff, ff, ff, ff, ff] (take_ofW HT_.out HW_.out (by kernel_rfl)) hHeld ?_
                refine zu 27 (some 74) #[tt, tt, tt, tt, tt, tt, tt, tt, tt, tt, tt, tt, tt, tt, tt, tt, tt, tt, tt, tt, tt, tt, tt, tt, tt, tt, tt, tt, ff, ff, ff, ff, ff, ff, ff, ff, ff, ff, ff, ff, ff] (any_of HT_.out (by kernel_rfl)) ?_
                refine zu 28 (some 75) #[tt, tt, tt, tt, tt, tt, tt, tt, tt, tt, tt, tt, tt, tt, tt, tt, tt, tt, tt, tt, tt, tt, tt, tt, tt, tt, tt, tt, tt, ff, ff, ff, ff, ff, ff, ff, ff, ff, ff, ff, ff] (any_of HT_.out (by kernel_rfl)) ?_
                refine zu 29 (some 76) #[tt, tt, tt, tt, tt, tt, tt, tt, tt, tt, tt, tt, tt, tt, tt, tt, tt, tt, tt, tt, tt, tt, tt, tt, tt, tt, tt, tt, tt, tt, ff, ff, ff, ff, ff, ff, ff, ff, ff, ff, ff] (any_of HT_.out (by kernel_rfl)) ?_
                refine zu 30 (some 77) #[tt, tt, tt, tt, tt, tt, tt, tt, tt, tt, tt, tt, tt, tt, tt, tt, tt, tt, tt, tt, tt, tt, tt, tt, tt, tt, tt, tt, tt, tt, tt, ff, ff, ff, ff, ff, ff, ff, ff, ff, ff] (any_of HT_.out (by kernel_rfl)) ?_
                refine zu 31 (some 78) #[tt, tt, tt, tt, tt, tt, tt, tt, tt, tt, tt, tt, tt, tt, tt, tt, tt, tt, tt, tt, tt, tt, tt, tt, tt, tt, tt, tt, tt, tt, tt, tt, ff, ff, ff, ff, ff, ff, ff, ff, ff] (any_of HT_.out (by kernel_rfl)) ?_
                refine zu 32 (some 79) #[tt, tt, tt, tt, tt, tt, tt, tt, tt, tt, tt, tt, tt, tt, tt, tt, tt, tt, tt, tt, tt, tt, tt, tt, tt, tt, tt, tt, tt, tt, tt, tt, tt, ff, ff, ff, ff, ff, ff, ff, ff] (any_of HT_.out (by kernel_rfl)) ?_
                refine zu 33 (some 80) #[tt, tt, tt, tt, tt, tt, tt, tt, tt, tt, tt, tt, tt, tt, tt, tt, tt, tt, tt, tt, tt, tt, tt, tt, tt, tt, tt, tt, tt, tt, tt, tt, tt, tt, ff, ff, ff, ff, ff, ff, ff] (any_of HT_.out (by kernel_rfl)) ?_
                refine zu 36 (some 83) #[tt, tt, tt, tt, tt, tt, tt, tt, tt, tt, tt, tt, tt, tt, tt, tt, tt, tt, tt, tt, tt, tt, tt, tt, tt, tt, tt, tt, tt, tt, tt, tt, tt, tt, ff, ff, tt, ff, ff, ff, ff] (any_of HT_.out (by kernel_rfl)) ?_
                refine zu 37 (some 84) #[tt, tt, tt, tt, tt, tt, tt, tt, tt, tt, tt, tt, tt, tt, tt, tt, tt, tt, tt, tt, tt, tt, tt, tt, tt, tt, tt, tt, tt, tt, tt, tt, tt, tt, ff, ff, tt, tt, ff, ff, ff] (any_of HT_.out (by kernel_rfl)) ?_
                refine zu 38 (some 85) #[tt, tt, tt, tt, tt, tt, tt, tt, tt, tt, tt, tt, tt, tt, tt, tt, tt, tt, tt, tt, tt, tt, tt, tt, tt, tt, tt, tt, tt, tt, tt, tt, tt, tt, ff, ff, tt, tt, tt, ff, ff] (any_of HT_.out (by kernel_rfl)) ?_
                refine zt 34 (some 81) #[tt, tt, tt, tt, tt, tt, tt, tt, tt, tt, tt, tt, tt, tt, tt, tt, tt, tt, tt, tt, tt, tt, tt, tt, tt, tt, tt, tt, tt, tt, tt, tt, tt, tt, tt, ff, tt, tt, tt, ff, ff] (take_ofW HT_.out HW_.out (by kernel_rfl)) hHeld ?_
                refine zu 35 (some 82) #[tt, tt, tt, tt, tt, tt, tt, tt, tt, tt, tt, tt, tt, tt, tt, tt, tt, tt, tt, tt, tt, tt, tt, tt, tt, tt, tt, tt, tt, tt, tt, tt, tt, tt, tt, tt, tt, tt, tt, ff, ff] (any_of HT_.out (by kernel_rfl)) ?_
                refine zu 39 (some 86) #[tt, tt, tt, tt, tt, tt, tt, tt, tt, tt, tt, tt, tt, tt, tt, tt, tt, tt, tt, tt, tt, tt, tt, tt, tt, tt, tt, tt, tt, tt, tt, tt, tt, tt, tt, tt, tt, tt, tt, tt, ff] (any_of HT_.out (by kernel_rfl)) ?_
                refine zu 40 (some 87) #[tt, tt, tt, tt, tt, tt, tt, tt, tt, tt, tt, tt, tt, tt, tt, tt, tt, tt, tt, tt, tt, tt, tt, tt, tt, tt, tt, tt, tt, tt, tt, tt, tt, tt, tt, tt, tt, tt, tt, tt, tt] (any_of HT_.out (by kernel_rfl)) ?_
                refine done_ (done_of HT_.out (by kernel_rfl)) ?_
                try go_wp2
                go_meet
                case rel => exact ⟨_, (((decide ((rd ac aa) ≥ 0)) != ((ad.length : Int) == 1))), (by first | rfl | (simp; done) | (simp [*]; done)), H', ⟨by have := bd.out; have := be.out; first | omega | exact Nat.le_refl _⟩, ⟨zR ai⟩, ⟨zR aj⟩, ⟨by (with_reducible repeat (first | apply Kd.R_alloc | apply Kd.R_drewN | apply Kd.R_drew)); exact Kd.R_mono ah.out (fun _ hk => ⟨hk.1.1, hk.1.2⟩)⟩, ⟨by (with_reducible repeat (first | apply Kd.R_alloc | apply Kd.R_drewN | apply Kd.R_drew)); exact Kd.R_mono ag.out (fun _ hk => ⟨hk.1.1, hk.1.2⟩)⟩, ⟨by (with_reducible repeat (first | apply Kd.R_alloc | apply Kd.R_drewN | apply Kd.R_drew)); exact Kd.R_mono am.out (fun _ hk => ⟨hk.1.1.2, hk.1.2⟩)⟩, ⟨zb HB⟩⟩
               ·rw [if_neg bx] at H
                have bj : ((rd ac aa) == (rd ae aa)) = false := beq_eq_false_iff_ne.mpr bx
                have bk : ((rd ac aa) != (rd ae aa)) = true := bne_iff_ne.mpr bx
                exact absurd (H.trans (congrArg some hrt.out)) (by cases k2 <;> simp [laws_FnSure.j2])
              ·rw [if_neg b1] at H
               exact absurd H (by simp)
             ·rw [if_neg bz] at H
              have bi : decide (0 ≤ (rd ac aa)) = false := decide_eq_false bz
              clear bz; have H' := zK H; clear H
              try go_wp2
              have an := zK (Kd.R_drew ai.out)
              have ao := zK (Kd.R_drew aj.out)
              have ap := zK (Kd.R_drew ah.out)
              have au := zK (Kd.R_drew ag.out)
              have av := zK (Kd.R_drew am.out)
              have aw := zK (zE HB.out)
              clear ai aj ah ag am HB; have ai := an; have aj := ao; have ah := ap; have ag := au; have am := av; have HB := aw; clear an ao ap au av aw
              have aS : 0 ≤ (aa : Int) := of_decide_eq_true (by first | (with_reducible assumption) | assumption)
              have aT : aa < (ac.length : Int) := of_decide_eq_true (by first | (with_reducible assumption) | assumption)
              (try obtain ⟨A_, c_, rfl⟩ := Kd.R_slice ag.out)
              obtain ⟨aD, bD, ax⟩ := Kd.at_int (Kd.R_reads' ag.out).2.2 aa aS aT
              cases bD
              replace aS := eq_true aS; replace aT := eq_true aT
              have bl : 0 ≤ (aa : Int) := of_decide_eq_true (by first | (with_reducible assumption) | assumption)
              have bm : aa < (ac.length : Int) := of_decide_eq_true (by first | (with_reducible assumption) | assumption)
              (try obtain ⟨A_, c_, rfl⟩ := Kd.R_slice ag.out)
              obtain ⟨cm, e990, aH⟩ := Kd.at_int (Kd.R_reads' ag.out).2.2 aa bl bm
              obtain rfl : aD = cm := (by injection e990)
              replace bl := eq_true bl; replace bm := eq_true bm
              refine start_ (n := 41) (S := fun w' => w'.cell? (aD.add (aa).toNat) = some (.int .i64 (rd ac aa)) ∧ w'.cell? (aD.add (aa).toNat) = some (.int .i64 (rd ac aa))) (ds := []) #[ff, ff, ff, ff, ff, ff, ff, ff, ff, ff, ff, ff, ff, ff, ff, ff, ff, ff, ff, ff, ff, ff, ff, ff, ff, ff, ff, ff, ff, ff, ff, ff, ff, ff, ff, ff, ff, ff, ff, ff, ff] (by kernel_rfl) rfl rfl ⟨ax, aH⟩ (fun hHeld => ?_); refine with_tabW laws_FnSure.tab12 laws_FnSure.bits12 (fun HT_ HW_ => ?_)
              generalize w24.drew = w40 at ai aj ah ag am HB ax aH hHeld ⊢
              refine zu 0 (some 47) #[tt, ff, ff, ff, ff, ff, ff, ff, ff, ff, ff, ff, ff, ff, ff, ff, ff, ff, ff, ff, ff, ff, ff, ff, ff, ff, ff, ff, ff, ff, ff, ff, ff, ff, ff, ff, ff, ff, ff, ff, ff] (any_of HT_.out (by kernel_rfl)) ?_
              refine zu 1 (some 48) #[tt, tt, ff, ff, ff, ff, ff, ff, ff, ff, ff, ff, ff, ff, ff, ff, ff, ff, ff, ff, ff, ff, ff, ff, ff, ff, ff, ff, ff, ff, ff, ff, ff, ff, ff, ff, ff, ff, ff, ff, ff] (any_of HT_.out (by kernel_rfl)) ?_
              refine zu 2 (some 49) #[tt, tt, tt, ff, ff, ff, ff, ff, ff, ff, ff, ff, ff, ff, ff, ff, ff, ff, ff, ff, ff, ff, ff, ff, ff, ff, ff, ff, ff, ff, ff, ff, ff, ff, ff, ff, ff, ff, ff, ff, ff] (any_of HT_.out (by kernel_rfl)) ?_
              refine zu 3 (some 50) #[tt, tt, tt, tt, ff, ff, ff, ff, ff, ff, ff, ff, ff, ff, ff, ff, ff, ff, ff, ff, ff, ff, ff, ff, ff, ff, ff, ff, ff, ff, ff, ff, ff, ff, ff, ff, ff, ff, ff, ff, ff] (any_of HT_.out (by kernel_rfl)) ?_
              refine one_ (i := 4) (N := some 51) #[tt, tt, tt, tt, tt, ff, ff, ff, ff, ff, ff, ff, ff, ff, ff, ff, ff, ff, ff, ff, ff, ff, ff, ff, ff, ff, ff, ff, ff, ff, ff, ff, ff, ff, ff, ff, ff, ff, ff, ff, ff] rfl rfl (one_of HT_.out (by kernel_rfl)) (by decide) (fun K hK => ?_)
              refine goes_ Try.func45 (by kernel_rfl) rfl #[.slice bs ak.length bt, .slice aL af.length aM, .int .i64 aa] (by rfl) rfl rfl (by (try simp only [List.map_toArray, List.map_cons, List.map_nil]); first | done | rfl | (simp only [List.length_drop, List.length_take]; rfl)) ?_
              with_reducible refine (spec_Choices.calls k2 _ _ ak _ _ af aa aQ _ ?side1 ?side2 ?side3 ?side4 A25.out).mono ?_
              (case side1 => repeat (first | exact (Kd.R_reads' ai.out).2.2 | (with_reducible refine Kd.C_alloc ?_ _) | (with_reducible refine Kd.C_drewN ?_ _) | (with_reducible refine Kd.C_drew ?_)))
              (case side2 => exact (Kd.R_reads' ai.out).2.1)
              (case side3 => repeat (first | exact (Kd.R_reads' aj.out).2.2 | (with_reducible refine Kd.C_alloc ?_ _) | (with_reducible refine Kd.C_drewN ?_ _) | (with_reducible refine Kd.C_drew ?_)))
              (case side4 => exact (Kd.R_reads' aj.out).2.1)
              rintro e w41 ⟨v983, rfl, ho0, hb⟩
              have bK := (hb.cell (World.block_lt_of_cell? _ _ (hHeld.1))).trans (hHeld.1)
              have bL := (hb.cell (World.block_lt_of_cell? _ _ (hHeld.2))).trans (hHeld.2)
              refine ⟨_, rfl, ?_⟩
              have an := zK (Kd.R_below (zR ai) hb)
              have ao := zK (Kd.R_below (zR aj) hb)
              have ap := zK (Kd.R_elder' (zR ah) (Kd.R_base ho0) hb)
              have au := zK (Kd.R_elder' (zR ag) (Kd.R_base ho0) hb)
              have av := zK (Kd.R_elder' (zR am) (Kd.R_base ho0) hb)
              have aw := zK (Kd.R_lower (Kd.R_new' (Kd.R_new' (Kd.R_new' ho0 (Kd.R_lt (zR ah))) (Kd.R_lt (zR ag))) (Kd.R_lt (zR am))) (below_size (zb HB)))
              have bA := zK (below_step (zb HB) hb)
              clear ai aj ah ag am HB; have ai := an; have aj := ao; have ah := ap; have ag := au; have am := av; have aJ := aw; have HB := bA; clear an ao ap au av aw bA; (try clear hb); (try clear hb2); (try clear hk); (try clear hi); (try clear ho0)
              obtain ⟨Ao42, co42, cn⟩ := Kd.R_slice am.out
              (first | subst cn | (injection cn with f1_ f2_ f3_; have f4_ := f1_.symm; have f5_ := f3_.symm; clear f1_ f2_ f3_; subst f4_; subst f5_))
              obtain ⟨Ao43, co43, co⟩ := Kd.R_slice aJ.out
              (first | subst co | (injection co with f1_ f2_ f3_; have f4_ := f1_.symm; have f5_ := f3_.symm; clear f1_ f2_ f3_; subst f4_; subst f5_))
              refine hK.out _ _ ⟨bK, bL⟩ (fun hHeld => ?_)
              clear hK K
              refine norm_ (a' := ?_) ?_ ?_
              rotate_left
              ·show Act.put _ (some 51) _ = _
               simp only [Act.put, zp, zq, zr, i64_w, i32_w]
               rfl
              refine one_ (i := 5) (N := some 52) #[tt, tt, tt, tt, tt, tt, ff, ff, ff, ff, ff, ff, ff, ff, ff, ff, ff, ff, ff, ff, ff, ff, ff, ff, ff, ff, ff, ff, ff, ff, ff, ff, ff, ff, ff, ff, ff, ff, ff, ff, ff] rfl rfl (one_of HT_.out (by kernel_rfl)) (by decide) (fun K hK => ?_)
              refine goes_ Try.func28 (by kernel_rfl) rfl #[.slice Ao42 ad.length co42, .slice Ao43 aQ.length co43] (by rfl) rfl rfl (by (try simp only [List.map_toArray, List.map_cons, List.map_nil]); first | done | rfl | (simp only [List.length_drop, List.length_take]; rfl)) ?_
              with_reducible refine (laws_sameInts.calls k2 _ _ ad _ _ aQ true _ ?side1 ?side2 ?side3 ?side4 A26.out).mono ?_
              (case side1 => repeat (first | exact (Kd.R_reads' am.out).2.2 | (with_reducible refine Kd.C_alloc ?_ _) | (with_reducible refine Kd.C_drewN ?_ _) | (with_reducible refine Kd.C_drew ?_)))
              (case side2 => exact (Kd.R_reads' am.out).2.1)
              (case side3 => repeat (first | exact (Kd.R_reads' aJ.out).2.2 | (with_reducible refine Kd.C_alloc ?_ _) | (with_reducible refine Kd.C_drewN ?_ _) | (with_reducible refine Kd.C_drew ?_)))
              (case side4 => exact (Kd.R_reads' aJ.out).2.1)
              rintro e w' ⟨rfl, ⟨nd, rfl⟩⟩
              refine ⟨_, rfl, ?_⟩
              obtain ⟨Ao44, co44, cp⟩ := Kd.R_slice ag.out
              (first | subst cp | (injection cp with f1_ f2_ f3_; have f4_ := f1_.symm; have f5_ := f3_.symm; clear f1_ f2_ f3_; subst f4_; subst f5_))
              refine hK.out _ _ ⟨hHeld.1, hHeld.2⟩ (fun hHeld => ?_)
              clear hK K
              refine norm_ (a' := ?_) ?_ ?_
              rotate_left
              ·show Act.put _ (some 52) _ = _
               simp only [Act.put, zp, zq, zr, i64_w, i32_w]
               rfl
              refine zu 6 (some 53) #[tt, tt, tt, tt, tt, tt, tt, ff, ff, ff, ff, ff, ff, ff, ff, ff, ff, ff, ff, ff, ff, ff, ff, ff, ff, ff, ff, ff, ff, ff, ff, ff, ff, ff, ff, ff, ff, ff, ff, ff, ff] (any_of HT_.out (by kernel_rfl)) ?_
              refine zu 7 (some 54) #[tt, tt, tt, tt, tt, tt, tt, tt, ff, ff, ff, ff, ff, ff, ff, ff, ff, ff, ff, ff, ff, ff, ff, ff, ff, ff, ff, ff, ff, ff, ff, ff, ff, ff, ff, ff, ff, ff, ff, ff, ff] (any_of HT_.out (by kernel_rfl)) ?_
              refine zu 8 (some 55) #[tt, tt, tt, tt, tt, tt, tt, tt, tt, ff, ff, ff, ff, ff, ff, ff, ff, ff, ff, ff, ff, ff, ff, ff, ff, ff, ff, ff, ff, ff, ff, ff, ff, ff, ff, ff, ff, ff, ff, ff, ff] (any_of HT_.out (by kernel_rfl)) ?_
              refine zu 9 (some 56) #[tt, tt, tt, tt, tt, tt, tt, tt, tt, tt, ff, ff, ff, ff, ff, ff, ff, ff, ff, ff, ff, ff, ff, ff, ff, ff, ff, ff, ff, ff, ff, ff, ff, ff, ff, ff, ff, ff, ff, ff, ff] (any_of HT_.out (by kernel_rfl)) ?_
              refine zu 10 (some 57) #[tt, tt, tt, tt, tt, tt, tt, tt, tt, tt, tt, ff, ff, ff, ff, ff, ff, ff, ff, ff, ff, ff, ff, ff, ff, ff, ff, ff, ff, ff, ff, ff, ff, ff, ff, ff, ff, ff, ff, ff, ff] (any_of HT_.out (by kernel_rfl)) ?_
              refine zu 11 (some 58) #[tt, tt, tt, tt, tt, tt, tt, tt, tt, tt, tt, tt, ff, ff, ff, ff, ff, ff, ff, ff, ff, ff, ff, ff, ff, ff, ff, ff, ff, ff, ff, ff, ff, ff, ff, ff, ff, ff, ff, ff, ff] (any_of HT_.out (by kernel_rfl)) ?_
              refine zu 12 (some 59) #[tt, tt, tt, tt, tt, tt, tt, tt, tt, tt, tt, tt, tt, ff, ff, ff, ff, ff, ff, ff, ff, ff, ff, ff, ff, ff, ff, ff, ff, ff, ff, ff, ff, ff, ff, ff, ff, ff, ff, ff, ff] (any_of HT_.out (by kernel_rfl)) ?_
              refine zu 13 (some 60) #[tt, tt, tt, tt, tt, tt, tt, tt, tt, tt, tt, tt, tt, tt, ff, ff, ff, ff, ff, ff, ff, ff, ff, ff, ff, ff, ff, ff, ff, ff, ff, ff, ff, ff, ff, ff, ff, ff, ff, ff, ff] (any_of HT_.out (by kernel_rfl)) ?_
              refine zu 14 (some 61) #[tt, tt, tt, tt, tt, tt, tt, tt, tt, tt, tt, tt, tt, tt, tt, ff, ff, ff, ff, ff, ff, ff, ff, ff, ff, ff, ff, ff, ff, ff, ff, ff, ff, ff, ff, ff, ff, ff, ff, ff, ff] (any_of HT_.out (by kernel_rfl)) ?_
              refine zu 15 (some 62) #[tt, tt, tt, tt, tt, tt, tt, tt, tt, tt, tt, tt, tt, tt, tt, tt, ff, ff, ff, ff, ff, ff, ff, ff, ff, ff, ff, ff, ff, ff, ff, ff, ff, ff, ff, ff, ff, ff, ff, ff, ff] (any_of HT_.out (by kernel_rfl)) ?_
              refine zt 16 (some 63) #[tt, tt, tt, tt, tt, tt, tt, tt, tt, tt, tt, tt, tt, tt, tt, tt, tt, ff, ff, ff, ff, ff, ff, ff, ff, ff, ff, ff, ff, ff, ff, ff, ff, ff, ff, ff, ff, ff, ff, ff, ff] (take_ofW HT_.out HW_.out (by kernel_rfl)) hHeld ?_
              refine zu 17 (some 64) #[tt, tt, tt, tt, tt, tt, tt, tt, tt, tt, tt, tt, tt, tt, tt, tt, tt, tt, ff, ff, ff, ff, ff, ff, ff, ff, ff, ff, ff, ff, ff, ff, ff, ff, ff, ff, ff, ff, ff, ff, ff] (any_of HT_.out (by kernel_rfl)) ?_
              refine zu 18 (some 65) #[tt, tt, tt, tt, tt, tt, tt, tt, tt, tt, tt, tt, tt, tt, tt, tt, tt, tt, tt, ff, ff, ff, ff, ff, ff, ff, ff, ff, ff, ff, ff, ff, ff, ff, ff, ff, ff, ff, ff, ff, ff] (any_of HT_.out (by kernel_rfl)) ?_
              refine pure_ (i := 19) (N := some 66) (v := undef) (a' := ?_) #[tt, tt, tt, tt, tt, tt, tt, tt, tt, tt, tt, tt, tt, tt, tt, tt, tt, tt, tt, tt, ff, ff, ff, ff, ff, ff, ff, ff, ff, ff, ff, ff, ff, ff, ff, ff, ff, ff, ff, ff, ff] rfl rfl (any_of HT_.out (by kernel_rfl)) (fun _ _ _ h => h) (Or.inr ⟨by rfl, rfl⟩) ?_ ?_
              rotate_left
              ·simp only [Act.put, zp, zq, zr, i64_w, i32_w]
               rfl
              refine pure_ (i := 20) (N := some 67) (v := undef) (a' := ?_) #[tt, tt, tt, tt, tt, tt, tt, tt, tt, tt, tt, tt, tt, tt, tt, tt, tt, tt, tt, tt, tt, ff, ff, ff, ff, ff, ff, ff, ff, ff, ff, ff, ff, ff, ff, ff, ff, ff, ff, ff, ff] rfl rfl (any_of HT_.out (by kernel_rfl)) (fun _ _ _ h => h) (Or.inr ⟨by rfl, rfl⟩) ?_ ?_
              rotate_left
              ·simp only [Act.put, zp, zq, zr, i64_w, i32_w]
               rfl
              refine pure_ (i := 21) (N := some 68) (v := undef) (a' := ?_) #[tt, tt, tt, tt, tt, tt, tt, tt, tt, tt, tt, tt, tt, tt, tt, tt, tt, tt, tt, tt, tt, tt, ff, ff, ff, ff, ff, ff, ff, ff, ff, ff, ff, ff, ff, ff, ff, ff, ff, ff, ff] rfl rfl (any_of HT_.out (by kernel_rfl)) (fun _ _ _ h => h) (Or.inr ⟨by rfl, rfl⟩) ?_ ?_
              rotate_left
              ·simp only [Act.put, zp, zq, zr, i64_w, i32_w]
               rfl
              refine pure_ (i := 22) (N := some 69) (v := undef) (a' := ?_) #[tt, tt, tt, tt, tt, tt, tt, tt, tt, tt, tt, tt, tt, tt, tt, tt, tt, tt, tt, tt, tt, tt, tt, ff, ff, ff, ff, ff, ff, ff, ff, ff, ff, ff, ff, ff, ff, ff, ff, ff, ff] rfl rfl (any_of HT_.out (by kernel_rfl)) (fun _ _ _ h => h) (Or.inr ⟨by rfl, rfl⟩) ?_ ?_
              rotate_left
              ·simp only [Act.put, zp, zq, zr, i64_w, i32_w]
               rfl
              refine pure_ (i := 23) (N := some 70) (v := undef) (a' := ?_) #[tt, tt, tt, tt, tt, tt, tt, tt, tt, tt, tt, tt, tt, tt, tt, tt, tt, tt, tt, tt, tt, tt, tt, tt, ff, ff, ff, ff, ff, ff, ff, ff, ff, ff, ff, ff, ff, ff, ff, ff, ff] rfl rfl (any_of HT_.out (by kernel_rfl)) (fun _ _ _ h => h) (Or.inr ⟨by rfl, rfl⟩) ?_ ?_
              rotate_left
              ·simp only [Act.put, zp, zq, zr, i64_w, i32_w]
               rfl
              refine pure_ (i := 24) (N := some 71) (v := undef) (a' := ?_) #[tt, tt, tt, tt, tt, tt, tt, tt, tt, tt, tt, tt, tt, tt, tt, tt, tt, tt, tt, tt, tt, tt, tt, tt, tt, ff, ff, ff, ff, ff, ff, ff, ff, ff, ff, ff, ff, ff, ff, ff, ff] rfl rfl (any_of HT_.out (by kernel_rfl)) (fun _ _ _ h => h) (Or.inr ⟨by rfl, rfl⟩) ?_ ?_
              rotate_left
              ·simp only [Act.put, zp, zq, zr, i64_w, i32_w]
               rfl
              refine pure_ (i := 25) (N := some 72) (v := undef) (a' := ?_) #[tt, tt, tt, tt, tt, tt, tt, tt, tt, tt, tt, tt, tt, tt, tt, tt, tt, tt, tt, tt, tt, tt, tt, tt, tt, tt, ff, ff, ff, ff, ff, ff, ff, ff, ff, ff, ff, ff, ff, ff, ff] rfl rfl (any_of HT_.out (by kernel_rfl)) (fun _ _ _ h => h) (Or.inr ⟨by rfl, rfl⟩) ?_ ?_
              rotate_left
              ·simp only [Act.put, zp, zq, zr, i64_w, i32_w]
               rfl
              refine pure_ (i := 26) (N := some 73) (v := undef) (a' := ?_) #[tt, tt, tt, tt, tt, tt, tt, tt, tt, tt, tt, tt, tt, tt, tt, tt, tt, tt, tt, tt, tt, tt, tt, tt, tt, tt, tt, ff, ff, ff, ff, ff, ff, ff, ff, ff, ff, ff, ff, ff, ff] rfl rfl (any_of HT_.out (by kernel_rfl)) (fun _ _ _ h => h) (Or.inr ⟨by rfl, rfl⟩) ?_ ?_
              rotate_left
              ·simp only [Act.put, zp, zq, zr, i64_w, i32_w]
               rfl
              refine pure_ (i := 27) (N := some 74) (v := undef) (a' := ?_) #[tt, tt, tt, tt, tt, tt, tt, tt, tt, tt, tt, tt, tt, tt, tt, tt, tt, tt, tt, tt, tt, tt, tt, tt, tt, tt, tt, tt, ff, ff, ff, ff, ff, ff, ff, ff, ff, ff, ff, ff, ff] rfl rfl (any_of HT_.out (by kernel_rfl)) (fun _ _ _ h => h) (Or.inr ⟨by rfl, rfl⟩) ?_ ?_
              rotate_left
              ·simp only [Act.put, zp, zq, zr, i64_w, i32_w]
               rfl
              refine zu 28 (some 75) #[tt, tt, tt, tt, tt, tt, tt, tt, tt, tt, tt, tt, tt, tt, tt, tt, tt, tt, tt, tt, tt, tt, tt, tt, tt, tt, tt, tt, tt, ff, ff, ff, ff, ff, ff, ff, ff, ff, ff, ff, ff] (any_of HT_.out (by kernel_rfl)) ?_
              refine zu 29 (some 76) #[tt, tt, tt, tt, tt, tt, tt, tt, tt, tt, tt, tt, tt, tt, tt, tt, tt, tt, tt, tt, tt, tt, tt, tt, tt, tt, tt, tt, tt, tt, ff, ff, ff, ff, ff, ff, ff, ff, ff, ff, ff] (any_of HT_.out (by kernel_rfl)) ?_
              refine zu 30 (some 77) #[tt, tt, tt, tt, tt, tt, tt, tt, tt, tt, tt, tt, tt, tt, tt, tt, tt, tt, tt, tt, tt, tt, tt, tt, tt, tt, tt, tt, tt, tt, tt, ff, ff, ff, ff, ff, ff, ff, ff, ff, ff] (any_of HT_.out (by kernel_rfl)) ?_
              refine zu 31 (some 78) #[tt, tt, tt, tt, tt, tt, tt, tt, tt, tt, tt, tt, tt, tt, tt, tt, tt, tt, tt, tt, tt, tt, tt, tt, tt, tt, tt, tt, tt, tt, tt, tt, ff, ff, ff, ff, ff, ff, ff, ff, ff] (any_of HT_.out (by kernel_rfl)) ?_
              refine zu 32 (some 79) #[tt, tt, tt, tt, tt, tt, tt, tt, tt, tt, tt, tt, tt, tt, tt, tt, tt, tt, tt, tt, tt, tt, tt, tt, tt, tt, tt, tt, tt, tt, tt, tt, tt, ff, ff, ff, ff, ff, ff, ff, ff] (any_of HT_.out (by kernel_rfl)) ?_
              refine zu 33 (some 80) #[tt, tt, tt, tt, tt, tt, tt, tt, tt, tt, tt, tt, tt, tt, tt, tt, tt, tt, tt, tt, tt, tt, tt, tt, tt, tt, tt, tt, tt, tt, tt, tt, tt, tt, ff, ff, ff, ff, ff, ff, ff] (any_of HT_.out (by kernel_rfl)) ?_
              refine zu 36 (some 83) #[tt, tt, tt, tt, tt, tt, tt, tt, tt, tt, tt, tt, tt, tt, tt, tt, tt, tt, tt, tt, tt, tt, tt, tt, tt, tt, tt, tt, tt, tt, tt, tt, tt, tt, ff, ff, tt, ff, ff, ff, ff] (any_of HT_.out (by kernel_rfl)) ?_
              refine zu 37 (some 84) #[tt, tt, tt, tt, tt, tt, tt, tt, tt, tt, tt, tt, tt, tt, tt, tt, tt, tt, tt, tt, tt, tt, tt, tt, tt, tt, tt, tt, tt, tt, tt, tt, tt, tt, ff, ff, tt, tt, ff, ff, ff] (any_of HT_.out (by kernel_rfl)) ?_
              refine zu 38 (some 85) #[tt, tt, tt, tt, tt, tt, tt, tt, tt, tt, tt, tt, tt, tt, tt, tt, tt, tt, tt, tt, tt, tt, tt, tt, tt, tt, tt, tt, tt, tt, tt, tt, tt, tt, ff, ff, tt, tt, tt, ff, ff] (any_of HT_.out (by kernel_rfl)) ?_
              refine zt 34 (some 81) #[tt, tt, tt, tt, tt, tt, tt, tt, tt, tt, tt, tt, tt, tt, tt, tt, tt, tt, tt, tt, tt, tt, tt, tt, tt, tt, tt, tt, tt, tt, tt, tt, tt, tt, tt, ff, tt, tt, tt, ff, ff] (take_ofW HT_.out HW_.out (by kernel_rfl)) hHeld ?_
              refine zu 35 (some 82) #[tt, tt, tt, tt, tt, tt, tt, tt, tt, tt, tt, tt, tt, tt, tt, tt, tt, tt, tt, tt, tt, tt, tt, tt, tt, tt, tt, tt, tt, tt, tt, tt, tt, tt, tt, tt, tt, tt, tt, ff, ff] (any_of HT_.out (by kernel_rfl)) ?_
              refine zu 39 (some 86) #[tt, tt, tt, tt, tt, tt, tt, tt, tt, tt, tt, tt, tt, tt, tt, tt, tt, tt, tt, tt, tt, tt, tt, tt, tt, tt, tt, tt, tt, tt, tt, tt, tt, tt, tt, tt, tt, tt, tt, tt, ff] (any_of HT_.out (by kernel_rfl)) ?_
              refine zu 40 (some 87) #[tt, tt, tt, tt, tt, tt, tt, tt, tt, tt, tt, tt, tt, tt, tt, tt, tt, tt, tt, tt, tt, tt, tt, tt, tt, tt, tt, tt, tt, tt, tt, tt, tt, tt, tt, tt, tt, tt, tt, tt, tt] (any_of HT_.out (by kernel_rfl)) ?_
              refine done_ (done_of HT_.out (by kernel_rfl)) ?_
              try go_wp2
              go_meet
              case rel => exact ⟨_, (((decide ((rd ac aa) ≥ 0)) != ((ad.length : Int) == 1))), (by first | rfl | (simp; done) | (simp [*]; done)), H', ⟨by have := bd.out; have := be.out; first | omega | exact Nat.le_refl _⟩, ⟨zR ai⟩, ⟨zR aj⟩, ⟨by (with_reducible repeat (first | apply Kd.R_alloc | apply Kd.R_drewN | apply Kd.R_drew)); exact Kd.R_mono ah.out (fun _ hk => ⟨hk.1.1, hk.1.2⟩)⟩, ⟨by (with_reducible repeat (first | apply Kd.R_alloc | apply Kd.R_drewN | apply Kd.R_drew)); exact Kd.R_mono ag.out (fun _ hk => ⟨hk.1.1, hk.1.2⟩)⟩, ⟨by (with_reducible repeat (first | apply Kd.R_alloc | apply Kd.R_drewN | apply Kd.R_drew)); exact Kd.R_mono am.out (fun _ hk => ⟨hk.1.1.2, hk.1.2⟩)⟩, ⟨zb HB⟩⟩
            ·rw [if_neg b0] at H
             exact absurd H (by simp)
           ·rw [if_neg bZ] at H
            exact absurd H (by simp)
         ·replace bY := Bool.eq_false_iff.mpr bY
          subst bY
          have H1 : (laws_FnSure.j2 k2 ak af ae ac aa ad true) = some r := by rw [if_neg (show ¬ (false = true) by decide)] at H; exact H
          clear H; have H := H1; clear H1
          exact absurd (H.trans (congrArg some hrt.out)) (by cases k2 <;> simp [laws_FnSure.j2])
        case rest =>
         clear bC
         try clear c2
         try clear p2
         try clear c3
         try clear c4
         try clear p9
         try clear q9
         try clear hx9
         try clear bY
         try clear bu
         try clear bZ
         try clear b0
         try clear bz
         try clear bi
         try clear b1
         try clear bx
         try clear bj
         try clear bk
         try clear ax
         try clear aH
         try clear aS
         try clear bl
         try clear aT
         try clear bm
         obtain ⟨kq, aR, rfl, HA, aP, ai, aj, ah, ag, al, HB⟩ := hcut
         cases kq with
         | zero => exact absurd HA.out (by simp [laws_FnSure.j2])
         | succ kj22 =>
          have H := HA.out; clear HA
          simp only [laws_FnSure.j2] at H
          by_cases cq : aR = true
          ·subst cq
           have H1 : (some false) = some r := by rw [if_pos rfl] at H; exact H
           clear H; have H := H1; clear H1
           exact absurd (H.trans (congrArg some hrt.out)) (by simp)
          ·replace cq := Bool.eq_false_iff.mpr cq
           subst cq
           have H1 : (laws_FnSure.l1 kj22 ak af ae ac aa ad false 0) = some r := by rw [if_neg (show ¬ (false = true) by decide)] at H; exact H
           clear H; have H := H1; clear H1; have H' := zK H; clear H
           go_wp2
           go_loopg [9, 10] kj22 (fun kq v9 v10 w' => ∃ (bn : Bool) (ab : Int), v9 = .bool bn ∧ v10 = .int .i64 ab ∧ Aside0 (laws_FnSure.l1 kq ak af ae ac aa ad bn ab = some r) ∧ Aside0 (kq ≤ kj22) ∧ Aside0 (Kd.R k52 52 w' w.heap.size (fun _ => True) (.slice bs ak.length bt) ak) ∧ Aside0 (Kd.R k89 89 w' w.heap.size (fun _ => True) (.slice aL af.length aM) af) ∧ Aside0 (Kd.R (Kd.int .i64) 3 w' w.heap.size (fun k_ => some k_ ≠ (aO : Value).ownBlock ∧ some k_ ≠ (bc : Value).ownBlock) aN ae) ∧ Aside0 (Kd.R (Kd.int .i64) 3 w' w.heap.size (fun k_ => some k_ ≠ (aN : Value).ownBlock ∧ some k_ ≠ (bc : Value).ownBlock) aO ac) ∧ Aside0 (Kd.R (Kd.int .i64) 3 w' w.heap.size (fun k_ => some k_ ≠ (aN : Value).ownBlock ∧ some k_ ≠ (aO : Value).ownBlock) bc ad) ∧ Aside0 (Below w.heap.size w w'))
           case atStart => exact ⟨(false), (0), (by first | rfl | (simp; done) | (simp [*]; done)), (by first | rfl | (simp; done) | (simp [*]; done)), H', ⟨Nat.le_refl _⟩, ⟨zR ai⟩, ⟨zR aj⟩, ⟨zR ah⟩, ⟨zR ag⟩, ⟨zR al⟩, ⟨zb HB⟩⟩
           case round =>
            clear H'
            try clear c2
            try clear p2
            try clear c3
            try clear c4
            try clear p9
            try clear q9
            try clear hx9
            try clear bY
            try clear bu
            try clear bZ
            try clear b0
            try clear bz
            try clear bi
            try clear b1
            try clear bx
            try clear bj
            try clear bk
            try clear cq
            try clear ax
            try clear aH
            try clear p2
            try clear p9
            try clear aS
            try clear bl
            try clear q9
            try clear aT
            try clear bm
            obtain ⟨bn, ab, rfl, rfl, HA, bv, ai, aj, ah, ag, al, HB⟩ := hrel
            cases gk with
            | zero => exact absurd HA.out (by simp [laws_FnSure.l1])
            | succ k4 =>
             have H := HA.out; clear HA
             simp only [laws_FnSure.l1] at H
             by_cases b2 : ab < (ad.length : Int)
             ·rw [if_pos b2] at H
              have cr : decide (ab < (ad.length : Int)) = true := decide_eq_true b2
              clear b2
              by_cases c47 : bn = true
              ·subst c47
               have H1 : (if ab > 0 then (if 0 ≤ ab then (if 0 ≤ (wrap64 (ab - 1)) then (if (wrap64 (ab - 1)) < (ad.length : Int) then (if (rd ad ab) ≤ (rd ad (wrap64 (ab - 1))) then (some false) else (laws_FnSure.l1 k4 ak af ae ac aa ad true (wrap64 (ab + 1)))) else (none)) else (none)) else (none)) else (laws_FnSure.l1 k4 ak af ae ac aa ad true (wrap64 (ab + 1)))) = some r := by rw [if_pos rfl] at H; exact H
               clear H; have H := H1; clear H1
               by_cases b3 : ab > 0
               ·rw [if_pos b3] at H
                have cs : decide (0 < ab) = true := decide_eq_true b3
                clear b3
                by_cases c49 : 0 ≤ ab
                ·rw [if_pos c49] at H
                 have c49b0 : decide (0 ≤ ab) = true := decide_eq_true c49
                 clear c49
                 obtain ⟨az, bo⟩ : ∃ j_ : Int, (wrap64 (ab - 1)) = j_ := ⟨_, rfl⟩
                 replace H : (if 0 ≤ (az) then (if (az) < (ad.length : Int) then (if (rd ad ab) ≤ (rd ad (az)) then (some false) else (laws_FnSure.l1 k4 ak af ae ac aa ad true (wrap64 (ab + 1)))) else (none)) else (none)) = some r := by first | (rw [bo] at H; exact H) | (simp only [bo] at H ⊢; exact H)
                 have hji50w : (IntKind.i64.wrap (ab - 1)) = az := (i64_w _).trans bo
                 by_cases c51 : 0 ≤ (az)
                 ·rw [if_pos c51] at H
                  have c51b0 : decide (0 ≤ (az)) = true := decide_eq_true c51
                  clear c51
                  by_cases c52 : (az) < (ad.length : Int)
                  ·rw [if_pos c52] at H
                   have c52b0 : decide ((az) < (ad.length : Int)) = true := decide_eq_true c52
                   clear c52
                   by_cases b4 : (rd ad ab) ≤ (rd ad (az))
                   ·rw [if_pos b4] at H
                    have ct : decide ((rd ad ab) ≤ (rd ad (az))) = true := decide_eq_true b4
                    clear b4
                    exact absurd (H.trans (congrArg some hrt.out)) (by simp)
                   ·rw [if_neg b4] at H
                    have ct : decide ((rd ad ab) ≤ (rd ad (az))) = false := decide_eq_false b4
                    clear b4; have H' := zK H; clear H
                    obtain ⟨Ao54, co54, eo54⟩ := Kd.R_slice al.out
                    subst eo54
                    try go_wp2
                    have an := zK (Kd.R_drew ai.out)
                    have ao := zK (Kd.R_drew aj.out)
                    have ap := zK (Kd.R_drew ah.out)
                    have au := zK (Kd.R_drew ag.out)
                    have av := zK (Kd.R_drew al.out)
                    have aw := zK (zE HB.out)
                    clear ai aj ah ag al HB; have ai := an; have aj := ao; have ah := ap; have ag := au; have al := av; have HB := aw; clear an ao ap au av aw
                    refine start_ (n := 13) (S := fun w' => True) (ds := []) #[ff, ff, ff, ff, ff, ff, ff, ff, ff, ff, ff, ff, ff] (by kernel_rfl) rfl rfl trivial (fun hHeld => ?_); refine with_tabW laws_FnSure.tab18 laws_FnSure.bits18 (fun HT_ HW_ => ?_)
                    generalize wr.drew = w55 at ai aj ah ag al HB hHeld ⊢
                    refine zu 0 (some 94) #[tt, ff, ff, ff, ff, ff, ff, ff, ff, ff, ff, ff, ff] (any_of HT_.out (by kernel_rfl)) ?_
                    refine zu 1 (some 95) #[tt, tt, ff, ff, ff, ff, ff, ff, ff, ff, ff, ff, ff] (any_of HT_.out (by kernel_rfl)) ?_
                    refine pure_ (i := 2) (N := some 96) (v := undef) (a' := ?_) #[tt, tt, tt, ff, ff, ff, ff, ff, ff, ff, ff, ff, ff] rfl rfl (any_of HT_.out (by kernel_rfl)) (fun _ _ _ h => h) (Or.inr ⟨by rfl, rfl⟩) ?_ ?_
                    rotate_left
                    ·simp only [Act.put, zp, zq, zr, i64_w, i32_w]
                     rfl
                    refine pure_ (i := 3) (N := some 97) (v := undef) (a' := ?_) #[tt, tt, tt, tt, ff, ff, ff, ff, ff, ff, ff, ff, ff] rfl rfl (any_of HT_.out (by kernel_rfl)) (fun _ _ _ h => h) (Or.inr ⟨by rfl, rfl⟩) ?_ ?_
                    rotate_left
                    ·simp only [Act.put, zp, zq, zr, i64_w, i32_w]
                     rfl
                    refine pure_ (i := 4) (N := some 98) (v := undef) (a' := ?_) #[tt, tt, tt, tt, tt, ff, ff, ff, ff, ff, ff, ff, ff] rfl rfl (any_of HT_.out (by kernel_rfl)) (fun _ _ _ h => h) (Or.inr ⟨by rfl, rfl⟩) ?_ ?_
                    rotate_left
                    ·simp only [Act.put, zp, zq, zr, i64_w, i32_w]
                     rfl
                    refine pure_ (i := 5) (N := some 99) (v := undef) (a' := ?_) #[tt, tt, tt, tt, tt, tt, ff, ff, ff, ff, ff, ff, ff] rfl rfl (any_of HT_.out (by kernel_rfl)) (fun _ _ _ h => h) (Or.inr ⟨by rfl, rfl⟩) ?_ ?_
                    rotate_left
                    ·simp only [Act.put, zp, zq, zr, i64_w, i32_w]
                     rfl
                    refine pure_ (i := 6) (N := some 100) (v := undef) (a' := ?_) #[tt, tt, tt, tt, tt, tt, tt, ff, ff, ff, ff, ff, ff] rfl rfl (any_of HT_.out (by kernel_rfl)) (fun _ _ _ h => h) (Or.inr ⟨by rfl, rfl⟩) ?_ ?_
                    rotate_left
                    ·simp only [Act.put, zp, zq, zr, i64_w, i32_w]
                     rfl
                    refine pure_ (i := 7) (N := some 101) (v := undef) (a' := ?_) #[tt, tt, tt, tt, tt, tt, tt, tt, ff, ff, ff, ff, ff] rfl rfl (any_of HT_.out (by kernel_rfl)) (fun _ _ _ h => h) (Or.inr ⟨by rfl, rfl⟩) ?_ ?_
                    rotate_left
                    ·simp only [Act.put, zp, zq, zr, i64_w, i32_w]
                     rfl
                    refine pure_ (i := 8) (N := some 102) (v := undef) (a' := ?_) #[tt, tt, tt, tt, tt, tt, tt, tt, tt, ff, ff, ff, ff] rfl rfl (any_of HT_.out (by kernel_rfl)) (fun _ _ _ h => h) (Or.inr ⟨by rfl, rfl⟩) ?_ ?_
                    rotate_left
                    ·simp only [Act.put, zp, zq, zr, i64_w, i32_w]
                     rfl
                    refine pure_ (i := 9) (N := some 103) (v := undef) (a' := ?_) #[tt, tt, tt, tt, tt, tt, tt, tt, tt, tt, ff, ff, ff] rfl rfl (any_of HT_.out (by kernel_rfl)) (fun _ _ _ h => h) (Or.inr ⟨by rfl, rfl⟩) ?_ ?_
                    rotate_left
                    ·simp only [Act.put, zp, zq, zr, i64_w, i32_w]
                     rfl
                    refine pure_ (i := 10) (N := some 104) (v := undef) (a' := ?_) #[tt, tt, tt, tt, tt, tt, tt, tt, tt, tt, tt, ff, ff] rfl rfl (any_of HT_.out (by kernel_rfl)) (fun _ _ _ h => h) (Or.inr ⟨by rfl, rfl⟩) ?_ ?_
                    rotate_left
                    ·simp only [Act.put, zp, zq, zr, i64_w, i32_w]
                     rfl
                    refine zu 11 (some 105) #[tt, tt, tt, tt, tt, tt, tt, tt, tt, tt, tt, tt, ff] (any_of HT_.out (by kernel_rfl)) ?_
                    refine zu 12 (some 9) #[tt, tt, tt, tt, tt, tt, tt, tt, tt, tt, tt, tt, tt] (any_of HT_.out (by kernel_rfl)) ?_
                    refine done_ (done_of HT_.out (by kernel_rfl)) ?_
                    try go_wp2
                    have an := zK (Kd.R_drew ai.out)
                    have ao := zK (Kd.R_drew aj.out)
                    have ap := zK (Kd.R_drew ah.out)
                    have au := zK (Kd.R_drew ag.out)
                    have av := zK (Kd.R_drew al.out)
                    have aw := zK (zE HB.out)
                    clear ai aj ah ag al HB; have ai := an; have aj := ao; have ah := ap; have ag := au; have al := av; have HB := aw; clear an ao ap au av aw
                    have bM : 0 ≤ (ab : Int) := of_decide_eq_true (by first | (with_reducible assumption) | assumption)
                    have bN : ab < (ad.length : Int) := of_decide_eq_true (by first | (with_reducible assumption) | assumption)
                    obtain ⟨bp, e993, a5⟩ := Kd.at_int (Kd.R_reads' al.out).2.2 ab bM bN
                    cases e993
                    replace bM := eq_true bM; replace bN := eq_true bN
                    have bO : 0 ≤ ((az) : Int) := of_decide_eq_true (by first | (with_reducible assumption) | assumption)
                    have bP : (az) < (ad.length : Int) := of_decide_eq_true (by first | (with_reducible assumption) | assumption)
                    obtain ⟨cu, e994, a6⟩ := Kd.at_int (Kd.R_reads' al.out).2.2 (az) bO bP
                    obtain rfl : bp = cu := (by injection e994)
                    replace bO := eq_true bO; replace bP := eq_true bP
                    refine start_ (n := 14) (S := fun w' => w'.cell? (bp.add (ab).toNat) = some (.int .i64 (rd ad ab)) ∧ w'.cell? (bp.add ((az)).toNat) = some (.int .i64 (rd ad (az)))) (ds := []) #[ff, ff, ff, ff, ff, ff, ff, ff, ff, ff, ff, ff, ff, ff] (by kernel_rfl) rfl rfl ⟨a5, a6⟩ (fun hHeld => ?_); refine with_tabW laws_FnSure.tab19 laws_FnSure.bits19 (fun HT_ HW_ => ?_)
                    generalize w55.drew = w56 at ai aj ah ag al HB a5 a6 hHeld ⊢
                    refine zu 0 (some 106) #[tt, ff, ff, ff, ff, ff, ff, ff, ff, ff, ff, ff, ff, ff] (any_of HT_.out (by kernel_rfl)) ?_
                    refine zu 1 (some 107) #[tt, tt, ff, ff, ff, ff, ff, ff, ff, ff, ff, ff, ff, ff] (any_of HT_.out (by kernel_rfl)) ?_
                    refine zu 2 (some 108) #[tt, tt, tt, ff, ff, ff, ff, ff, ff, ff, ff, ff, ff, ff] (any_of HT_.out (by kernel_rfl)) ?_
                    refine zu 3 (some 109) #[tt, tt, tt, tt, ff, ff, ff, ff, ff, ff, ff, ff, ff, ff] (any_of HT_.out (by kernel_rfl)) ?_
                    refine zu 4 (some 110) #[tt, tt, tt, tt, tt, ff, ff, ff, ff, ff, ff, ff, ff, ff] (any_of HT_.out (by kernel_rfl)) ?_
                    refine zu 5 (some 111) #[tt, tt, tt, tt, tt, tt, ff, ff, ff, ff, ff, ff, ff, ff] (any_of HT_.out (by kernel_rfl)) ?_
                    refine zu 7 (some 113) #[tt, tt, tt, tt, tt, tt, ff, tt, ff, ff, ff, ff, ff, ff] (any_of HT_.out (by kernel_rfl)) ?_
                    refine zu 8 (some 114) #[tt, tt, tt, tt, tt, tt, ff, tt, tt, ff, ff, ff, ff, ff] (any_of HT_.out (by kernel_rfl)) ?_
                    refine zu 9 (some 115) #[tt, tt, tt, tt, tt, tt, ff, tt, tt, tt, ff, ff, ff, ff] (any_of HT_.out (by kernel_rfl)) ?_
                    refine zu 10 (some 116) #[tt, tt, tt, tt, tt, tt, ff, tt, tt, tt, tt, ff, ff, ff] (any_of HT_.out (by kernel_rfl)) ?_
                    refine zt 6 (some 112) #[tt, tt, tt, tt, tt, tt, tt, tt, tt, tt, tt, ff, ff, ff] (take_ofW HT_.out HW_.out (by kernel_rfl)) hHeld ?_
                    refine zt 11 (some 117) #[tt, tt, tt, tt, tt, tt, tt, tt, tt, tt, tt, tt, ff, ff] (take_ofW HT_.out HW_.out (by kernel_rfl)) hHeld ?_
                    refine zu 12 (some 118) #[tt, tt, tt, tt, tt, tt, tt, tt, tt, tt, tt, tt, tt, ff] (any_of HT_.out (by kernel_rfl)) ?_
                    refine zu 13 (some 119) #[tt, tt, tt, tt, tt, tt, tt, tt, tt, tt, tt, tt, tt, tt] (any_of HT_.out (by kernel_rfl)) ?_
                    refine done_ (done_of HT_.out (by kernel_rfl)) ?_
                    try go_wp2
                    go_roundg k4
                    case measure => have := bd.out; have := be.out; have := aP.out; have := bv.out; omega
                    case rel => exact ⟨(true), (wrap64 (ab + 1)), (by first | rfl | (simp; done) | (simp [*]; done)), (by first | rfl | (simp; done) | (simp [*]; done)), H', ⟨by have := bd.out; have := be.out; have := aP.out; have := bv.out; omega⟩, ⟨zR ai⟩, ⟨zR aj⟩, ⟨zR ah⟩, ⟨zR ag⟩, ⟨zR al⟩, ⟨zb HB⟩⟩
                  ·rw [if_neg c52] at H
                   exact absurd H (by simp)
                 ·rw [if_neg c51] at H
                  exact absurd H (by simp)
                ·rw [if_neg c49] at H
                 exact absurd H (by simp)
               ·rw [if_neg b3] at H
                have cs : decide (0 < ab) = false := decide_eq_false b3
                clear b3; have H' := zK H; clear H
                obtain ⟨Ao57, co57, eo57⟩ := Kd.R_slice al.out
                subst eo57
                try go_wp2
                have an := zK (Kd.R_drew ai.out)
                have ao := zK (Kd.R_drew aj.out)
                have ap := zK (Kd.R_drew ah.out)
                have au := zK (Kd.R_drew ag.out)
                have av := zK (Kd.R_drew al.out)
                have aw := zK (zE HB.out)
                clear ai aj ah ag al HB; have ai := an; have aj := ao; have ah := ap; have ag := au; have al := av; have HB := aw; clear an ao ap au av aw
                refine start_ (n := 13) (S := fun w' => True) (ds := []) #[ff, ff, ff, ff, ff, ff, ff, ff, ff, ff, ff, ff, ff] (by kernel_rfl) rfl rfl trivial (fun hHeld => ?_); refine with_tabW laws_FnSure.tab18 laws_FnSure.bits18 (fun HT_ HW_ => ?_)
                generalize wr.drew = w58 at ai aj ah ag al HB hHeld ⊢
                refine zu 0 (some 94) #[tt, ff, ff, ff, ff, ff, ff, ff, ff, ff, ff, ff, ff] (any_of HT_.out (by kernel_rfl)) ?_
                refine zu 1 (some 95) #[tt, tt, ff, ff, ff, ff, ff, ff, ff, ff, ff, ff, ff] (any_of HT_.out (by kernel_rfl)) ?_
                refine pure_ (i := 2) (N := some 96) (v := undef) (a' := ?_) #[tt, tt, tt, ff, ff, ff, ff, ff, ff, ff, ff, ff, ff] rfl rfl (any_of HT_.out (by kernel_rfl)) (fun _ _ _ h => h) (Or.inr ⟨by rfl, rfl⟩) ?_ ?_
                rotate_left
                ·simp only [Act.put, zp, zq, zr, i64_w, i32_w]
                 rfl
                refine pure_ (i := 3) (N := some 97) (v := undef) (a' := ?_) #[tt, tt, tt, tt, ff, ff, ff, ff, ff, ff, ff, ff, ff] rfl rfl (any_of HT_.out (by kernel_rfl)) (fun _ _ _ h => h) (Or.inr ⟨by rfl, rfl⟩) ?_ ?_
                rotate_left
                ·simp only [Act.put, zp, zq, zr, i64_w, i32_w]
                 rfl
                refine pure_ (i := 4) (N := some 98) (v := undef) (a' := ?_) #[tt, tt, tt, tt, tt, ff, ff, ff, ff, ff, ff, ff, ff] rfl rfl (any_of HT_.out (by kernel_rfl)) (fun _ _ _ h => h) (Or.inr ⟨by rfl, rfl⟩) ?_ ?_
                rotate_left
                ·simp only [Act.put, zp, zq, zr, i64_w, i32_w]
                 rfl
                refine pure_ (i := 5) (N := some 99) (v := undef) (a' := ?_) #[tt, tt, tt, tt, tt, tt, ff, ff, ff, ff, ff, ff, ff] rfl rfl (any_of HT_.out (by kernel_rfl)) (fun _ _ _ h => h) (Or.inr ⟨by rfl, rfl⟩) ?_ ?_
                rotate_left
                ·simp only [Act.put, zp, zq, zr, i64_w, i32_w]
                 rfl
                refine pure_ (i := 6) (N := some 100) (v := undef) (a' := ?_) #[tt, tt, tt, tt, tt, tt, tt, ff, ff, ff, ff, ff, ff] rfl rfl (any_of HT_.out (by kernel_rfl)) (fun _ _ _ h => h) (Or.inr ⟨by rfl, rfl⟩) ?_ ?_
                rotate_left
                ·simp only [Act.put, zp, zq, zr, i64_w, i32_w]
                 rfl
                refine pure_ (i := 7) (N := some 101) (v := undef) (a' := ?_) #[tt, tt, tt, tt, tt, tt, tt, tt, ff, ff, ff, ff, ff] rfl rfl (any_of HT_.out (by kernel_rfl)) (fun _ _ _ h => h) (Or.inr ⟨by rfl, rfl⟩) ?_ ?_
                rotate_left
                ·simp only [Act.put, zp, zq, zr, i64_w, i32_w]
                 rfl
                refine pure_ (i := 8) (N := some 102) (v := undef) (a' := ?_) #[tt, tt, tt, tt, tt, tt, tt, tt, tt, ff, ff, ff, ff] rfl rfl (any_of HT_.out (by kernel_rfl)) (fun _ _ _ h => h) (Or.inr ⟨by rfl, rfl⟩) ?_ ?_
                rotate_left
                ·simp only [Act.put, zp, zq, zr, i64_w, i32_w]
                 rfl
                refine pure_ (i := 9) (N := some 103) (v := undef) (a' := ?_) #[tt, tt, tt, tt, tt, tt, tt, tt, tt, tt, ff, ff, ff] rfl rfl (any_of HT_.out (by kernel_rfl)) (fun _ _ _ h => h) (Or.inr ⟨by rfl, rfl⟩) ?_ ?_
                rotate_left
                ·simp only [Act.put, zp, zq, zr, i64_w, i32_w]
                 rfl
                refine pure_ (i := 10) (N := some 104) (v := undef) (a' := ?_) #[tt, tt, tt, tt, tt, tt, tt, tt, tt, tt, tt, ff, ff] rfl rfl (any_of HT_.out (by kernel_rfl)) (fun _ _ _ h => h) (Or.inr ⟨by rfl, rfl⟩) ?_ ?_
                rotate_left
                ·simp only [Act.put, zp, zq, zr, i64_w, i32_w]
                 rfl
                refine zu 11 (some 105) #[tt, tt, tt, tt, tt, tt, tt, tt, tt, tt, tt, tt, ff] (any_of HT_.out (by kernel_rfl)) ?_
                refine zu 12 (some 9) #[tt, tt, tt, tt, tt, tt, tt, tt, tt, tt, tt, tt, tt] (any_of HT_.out (by kernel_rfl)) ?_
                refine done_ (done_of HT_.out (by kernel_rfl)) ?_
                try go_wp2
                have an := zK (Kd.R_drew ai.out)
                have ao := zK (Kd.R_drew aj.out)
                have ap := zK (Kd.R_drew ah.out)
                have au := zK (Kd.R_drew ag.out)
                have av := zK (Kd.R_drew al.out)
                have aw := zK (zE HB.out)
                clear ai aj ah ag al HB; have ai := an; have aj := ao; have ah := ap; have ag := au; have al := av; have HB := aw; clear an ao ap au av aw
                refine start_ (n := 14) (S := fun w' => True) (ds := []) #[ff, ff, ff, ff, ff, ff, ff, ff, ff, ff, ff, ff, ff, ff] (by kernel_rfl) rfl rfl trivial (fun hHeld => ?_); refine with_tabW laws_FnSure.tab19 laws_FnSure.bits19 (fun HT_ HW_ => ?_)
                generalize w58.drew = w59 at ai aj ah ag al HB hHeld ⊢
                refine zu 0 (some 106) #[tt, ff, ff, ff, ff, ff, ff, ff, ff, ff, ff, ff, ff, ff] (any_of HT_.out (by kernel_rfl)) ?_
                refine zu 1 (some 107) #[tt, tt, ff, ff, ff, ff, ff, ff, ff, ff, ff, ff, ff, ff] (any_of HT_.out (by kernel_rfl)) ?_
                refine zu 2 (some 108) #[tt, tt, tt, ff, ff, ff, ff, ff, ff, ff, ff, ff, ff, ff] (any_of HT_.out (by kernel_rfl)) ?_
                refine pure_ (i := 3) (N := some 109) (v := undef) (a' := ?_) #[tt, tt, tt, tt, ff, ff, ff, ff, ff, ff, ff, ff, ff, ff] rfl rfl (any_of HT_.out (by kernel_rfl)) (fun _ _ _ h => h) (Or.inr ⟨by rfl, rfl⟩) ?_ ?_
                rotate_left
                ·simp only [Act.put, zp, zq, zr, i64_w, i32_w]
                 rfl
                refine pure_ (i := 4) (N := some 110) (v := undef) (a' := ?_) #[tt, tt, tt, tt, tt, ff, ff, ff, ff, ff, ff, ff, ff, ff] rfl rfl (any_of HT_.out (by kernel_rfl)) (fun _ _ _ h => h) (Or.inr ⟨by rfl, rfl⟩) ?_ ?_
                rotate_left
                ·simp only [Act.put, zp, zq, zr, i64_w, i32_w]
                 rfl
                refine pure_ (i := 5) (N := some 111) (v := undef) (a' := ?_) #[tt, tt, tt, tt, tt, tt, ff, ff, ff, ff, ff, ff, ff, ff] rfl rfl (any_of HT_.out (by kernel_rfl)) (fun _ _ _ h => h) (Or.inr ⟨by rfl, rfl⟩) ?_ ?_
                rotate_left
                ·simp only [Act.put, zp, zq, zr, i64_w, i32_w]
                 rfl
                refine pure_ (i := 6) (N := some 112) (v := undef) (a' := ?_) #[tt, tt, tt, tt, tt, tt, tt, ff, ff, ff, ff, ff, ff, ff] rfl rfl (any_of HT_.out (by kernel_rfl)) (fun _ _ _ h => h) (Or.inr ⟨by rfl, rfl⟩) ?_ ?_
                rotate_left
                ·simp only [Act.put, zp, zq, zr, i64_w, i32_w]
                 rfl
                refine pure_ (i := 7) (N := some 113) (v := undef) (a' := ?_) #[tt, tt, tt, tt, tt, tt, tt, tt, ff, ff, ff, ff, ff, ff] rfl rfl (any_of HT_.out (by kernel_rfl)) (fun _ _ _ h => h) (Or.inr ⟨by rfl, rfl⟩) ?_ ?_
                rotate_left
                ·simp only [Act.put, zp, zq, zr, i64_w, i32_w]
                 rfl
                refine pure_ (i := 8) (N := some 114) (v := undef) (a' := ?_) #[tt, tt, tt, tt, tt, tt, tt, tt, tt, ff, ff, ff, ff, ff] rfl rfl (any_of HT_.out (by kernel_rfl)) (fun _ _ _ h => h) (Or.inr ⟨by rfl, rfl⟩) ?_ ?_
                rotate_left
                ·simp only [Act.put, zp, zq, zr, i64_w, i32_w]
                 rfl
                refine pure_ (i := 9) (N := some 115) (v := undef) (a' := ?_) #[tt, tt, tt, tt, tt, tt, tt, tt, tt, tt, ff, ff, ff, ff] rfl rfl (any_of HT_.out (by kernel_rfl)) (fun _ _ _ h => h) (Or.inr ⟨by rfl, rfl⟩) ?_ ?_
                rotate_left
                ·simp only [Act.put, zp, zq, zr, i64_w, i32_w]
                 rfl
                refine pure_ (i := 10) (N := some 116) (v := undef) (a' := ?_) #[tt, tt, tt, tt, tt, tt, tt, tt, tt, tt, tt, ff, ff, ff] rfl rfl (any_of HT_.out (by kernel_rfl)) (fun _ _ _ h => h) (Or.inr ⟨by rfl, rfl⟩) ?_ ?_
                rotate_left
                ·simp only [Act.put, zp, zq, zr, i64_w, i32_w]
                 rfl
                refine pure_ (i := 11) (N := some 117) (v := undef) (a' := ?_) #[tt, tt, tt, tt, tt, tt, tt, tt, tt, tt, tt, tt, ff, ff] rfl rfl (any_of HT_.out (by kernel_rfl)) (fun _ _ _ h => h) (Or.inr ⟨by rfl, rfl⟩) ?_ ?_
                rotate_left
                ·simp only [Act.put, zp, zq, zr, i64_w, i32_w]
                 rfl
                refine pure_ (i := 12) (N := some 118) (v := undef) (a' := ?_) #[tt, tt, tt, tt, tt, tt, tt, tt, tt, tt, tt, tt, tt, ff] rfl rfl (any_of HT_.out (by kernel_rfl)) (fun _ _ _ h => h) (Or.inr ⟨by rfl, rfl⟩) ?_ ?_
                rotate_left
                ·simp only [Act.put, zp, zq, zr, i64_w, i32_w]
                 rfl
                refine zu 13 (some 119) #[tt, tt, tt, tt, tt, tt, tt, tt, tt, tt, tt, tt, tt, tt] (any_of HT_.out (by kernel_rfl)) ?_
                refine done_ (done_of HT_.out (by kernel_rfl)) ?_
                try go_wp2
                go_roundg k4
                case measure => have := bd.out; have := be.out; have := aP.out; have := bv.out; omega
                case rel => exact ⟨(true), (wrap64 (ab + 1)), (by first | rfl | (simp; done) | (simp [*]; done)), (by first | rfl | (simp; done) | (simp [*]; done)), H', ⟨by have := bd.out; have := be.out; have := aP.out; have := bv.out; omega⟩, ⟨zR ai⟩, ⟨zR aj⟩, ⟨zR ah⟩, ⟨zR ag⟩, ⟨zR al⟩, ⟨zb HB⟩⟩
              ·replace c47 := Bool.eq_false_iff.mpr c47
               subst c47
               have H1 : (if 0 ≤ ab then (if 0 ≤ aa then (if aa < (ae.length : Int) then (if ab > 0 then (if 0 ≤ (wrap64 (ab - 1)) then (if (wrap64 (ab - 1)) < (ad.length : Int) then (if (rd ad ab) ≤ (rd ad (wrap64 (ab - 1))) then (some false) else (laws_FnSure.l1 k4 ak af ae ac aa ad ((rd ad ab) == (rd ae aa)) (wrap64 (ab + 1)))) else (none)) else (none)) else (laws_FnSure.l1 k4 ak af ae ac aa ad ((rd ad ab) == (rd ae aa)) (wrap64 (ab + 1)))) else (none)) else (none)) else (none)) = some r := by rw [if_neg (show ¬ (false = true) by decide)] at H; exact H
               clear H; have H := H1; clear H1
               by_cases c60 : 0 ≤ ab
               ·rw [if_pos c60] at H
                have c60b0 : decide (0 ≤ ab) = true := decide_eq_true c60
                clear c60
                by_cases c61 : 0 ≤ aa
                ·rw [if_pos c61] at H
                 have c61b0 : decide (0 ≤ aa) = true := decide_eq_true c61
                 clear c61
                 by_cases c62 : aa < (ae.length : Int)
                 ·rw [if_pos c62] at H
                  have c62b0 : decide (aa < (ae.length : Int)) = true := decide_eq_true c62
                  clear c62
                  by_cases b5 : ab > 0
                  ·rw [if_pos b5] at H
                   have cv : decide (0 < ab) = true := decide_eq_true b5
                   clear b5
                   obtain ⟨aA, bq⟩ : ∃ j_ : Int, (wrap64 (ab - 1)) = j_ := ⟨_, rfl⟩
                   replace H : (if 0 ≤ (aA) then (if (aA) < (ad.length : Int) then (if (rd ad ab) ≤ (rd ad (aA)) then (some false) else (laws_FnSure.l1 k4 ak af ae ac aa ad ((rd ad ab) == (rd ae aa)) (wrap64 (ab + 1)))) else (none)) else (none)) = some r := by first | (rw [bq] at H; exact H) | (simp only [bq] at H ⊢; exact H)
                   have hji64w : (IntKind.i64.wrap (ab - 1)) = aA := (i64_w _).trans bq
                   by_cases c65 : 0 ≤ (aA)
                   ·rw [if_pos c65] at H
                    have c65b0 : decide (0 ≤ (aA)) = true := decide_eq_true c65
                    clear c65
                    by_cases c66 : (aA) < (ad.length : Int)
                    ·rw [if_pos c66] at H
                     have c66b0 : decide ((aA) < (ad.length : Int)) = true := decide_eq_true c66
                     clear c66
                     by_cases b6 : (rd ad ab) ≤ (rd ad (aA))
                     ·rw [if_pos b6] at H
                      have cw : decide ((rd ad ab) ≤ (rd ad (aA))) = true := decide_eq_true b6
                      clear b6
                      exact absurd (H.trans (congrArg some hrt.out)) (by simp)
                     ·rw [if_neg b6] at H
                      have cw : decide ((rd ad ab) ≤ (rd ad (aA))) = false := decide_eq_false b6
                      clear b6; have H' := zK H; clear H
                      obtain ⟨Ao68, co68, eo68⟩ := Kd.R_slice al.out
                      subst eo68
                      try go_wp2
                      have an := zK (Kd.R_drew ai.out)
                      have ao := zK (Kd.R_drew aj.out)
                      have ap := zK (Kd.R_drew ah.out)
                      have au := zK (Kd.R_drew ag.out)
                      have av := zK (Kd.R_drew al.out)
                      have aw := zK (zE HB.out)
                      clear ai aj ah ag al HB; have ai := an; have aj := ao; have ah := ap; have ag := au; have al := av; have HB := aw; clear an ao ap au av aw
                      have aX : 0 ≤ (ab : Int) := of_decide_eq_true (by first | (with_reducible assumption) | assumption)
                      have aY : ab < (ad.length : Int) := of_decide_eq_true (by first | (with_reducible assumption) | assumption)
                      obtain ⟨aK, bQ, aE⟩ := Kd.at_int (Kd.R_reads' al.out).2.2 ab aX aY
                      cases bQ
                      replace aX := eq_true aX; replace aY := eq_true aY
                      obtain ⟨Ao70, co70, cx⟩ := Kd.R_slice ah.out
                      (first | subst cx | (injection cx with f1_ f2_ f3_; have f4_ := f1_.symm; have f5_ := f3_.symm; clear f1_ f2_ f3_; subst f4_; subst f5_))
                      have aZ : 0 ≤ (aa : Int) := of_decide_eq_true (by first | (with_reducible assumption) | assumption)
                      have a0 : aa < (ae.length : Int) := of_decide_eq_true (by first | (with_reducible assumption) | assumption)
                      (try obtain ⟨A_, c_, rfl⟩ := Kd.R_slice ah.out)
                      obtain ⟨br, bR, aF⟩ := Kd.at_int (Kd.R_reads' ah.out).2.2 aa aZ a0
                      cases bR
                      replace aZ := eq_true aZ; replace a0 := eq_true a0
                      refine start_ (n := 13) (S := fun w' => w'.cell? (aK.add (ab).toNat) = some (.int .i64 (rd ad ab)) ∧ w'.cell? (br.add (aa).toNat) = some (.int .i64 (rd ae aa))) (ds := []) #[ff, ff, ff, ff, ff, ff, ff, ff, ff, ff, ff, ff, ff] (by kernel_rfl) rfl rfl ⟨aE, aF⟩ (fun hHeld => ?_); refine with_tabW laws_FnSure.tab18 laws_FnSure.bits18 (fun HT_ HW_ => ?_)
                      generalize wr.drew = w69 at ai aj ah ag al HB aE aF hHeld ⊢
                      refine zu 0 (some 94) #[tt, ff, ff, ff, ff, ff, ff, ff, ff, ff, ff, ff, ff] (any_of HT_.out (by kernel_rfl)) ?_
                      refine zu 1 (some 95) #[tt, tt, ff, ff, ff, ff, ff, ff, ff, ff, ff, ff, ff] (any_of HT_.out (by kernel_rfl)) ?_
                      refine zu 2 (some 96) #[tt, tt, tt, ff, ff, ff, ff, ff, ff, ff, ff, ff, ff] (any_of HT_.out (by kernel_rfl)) ?_
                      refine zu 3 (some 97) #[tt, tt, tt, tt, ff, ff, ff, ff, ff, ff, ff, ff, ff] (any_of HT_.out (by kernel_rfl)) ?_
                      refine zu 4 (some 98) #[tt, tt, tt, tt, tt, ff, ff, ff, ff, ff, ff, ff, ff] (any_of HT_.out (by kernel_rfl)) ?_
                      refine zu 6 (some 100) #[tt, tt, tt, tt, tt, ff, tt, ff, ff, ff, ff, ff, ff] (any_of HT_.out (by kernel_rfl)) ?_
                      refine zu 7 (some 101) #[tt, tt, tt, tt, tt, ff, tt, tt, ff, ff, ff, ff, ff] (any_of HT_.out (by kernel_rfl)) ?_
                      refine zu 8 (some 102) #[tt, tt, tt, tt, tt, ff, tt, tt, tt, ff, ff, ff, ff] (any_of HT_.out (by kernel_rfl)) ?_
                      refine zt 5 (some 99) #[tt, tt, tt, tt, tt, tt, tt, tt, tt, ff, ff, ff, ff] (take_ofW HT_.out HW_.out (by kernel_rfl)) hHeld ?_
                      refine zt 9 (some 103) #[tt, tt, tt, tt, tt, tt, tt, tt, tt, tt, ff, ff, ff] (take_ofW HT_.out HW_.out (by kernel_rfl)) hHeld ?_
                      refine zu 10 (some 104) #[tt, tt, tt, tt, tt, tt, tt, tt, tt, tt, tt, ff, ff] (any_of HT_.out (by kernel_rfl)) ?_
                      refine zu 11 (some 105) #[tt, tt, tt, tt, tt, tt, tt, tt, tt, tt, tt, tt, ff] (any_of HT_.out (by kernel_rfl)) ?_
                      refine zu 12 (some 9) #[tt, tt, tt, tt, tt, tt, tt, tt, tt, tt, tt, tt, tt] (any_of HT_.out (by kernel_rfl)) ?_
                      refine done_ (done_of HT_.out (by kernel_rfl)) ?_
                      try go_wp2
                      have an := zK (Kd.R_drew ai.out)
                      have ao := zK (Kd.R_drew aj.out)
                      have ap := zK (Kd.R_drew ah.out)
                      have au := zK (Kd.R_drew ag.out)
                      have av := zK (Kd.R_drew al.out)
                      have aw := zK (zE HB.out)
                      clear ai aj ah ag al HB; have ai := an; have aj := ao; have ah := ap; have ag := au; have al := av; have HB := aw; clear an ao ap au av aw
                      have bS : 0 ≤ (ab : Int) := of_decide_eq_true (by first | (with_reducible assumption) | assumption)
                      have bT : ab < (ad.length : Int) := of_decide_eq_true (by first | (with_reducible assumption) | assumption)
                      obtain ⟨cy, e995, a7⟩ := Kd.at_int (Kd.R_reads' al.out).2.2 ab bS bT
                      obtain rfl : aK = cy := (by injection e995)
                      replace bS := eq_true bS; replace bT := eq_true bT
                      have bU : 0 ≤ ((aA) : Int) := of_decide_eq_true (by first | (with_reducible assumption) | assumption)
                      have bV : (aA) < (ad.length : Int) := of_decide_eq_true (by first | (with_reducible assumption) | assumption)
                      obtain ⟨cz, e996, a8⟩ := Kd.at_int (Kd.R_reads' al.out).2.2 (aA) bU bV
                      obtain rfl : aK = cz := (by injection e996)
                      replace bU := eq_true bU; replace bV := eq_true bV
                      refine start_ (n := 14) (S := fun w' => w'.cell? (aK.add (ab).toNat) = some (.int .i64 (rd ad ab)) ∧ w'.cell? (aK.add ((aA)).toNat) = some (.int .i64 (rd ad (aA)))) (ds := []) #[ff, ff, ff, ff, ff, ff, ff, ff, ff, ff, ff, ff, ff, ff] (by kernel_rfl) rfl rfl ⟨a7, a8⟩ (fun hHeld => ?_); refine with_tabW laws_FnSure.tab19 laws_FnSure.bits19 (fun HT_ HW_ => ?_)
                      generalize w69.drew = w71 at ai aj ah ag al HB a7 a8 hHeld ⊢
                      refine zu 0 (some 106) #[tt, ff, ff, ff, ff, ff, ff, ff, ff, ff, ff, ff, ff, ff] (any_of HT_.out (by kernel_rfl)) ?_
                      refine zu 1 (some 107) #[tt, tt, ff, ff, ff, ff, ff, ff, ff, ff, ff, ff, ff, ff] (any_of HT_.out (by kernel_rfl)) ?_
                      refine zu 2 (some 108) #[tt, tt, tt, ff, ff, ff, ff, ff, ff, ff, ff, ff, ff, ff] (any_of HT_.out (by kernel_rfl)) ?_
                      refine zu 3 (some 109) #[tt, tt, tt, tt, ff, ff, ff, ff, ff, ff, ff, ff, ff, ff] (any_of HT_.out (by kernel_rfl)) ?_
                      refine zu 4 (some 110) #[tt, tt, tt, tt, tt, ff, ff, ff, ff, ff, ff, ff, ff, ff] (any_of HT_.out (by kernel_rfl)) ?_
                      refine zu 5 (some 111) #[tt, tt, tt, tt, tt, tt, ff, ff, ff, ff, ff, ff, ff, ff] (any_of HT_.out (by kernel_rfl)) ?_
                      refine zu 7 (some 113) #[tt, tt, tt, tt, tt, tt, ff, tt, ff, ff, ff, ff, ff, ff] (any_of HT_.out (by kernel_rfl)) ?_
                      refine zu 8 (some 114) #[tt, tt, tt, tt, tt, tt, ff, tt, tt, ff, ff, ff, ff, ff] (any_of HT_.out (by kernel_rfl)) ?_
                      refine zu 9 (some 115) #[tt, tt, tt, tt, tt, tt, ff, tt, tt, tt, ff, ff, ff, ff] (any_of HT_.out (by kernel_rfl)) ?_
                      refine zu 10 (some 116) #[tt, tt, tt, tt, tt, tt, ff, tt, tt, tt, tt, ff, ff, ff] (any_of HT_.out (by kernel_rfl)) ?_
                      refine zt 6 (some 112) #[tt, tt, tt, tt, tt, tt, tt, tt, tt, tt, tt, ff, ff, ff] (take_ofW HT_.out HW_.out (by kernel_rfl)) hHeld ?_
                      refine zt 11 (some 117) #[tt, tt, tt, tt, tt, tt, tt, tt, tt, tt, tt, tt, ff, ff] (take_ofW HT_.out HW_.out (by kernel_rfl)) hHeld ?_
                      refine zu 12 (some 118) #[tt, tt, tt, tt, tt, tt, tt, tt, tt, tt, tt, tt, tt, ff] (any_of HT_.out (by kernel_rfl)) ?_
                      refine zu 13 (some 119) #[tt, tt, tt, tt, tt, tt, tt, tt, tt, tt, tt, tt, tt, tt] (any_of HT_.out (by kernel_rfl)) ?_
                      refine done_ (done_of HT_.out (by kernel_rfl)) ?_
                      try go_wp2
                      go_roundg k4
                      case measure => have := bd.out; have := be.out; have := aP.out; have := bv.out; omega
                      case rel => exact ⟨(((rd ad ab) == (rd ae aa))), (wrap64 (ab + 1)), (by first | rfl | (simp; done) | (simp [*]; done)), (by first | rfl | (simp; done) | (simp [*]; done)), H', ⟨by have := bd.out; have := be.out; have := aP.out; have := bv.out; omega⟩, ⟨zR ai⟩, ⟨zR aj⟩, ⟨zR ah⟩, ⟨zR ag⟩, ⟨zR al⟩, ⟨zb HB⟩⟩
                    ·rw [if_neg c66] at H
                     exact absurd H (by simp)
                   ·rw [if_neg c65] at H
                    exact absurd H (by simp)
                  ·rw [if_neg b5] at H
                   have cv : decide (0 < ab) = false := decide_eq_false b5
                   clear b5; have H' := zK H; clear H
                   obtain ⟨Ao72, co72, eo72⟩ := Kd.R_slice al.out
                   subst eo72
                   try go_wp2
                   have an := zK (Kd.R_drew ai.out)
                   have ao := zK (Kd.R_drew aj.out)
                   have ap := zK (Kd.R_drew ah.out)
                   have au := zK (Kd.R_drew ag.out)
                   have av := zK (Kd.R_drew al.out)
                   have aw := zK (zE HB.out)
                   clear ai aj ah ag al HB; have ai := an; have aj := ao; have ah := ap; have ag := au; have al := av; have HB := aw; clear an ao ap au av aw
                   have aX : 0 ≤ (ab : Int) := of_decide_eq_true (by first | (with_reducible assumption) | assumption)
                   have aY : ab < (ad.length : Int) := of_decide_eq_true (by first | (with_reducible assumption) | assumption)
                   obtain ⟨aK, bQ, aE⟩ := Kd.at_int (Kd.R_reads' al.out).2.2 ab aX aY
                   cases bQ
                   replace aX := eq_true aX; replace aY := eq_true aY
                   obtain ⟨Ao74, co74, cA⟩ := Kd.R_slice ah.out
                   (first | subst cA | (injection cA with f1_ f2_ f3_; have f4_ := f1_.symm; have f5_ := f3_.symm; clear f1_ f2_ f3_; subst f4_; subst f5_))
                   have aZ : 0 ≤ (aa : Int) := of_decide_eq_true (by first | (with_reducible assumption) | assumption)
                   have a0 : aa < (ae.length : Int) := of_decide_eq_true (by first | (with_reducible assumption) | assumption)
                   (try obtain ⟨A_, c_, rfl⟩ := Kd.R_slice ah.out)
                   obtain ⟨br, bR, aF⟩ := Kd.at_int (Kd.R_reads' ah.out).2.2 aa aZ a0
                   cases bR
                   replace aZ := eq_true aZ; replace a0 := eq_true a0
                   refine start_ (n := 13) (S := fun w' => w'.cell? (aK.add (ab).toNat) = some (.int .i64 (rd ad ab)) ∧ w'.cell? (br.add (aa).toNat) = some (.int .i64 (rd ae aa))) (ds := []) #[ff, ff, ff, ff, ff, ff, ff, ff, ff, ff, ff, ff, ff] (by kernel_rfl) rfl rfl ⟨aE, aF⟩ (fun hHeld => ?_); refine with_tabW laws_FnSure.tab18 laws_FnSure.bits18 (fun HT_ HW_ => ?_)
                   generalize wr.drew = w73 at ai aj ah ag al HB aE aF hHeld ⊢
                   refine zu 0 (some 94) #[tt, ff, ff, ff, ff, ff, ff, ff, ff, ff, ff, ff, ff] (any_of HT_.out (by kernel_rfl)) ?_
                   refine zu 1 (some 95) #[tt, tt, ff, ff, ff, ff, ff, ff, ff, ff, ff, ff, ff] (any_of HT_.out (by kernel_rfl)) ?_
                   refine zu 2 (some 96) #[tt, tt, tt, ff, ff, ff, ff, ff, ff, ff, ff, ff, ff] (any_of HT_.out (by kernel_rfl)) ?_
                   refine zu 3 (some 97) #[tt, tt, tt, tt, ff, ff, ff, ff, ff, ff, ff, ff, ff] (any_of HT_.out (by kernel_rfl)) ?_
                   refine zu 4 (some 98) #[tt, tt, tt, tt, tt, ff, ff, ff, ff, ff, ff, ff, ff] (any_of HT_.out (by kernel_rfl)) ?_
                   refine zu 6 (some 100) #[tt, tt, tt, tt, tt, ff, tt, ff, ff, ff, ff, ff, ff] (any_of HT_.out (by kernel_rfl)) ?_
                   refine zu 7 (some 101) #[tt, tt, tt, tt, tt, ff, tt, tt, ff, ff, ff, ff, ff] (any_of HT_.out (by kernel_rfl)) ?_
                   refine zu 8 (some 102) #[tt, tt, tt, tt, tt, ff, tt, tt, tt, ff, ff, ff, ff] (any_of HT_.out (by kernel_rfl)) ?_
                   refine zt 5 (some 99) #[tt, tt, tt, tt, tt, tt, tt, tt, tt, ff, ff, ff, ff] (take_ofW HT_.out HW_.out (by kernel_rfl)) hHeld ?_
                   refine zt 9 (some 103) #[tt, tt, tt, tt, tt, tt, tt, tt, tt, tt, ff, ff, ff] (take_ofW HT_.out HW_.out (by kernel_rfl)) hHeld ?_
                   refine zu 10 (some 104) #[tt, tt, tt, tt, tt, tt, tt, tt, tt, tt, tt, ff, ff] (any_of HT_.out (by kernel_rfl)) ?_
                   refine zu 11 (some 105) #[tt, tt, tt, tt, tt, tt, tt, tt, tt, tt, tt, tt, ff] (any_of HT_.out (by kernel_rfl)) ?_
                   refine zu 12 (some 9) #[tt, tt, tt, tt, tt, tt, tt, tt, tt, tt, tt, tt, tt] (any_of HT_.out (by kernel_rfl)) ?_
                   refine done_ (done_of HT_.out (by kernel_rfl)) ?_
                   try go_wp2
                   have an := zK (Kd.R_drew ai.out)
                   have ao := zK (Kd.R_drew aj.out)
                   have ap := zK (Kd.R_drew ah.out)
                   have au := zK (Kd.R_drew ag.out)
                   have av := zK (Kd.R_drew al.out)
                   have aw := zK (zE HB.out)
                   clear ai aj ah ag al HB; have ai := an; have aj := ao; have ah := ap; have ag := au; have al := av; have HB := aw; clear an ao ap au av aw
                   refine start_ (n := 14) (S := fun w' => True) (ds := []) #[ff, ff, ff, ff, ff, ff, ff, ff, ff, ff, ff, ff, ff, ff] (by kernel_rfl) rfl rfl trivial (fun hHeld => ?_); refine with_tabW laws_FnSure.tab19 laws_FnSure.bits19 (fun HT_ HW_ => ?_)
                   generalize w73.drew = w75 at ai aj ah ag al HB hHeld ⊢
                   refine zu 0 (some 106) #[tt, ff, ff, ff, ff, ff, ff, ff, ff, ff, ff, ff, ff, ff] (any_of HT_.out (by kernel_rfl)) ?_
                   refine zu 1 (some 107) #[tt, tt, ff, ff, ff, ff, ff, ff, ff, ff, ff, ff, ff, ff] (any_of HT_.out (by kernel_rfl)) ?_
                   refine zu 2 (some 108) #[tt, tt, tt, ff, ff, ff, ff, ff, ff, ff, ff, ff, ff, ff] (any_of HT_.out (by kernel_rfl)) ?_
                   refine pure_ (i := 3) (N := some 109) (v := undef) (a' := ?_) #[tt, tt, tt, tt, ff, ff, ff, ff, ff, ff, ff, ff, ff, ff] rfl rfl (any_of HT_.out (by kernel_rfl)) (fun _ _ _ h => h) (Or.inr ⟨by rfl, rfl⟩) ?_ ?_
                   rotate_left
                   ·simp only [Act.put, zp, zq, zr, i64_w, i32_w]
                    rfl
                   refine pure_ (i := 4) (N := some 110) (v := undef) (a' := ?_) #[tt, tt, tt, tt, tt, ff, ff, ff, ff, ff, ff, ff, ff, ff] rfl rfl (any_of HT_.out (by kernel_rfl)) (fun _ _ _ h => h) (Or.inr ⟨by rfl, rfl⟩) ?_ ?_
                   rotate_left
                   ·simp only [Act.put, zp, zq, zr, i64_w, i32_w]
                    rfl
                   refine pure_ (i := 5) (N := some 111) (v := undef) (a' := ?_) #[tt, tt, tt, tt, tt, tt, ff, ff, ff, ff, ff, ff, ff, ff] rfl rfl (any_of HT_.out (by kernel_rfl)) (fun _ _ _ h => h) (Or.inr ⟨by rfl, rfl⟩) ?_ ?_
                   rotate_left
                   ·simp only [Act.put, zp, zq, zr, i64_w, i32_w]
                    rfl
                   refine pure_ (i := 6) (N := some 112) (v := undef) (a' := ?_) #[tt, tt, tt, tt, tt, tt, tt, ff, ff, ff, ff, ff, ff, ff] rfl rfl (any_of HT_.out (by kernel_rfl)) (fun _ _ _ h => h) (Or.inr ⟨by rfl, rfl⟩) ?_ ?_
                   rotate_left
                   ·simp only [Act.put, zp, zq, zr, i64_w, i32_w]
                    rfl
                   refine pure_ (i := 7) (N := some 113) (v := undef) (a' := ?_) #[tt, tt, tt, tt, tt, tt, tt, tt, ff, ff, ff, ff, ff, ff] rfl rfl (any_of HT_.out (by kernel_rfl)) (fun _ _ _ h => h) (Or.inr ⟨by rfl, rfl⟩) ?_ ?_
                   rotate_left
                   ·simp only [Act.put, zp, zq, zr, i64_w, i32_w]
                    rfl
                   refine pure_ (i := 8) (N := some 114) (v := undef) (a' := ?_) #[tt, tt, tt, tt, tt, tt, tt, tt, tt, ff, ff, ff, ff, ff] rfl rfl (any_of HT_.out (by kernel_rfl)) (fun _ _ _ h => h) (Or.inr ⟨by rfl, rfl⟩) ?_ ?_
                   rotate_left
                   ·simp only [Act.put, zp, zq, zr, i64_w, i32_w]
                    rfl
                   refine pure_ (i := 9) (N := some 115) (v := undef) (a' := ?_) #[tt, tt, tt, tt, tt, tt, tt, tt, tt, tt, ff, ff, ff, ff] rfl rfl (any_of HT_.out (by kernel_rfl)) (fun _ _ _ h => h) (Or.inr ⟨by rfl, rfl⟩) ?_ ?_
                   rotate_left
                   ·simp only [Act.put, zp, zq, zr, i64_w, i32_w]
                    rfl
                   refine pure_ (i := 10) (N := some 116) (v := undef) (a' := ?_) #[tt, tt, tt, tt, tt, tt, tt, tt, tt, tt, tt, ff, ff, ff] rfl rfl (any_of HT_.out (by kernel_rfl)) (fun _ _ _ h => h) (Or.inr ⟨by rfl, rfl⟩) ?_ ?_
                   rotate_left
                   ·simp only [Act.put, zp, zq, zr, i64_w, i32_w]
                    rfl
                   refine pure_ (i := 11) (N := some 117) (v := undef) (a' := ?_) #[tt, tt, tt, tt, tt, tt, tt, tt, tt, tt, tt, tt, ff, ff] rfl rfl (any_of HT_.out (by kernel_rfl)) (fun _ _ _ h => h) (Or.inr ⟨by rfl, rfl⟩) ?_ ?_
                   rotate_left
                   ·simp only [Act.put, zp, zq, zr, i64_w, i32_w]
                    rfl
                   refine pure_ (i := 12) (N := some 118) (v := undef) (a' := ?_) #[tt, tt, tt, tt, tt, tt, tt, tt, tt, tt, tt, tt, tt, ff] rfl rfl (any_of HT_.out (by kernel_rfl)) (fun _ _ _ h => h) (Or.inr ⟨by rfl, rfl⟩) ?_ ?_
                   rotate_left
                   ·simp only [Act.put, zp, zq, zr, i64_w, i32_w]
                    rfl
                   refine zu 13 (some 119) #[tt, tt, tt, tt, tt, tt, tt, tt, tt, tt, tt, tt, tt, tt] (any_of HT_.out (by kernel_rfl)) ?_
                   refine done_ (done_of HT_.out (by kernel_rfl)) ?_
                   try go_wp2
                   go_roundg k4
                   case measure => have := bd.out; have := be.out; have := aP.out; have := bv.out; omega
                   case rel => exact ⟨(((rd ad ab) == (rd ae aa))), (wrap64 (ab + 1)), (by first | rfl | (simp; done) | (simp [*]; done)), (by first | rfl | (simp; done) | (simp [*]; done)), H', ⟨by have := bd.out; have := be.out; have := aP.out; have := bv.out; omega⟩, ⟨zR ai⟩, ⟨zR aj⟩, ⟨zR ah⟩, ⟨zR ag⟩, ⟨zR al⟩, ⟨zb HB⟩⟩
                 ·rw [if_neg c62] at H
                  exact absurd H (by simp)
                ·rw [if_neg c61] at H
                 exact absurd H (by simp)
               ·rw [if_neg c60] at H
                exact absurd H (by simp)
             ·rw [if_neg b2] at H
              have cr : decide (ab < (ad.length : Int)) = false := decide_eq_false b2
              clear b2
              by_cases c76 : bn = true
              ·subst c76
               have H1 : (laws_FnSure.l0 k4 ak af ae ac (wrap64 (aa + 1))) = some r := by rw [if_pos rfl] at H; exact H
               clear H; have H := H1; clear H1; have H' := zK H; clear H
               obtain ⟨Ao77, co77, eo77⟩ := Kd.R_slice al.out
               subst eo77
               go_wp2
               go_roundg k4
               case measure => have := bd.out; have := be.out; have := aP.out; have := bv.out; omega
               case rel => exact ⟨(wrap64 (aa + 1)), (by first | rfl | (simp; done) | (simp [*]; done)), H', ⟨by have := bd.out; have := be.out; have := aP.out; have := bv.out; omega⟩, ⟨zR ai⟩, ⟨zR aj⟩, ⟨by (with_reducible repeat (first | apply Kd.R_alloc | apply Kd.R_drewN | apply Kd.R_drew)); exact Kd.R_mono ah.out (fun _ hk => hk.1)⟩, ⟨by (with_reducible repeat (first | apply Kd.R_alloc | apply Kd.R_drewN | apply Kd.R_drew)); exact Kd.R_mono ag.out (fun _ hk => hk.1)⟩, ⟨zb HB⟩⟩
              ·replace c76 := Bool.eq_false_iff.mpr c76
               subst c76
               have H1 : (some false) = some r := by rw [if_neg (show ¬ (false = true) by decide)] at H; exact H
               clear H; have H := H1; clear H1
               exact absurd (H.trans (congrArg some hrt.out)) (by simp)
       ·rw [if_neg bX] at H
        have ca : decide (aa < (af.length : Int)) = false := decide_eq_false bX
        clear bX; replace H := Option.bind_eq_some_iff.mp H
        obtain ⟨aV, cB, H⟩ := H
        replace H : (if (aV.length : Int) = 0 then ((impl_Choices.f k2 ak af (-1)).bind fun a9 => (some ((a9.length : Int) == 0))) else (some false)) = some r := H
        have A78 := zK cB; clear cB
        by_cases bB : (aV.length : Int) = 0
        ·rw [if_pos bB] at H
         have cC : ((aV.length : Int) == 0) = true := beq_iff_eq.mpr bB
         have cD : ((aV.length : Int) != 0) = false := bne_eq_false_iff_eq.mpr bB
         clear bB; replace H := Option.bind_eq_some_iff.mp H
         obtain ⟨a9, cE, H⟩ := H
         replace H : (some ((a9.length : Int) == 0)) = some r := H
         have A80 := zK cE; clear cE; obtain rfl := Option.some.inj H
         go_wp2_with (first | ((with_reducible refine gate_callee (f := 48) rfl ?_); refine goesL_ (some 126) rfl rfl Try.func48 (by kernel_rfl) rfl #[.slice bs ak.length bt, .slice aL af.length aM, .int .i64 (af.length : Int)] rfl (by (try simp only [List.map_toArray, List.map_cons, List.map_nil]); first | done | rfl | (simp only [List.length_drop, List.length_take]; rfl)) ?_; (with_reducible refine (impl_Choices.calls k2 _ _ ak _ _ af (af.length : Int) aV _ ?side1 ?side2 ?side3 ?side4 A78.out).mono ?_); (case side1 => repeat (first | exact (Kd.R_reads' ai.out).2.2 | (with_reducible refine Kd.C_alloc ?_ _) | (with_reducible refine Kd.C_drewN ?_ _) | (with_reducible refine Kd.C_drew ?_))); (case side2 => exact (Kd.R_reads' ai.out).2.1); (case side3 => repeat (first | exact (Kd.R_reads' aj.out).2.2 | (with_reducible refine Kd.C_alloc ?_ _) | (with_reducible refine Kd.C_drewN ?_ _) | (with_reducible refine Kd.C_drew ?_))); (case side4 => exact (Kd.R_reads' aj.out).2.1); rintro e w81 ⟨v998, rfl, ho0, hb⟩; refine ⟨_, rfl, ?_⟩; have an := zK (Kd.R_below (zR ai) hb); have ao := zK (Kd.R_below (zR aj) hb); have ap := zK (Kd.R_elder' (zR ah) (Kd.R_base ho0) hb); have au := zK (Kd.R_elder' (zR ag) (Kd.R_base ho0) hb); have av := zK (Kd.R_lower (Kd.R_new' (Kd.R_new' ho0 (Kd.R_lt (zR ah))) (Kd.R_lt (zR ag))) (below_size (zb HB))); have aw := zK (below_step (zb HB) hb); clear ai; clear aj; clear ah; clear ag; clear HB; have ai := an; have aj := ao; have ah := ap; have ag := au; have aW := av; have HB := aw; clear an ao ap au av aw; (try clear hb); (try clear ho0); obtain ⟨Ao82, co82, eo82⟩ := Kd.R_slice aW.out; subst eo82) | (go_at_call 48; (with_reducible refine (impl_Choices.calls k2 _ _ ak _ _ af (-1) a9 _ ?side1 ?side2 ?side3 ?side4 A80.out).mono ?_); (case side1 => repeat (first | exact (Kd.R_reads' ai.out).2.2 | (with_reducible refine Kd.C_alloc ?_ _) | (with_reducible refine Kd.C_drewN ?_ _) | (with_reducible refine Kd.C_drew ?_))); (case side2 => exact (Kd.R_reads' ai.out).2.1); (case side3 => repeat (first | exact (Kd.R_reads' aj.out).2.2 | (with_reducible refine Kd.C_alloc ?_ _) | (with_reducible refine Kd.C_drewN ?_ _) | (with_reducible refine Kd.C_drew ?_))); (case side4 => exact (Kd.R_reads' aj.out).2.1); rintro e w83 ⟨v1001, rfl, ho0, hb⟩; have an := zK (Kd.R_below (zR ai) hb); have ao := zK (Kd.R_below (zR aj) hb); have ap := zK (Kd.R_elder' (zR ah) (Kd.R_base ho0) hb); have au := zK (Kd.R_elder' (zR ag) (Kd.R_base ho0) hb); have av := zK (Kd.R_elder' (zR aW) (Kd.R_base ho0) hb); have aw := zK (Kd.R_lower (Kd.R_new' (Kd.R_new' (Kd.R_new' ho0 (Kd.R_lt (zR ah))) (Kd.R_lt (zR ag))) (Kd.R_lt (zR aW))) (below_size (zb HB))); have bA := zK (below_step (zb HB) hb); clear ai; clear aj; clear ah; clear ag; clear aW; clear HB; have ai := an; have aj := ao; have ah := ap; have ag := au; have aW := av; have bW := aw; have HB := bA; clear an ao ap au av aw bA; (try clear hb); (try clear ho0); obtain ⟨Ao84, co84, eo84⟩ := Kd.R_slice bW.out; subst eo84))
         go_ret
         exact ⟨by first | rfl | (simp [errW_none, errW_some] <;> rfl) | (simp [*, errW_none, errW_some] <;> rfl), by repeat (first | (with_reducible first | exact HB.out | apply zB | apply zC | apply zE) | exact HB.out)⟩
        ·rw [if_neg bB] at H
         have cC : ((aV.length : Int) == 0) = false := beq_eq_false_iff_ne.mpr bB
         have cD : ((aV.length : Int) != 0) = true := bne_iff_ne.mpr bB
         have c79b2 : ¬ (aV = []) := fun h_ => bB (by rw [h_]; rfl)
         exact absurd (H.trans (congrArg some hrt.out)) (by simp)
end Go.Proofs.Ytdmbfmfdijgdkaa.Px
