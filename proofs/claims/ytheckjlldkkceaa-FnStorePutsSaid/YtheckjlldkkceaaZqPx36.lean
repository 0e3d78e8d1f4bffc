import Derived.Test.YtheckjlldkkceaaZqPx0
import Derived.Test.YtheckjlldkkceaaZqPx3
import Derived.Test.YtheckjlldkkceaaZqPx11
import Derived.Test.YtheckjlldkkceaaZqPx12
import Derived.Test.YtheckjlldkkceaaZqPx15
import Derived.Test.YtheckjlldkkceaaZqPx17
import Derived.Test.YtheckjlldkkceaaZqPx23
import Derived.Test.YtheckjlldkkceaaZqPx25
import Derived.Test.YtheckjlldkkceaaZqPx26
import Derived.Test.YtheckjlldkkceaaZqPx35
namespace Go.Proofs.Ytheckjlldkkceaa.Px
open Go.RowKit Go.Proofs.YtheckjlldkkceaaW.PrintWords Go.Proofs.YtheckjlldkkceaaW.PrintLast Go.Proofs.YtheckjlldkkceaaW.PrintMore
attribute [local go_sem] max2_int min2_int max_two min_two max_three min_three max_four min_four   
set_option linter.unusedVariables false
set_option linter.unusedSimpArgs false
mutual
def laws_FnStorePuts.j0 : Nat → List Int → Int → Bool → Bool → Int → List (List (S30)) → Int → List (List (S30)) → Option (Bool)
 | 0, _, _, _, _, _, _, _, _ => none
 | k + 1, x0, x5, x8, x77, x738000, x738001, x745000, x745001 => if x77 = true then (some false) else ((spec_DrawLaneFor.f k x0).bind fun bt758 => ((impl_LaneFor.f k bt758.1 bt758.2.1 bt758.2.2.1 bt758.2.2.2).bind fun t765 => ((spec_LaneFor.f k bt758.1 bt758.2.1 bt758.2.2.1 bt758.2.2.2).bind fun t766 => (if t765 = t766 then (if x8 = true then (laws_FnStorePuts.l0 k x5 false 0 x738000 x738001 x745000 x745001) else (some true)) else (some false)))))
def laws_FnStorePuts.l0 : Nat → Int → Bool → Int → Int → List (List (S30)) → Int → List (List (S30)) → Option (Bool)
 | 0, _, _, _, _, _, _, _ => none
 | k + 1, x5, x15, x16, x738000, x738001, x745000, x745001 => if x16 < (x738001.length : Int) then (if 0 ≤ x16 then (if ((rd_L2 x738001 x16).length : Int) ≥ x738000 then (laws_FnStorePuts.l0 k x5 x15 (wrap64 (x16 + 1)) x738000 x738001 x745000 x745001) else (laws_FnStorePuts.l1 k x5 x15 x16 false 0 x738000 x738001 x745000 x745001)) else (none)) else ((impl_StoreOk.f k x745000 x745001).bind fun t771 => (if t771 = true then ((laws_kept.f k x745000 x745001).bind fun t772 => ((laws_kept.f k x738000 x738001).bind fun t773 => (if t772 = (wrap64 (t773 + 1)) then ((impl_Buried.f k x745000 x745001).bind fun t774 => ((impl_Buried.f k x738000 x738001).bind fun t775 => (some ((t774 == t775) == x15)))) else (some false)))) else (some false)))
def laws_FnStorePuts.l1 : Nat → Int → Bool → Int → Bool → Int → Int → List (List (S30)) → Int → List (List (S30)) → Option (Bool)
 | 0, _, _, _, _, _, _, _, _, _ => none
 | k + 1, x5, x15, x16, x17, x18, x738000, x738001, x745000, x745001 => if 0 ≤ x16 then (if x16 < (x738001.length : Int) then (if x18 < ((rd_L2 x738001 x16).length : Int) then (if x17 = true then (laws_FnStorePuts.l1 k x5 x15 x16 true (wrap64 (x18 + 1)) x738000 x738001 x745000 x745001) else (if 0 ≤ x18 then (laws_FnStorePuts.l1 k x5 x15 x16 (decide (((rd_T30 (rd_L2 x738001 x16) x18).f1) < x5)) (wrap64 (x18 + 1)) x738000 x738001 x745000 x745001) else (none))) else (if x15 = true then (laws_FnStorePuts.l0 k x5 true (wrap64 (x16 + 1)) x738000 x738001 x745000 x745001) else (laws_FnStorePuts.l0 k x5 (!x17) (wrap64 (x16 + 1)) x738000 x738001 x745000 x745001))) else (none)) else (none)
end
def laws_FnStorePuts.f (k : Nat) (l0 : List Int) : Option (Bool) := (laws_big.f l0).bind fun t730 => (if t730 = true then (some true) else ((spec_DrawPutBag.f k l0).bind fun bt731 => ((impl_PutBag.f k bt731.1 bt731.2.1 bt731.2.2.1 bt731.2.2.2).bind fun bt738 => ((spec_PutBag.f k bt731.1 bt731.2.1 bt731.2.2.1 bt731.2.2.2).bind fun bt745 => (if (bt738.2.2.2 != bt745.2.2.2) = true then (laws_FnStorePuts.j0 k l0 bt731.2.2.2 bt738.2.2.2 true bt731.1 bt731.2.1 bt738.1 bt738.2.1) else (if bt738.2.2.1 = bt745.2.2.1 then ((laws_sameStore.f k bt738.1 bt738.2.1 bt745.1 bt745.2.1).bind fun t752 => (if t752 = true then (if bt738.2.2.2 = true then ((impl_StoreOk.f k bt731.1 bt731.2.1).bind fun t753 => ((spec_StoreOk.f k bt731.1 bt731.2.1).bind fun t754 => (laws_FnStorePuts.j0 k l0 bt731.2.2.2 bt738.2.2.2 (t753 != t754) bt731.1 bt731.2.1 bt738.1 bt738.2.1))) else ((laws_sameStore.f k bt738.1 bt738.2.1 bt731.1 bt731.2.1).bind fun t755 => (if t755 = true then (if bt738.2.2.1 = (-1) then ((impl_StoreOk.f k bt731.1 bt731.2.1).bind fun t756 => ((spec_StoreOk.f k bt731.1 bt731.2.1).bind fun t757 => (laws_FnStorePuts.j0 k l0 bt731.2.2.2 bt738.2.2.2 (t756 != t757) bt731.1 bt731.2.1 bt738.1 bt738.2.1))) else (laws_FnStorePuts.j0 k l0 bt731.2.2.2 bt738.2.2.2 true bt731.1 bt731.2.1 bt738.1 bt738.2.1)) else (laws_FnStorePuts.j0 k l0 bt731.2.2.2 bt738.2.2.2 true bt731.1 bt731.2.1 bt738.1 bt738.2.1)))) else (laws_FnStorePuts.j0 k l0 bt731.2.2.2 bt738.2.2.2 true bt731.1 bt731.2.1 bt738.1 bt738.2.1))) else (laws_FnStorePuts.j0 k l0 bt731.2.2.2 bt738.2.2.2 true bt731.1 bt731.2.1 bt738.1 bt738.2.1)))))))
def laws_FnStorePuts.T6 : Bool × List (List Nat × List Nat) := (true, [([], []), ([], []), ([0, 1], [0, 1]), ([2], [2]), ([3], [3]), ([3], [3]), ([4, 5, 3], [3, 4, 5]), ([3, 6], [3, 6]), ([7, 3], [7]), ([8], [8]), ([8], [8]), ([9, 10, 8, 8], [8, 9, 10]), ([11, 8], [8, 11]), ([8, 12], [8, 12]), ([13, 11], [13]), ([14], [14]), ([15, 14], [14, 15]), ([16, 14, 14], [14, 16]), ([17], [17]), ([17], [17]), ([18, 19, 17, 17], [17, 18, 19]), ([20, 17], [17, 20]), ([21, 20, 17], [17, 21]), ([22], [22]), ([23, 22], [22, 23]), ([22, 24, 17], [17, 22, 24]), ([17, 25, 14], [14, 17, 25]), ([14, 26], [14, 26]), ([27, 22], [27]), ([28], [28]), ([29, 28, 28], [28, 29]), ([28], [28]), ([31, 30, 28], [28, 31]), ([30, 32, 28], [28, 30, 32]), ([28, 33], [28, 33])])
def laws_FnStorePuts.B6 : List Nat := [0, 0, 3, 7, 15, 15, 63, 127, 255, 511, 511, 2047, 4095, 8191, 16383, 32767, 65535, 131071, 262143, 262143, 1048575, 2097151, 4194303, 8388607, 16777215, 33554431, 67108863, 134217727, 268435455, 536870911, 1073741823, 536870911, 4294967295, 8589934591, 17179869183]
theorem laws_FnStorePuts.tab6 : rtab .any (opsOf Try.f9 6) = laws_FnStorePuts.T6 := by kernel_rfl
theorem laws_FnStorePuts.bits6 : waitsOk laws_FnStorePuts.T6.2 laws_FnStorePuts.B6 = true := by kernel_rfl
def laws_FnStorePuts.T9 : Bool × List (List Nat × List Nat) := (true, [([], []), ([], []), ([], []), ([0, 1, 2], [0, 1, 2]), ([], []), ([], []), ([], []), ([4, 5, 6, 3], [4, 5, 6]), ([3, 7], [3, 7])])
def laws_FnStorePuts.B9 : List Nat := [0, 0, 0, 7, 0, 0, 0, 127, 255]
theorem laws_FnStorePuts.tab9 : rtab .any (opsOf Try.f9 9) = laws_FnStorePuts.T9 := by kernel_rfl
theorem laws_FnStorePuts.bits9 : waitsOk laws_FnStorePuts.T9.2 laws_FnStorePuts.B9 = true := by kernel_rfl
def laws_FnStorePuts.T17 : Bool × List (List Nat × List Nat) := (true, [([], []), ([0], [0]), ([], []), ([1, 2], [1, 2]), ([3], [3]), ([4], [4]), ([], []), ([6], [6]), ([5, 7], [5, 7])])
def laws_FnStorePuts.B17 : List Nat := [0, 1, 0, 7, 15, 31, 0, 64, 255]
theorem laws_FnStorePuts.tab17 : rtab .any (opsOf Try.f9 17) = laws_FnStorePuts.T17 := by kernel_rfl
theorem laws_FnStorePuts.bits17 : waitsOk laws_FnStorePuts.T17.2 laws_FnStorePuts.B17 = true := by kernel_rfl
def laws_FnStorePuts.T24 : Bool × List (List Nat × List Nat) := (true, [([], []), ([0], [0]), ([1, 1], [1]), ([2], [2]), ([3, 2, 2], [2, 3]), ([2], [2]), ([5, 4, 2], [2, 5]), ([6, 2], [2, 6]), ([4, 7, 2], [2, 4, 7]), ([2, 8], [2, 8]), ([9, 6], [9]), ([10], [10]), ([11, 10, 10], [10, 11]), ([10], [10]), ([13, 12, 10], [10, 13]), ([12, 14, 10], [10, 12, 14]), ([10], [10]), ([15, 16, 10], [10, 15, 16]), ([10, 17], [10, 17]), ([18, 14, 0, 1, 2, 3, 4, 5, 6, 7, 8, 9, 10, 11, 12, 13, 14, 15, 16, 17, 18], [18])])
def laws_FnStorePuts.B24 : List Nat := [0, 1, 3, 7, 15, 7, 63, 127, 255, 511, 1023, 2047, 4095, 2047, 16383, 32767, 2047, 131071, 262143, 524287]
theorem laws_FnStorePuts.tab24 : rtab .any (opsOf Try.f9 24) = laws_FnStorePuts.T24 := by kernel_rfl
theorem laws_FnStorePuts.bits24 : waitsOk laws_FnStorePuts.T24.2 laws_FnStorePuts.B24 = true := by kernel_rfl
set_option maxHeartbeats 8000000 in
set_option maxRecDepth 100000 in
theorem laws_FnStorePuts.calls (k : Nat) (A0 : Option Addr) (c0 : Nat) (l0 : List Int) (r : Bool) (w : World) (hr0 : Kd.C (Kd.int .u8) w A0 l0.length l0) (hc0 : l0.length ≤ c0) (hrt : Aside0 (r = true)) (h : laws_FnStorePuts.f k l0 = some r) :
  Calls Try.prog 9 #[.slice A0 l0.length c0] w fun e w' => e = .returned (.bool r) ∧ Below w.heap.size w w' := by
 have hu24 := Try.underlying24; have dv := zK hr0; have dw := zK hc0; clear hr0 hc0
 have HB := zK (Below.refl w.heap.size w)
 have H : ((laws_big.f l0).bind fun cH => (if cH = true then (some true) else ((spec_DrawPutBag.f k l0).bind fun bt731 => ((impl_PutBag.f k bt731.1 bt731.2.1 bt731.2.2.1 bt731.2.2.2).bind fun bt738 => ((spec_PutBag.f k bt731.1 bt731.2.1 bt731.2.2.1 bt731.2.2.2).bind fun bt745 => (if (bt738.2.2.2 != bt745.2.2.2) = true then (laws_FnStorePuts.j0 k l0 bt731.2.2.2 bt738.2.2.2 true bt731.1 bt731.2.1 bt738.1 bt738.2.1) else (if bt738.2.2.1 = bt745.2.2.1 then ((laws_sameStore.f k bt738.1 bt738.2.1 bt745.1 bt745.2.1).bind fun bx => (if bx = true then (if bt738.2.2.2 = true then ((impl_StoreOk.f k bt731.1 bt731.2.1).bind fun bk => ((spec_StoreOk.f k bt731.1 bt731.2.1).bind fun bi => (laws_FnStorePuts.j0 k l0 bt731.2.2.2 bt738.2.2.2 (bk != bi) bt731.1 bt731.2.1 bt738.1 bt738.2.1))) else ((laws_sameStore.f k bt738.1 bt738.2.1 bt731.1 bt731.2.1).bind fun bo => (if bo = true then (if bt738.2.2.1 = (-1) then ((impl_StoreOk.f k bt731.1 bt731.2.1).bind fun bh => ((spec_StoreOk.f k bt731.1 bt731.2.1).bind fun bd => (laws_FnStorePuts.j0 k l0 bt731.2.2.2 bt738.2.2.2 (bh != bd) bt731.1 bt731.2.1 bt738.1 bt738.2.1))) else (laws_FnStorePuts.j0 k l0 bt731.2.2.2 bt738.2.2.2 true bt731.1 bt731.2.1 bt738.1 bt738.2.1)) else (laws_FnStorePuts.j0 k l0 bt731.2.2.2 bt738.2.2.2 true bt731.1 bt731.2.1 bt738.1 bt738.2.1)))) else (laws_FnStorePuts.j0 k l0 bt731.2.2.2 bt738.2.2.2 true bt731.1 bt731.2.1 bt738.1 bt738.2.1))) else (laws_FnStorePuts.j0 k l0 bt731.2.2.2 bt738.2.2.2 true bt731.1 bt731.2.1 bt738.1 bt738.2.1)))))))) = some r := h
 clear h; replace H := Option.bind_eq_some_iff.mp H
 obtain ⟨cH, A20, H⟩ := H
 replace H : (if cH = true then (some true) else ((spec_DrawPutBag.f k l0).bind fun bt731 => ((impl_PutBag.f k bt731.1 bt731.2.1 bt731.2.2.1 bt731.2.2.2).bind fun bt738 => ((spec_PutBag.f k bt731.1 bt731.2.1 bt731.2.2.1 bt731.2.2.2).bind fun bt745 => (if (bt738.2.2.2 != bt745.2.2.2) = true then (laws_FnStorePuts.j0 k l0 bt731.2.2.2 bt738.2.2.2 true bt731.1 bt731.2.1 bt738.1 bt738.2.1) else (if bt738.2.2.1 = bt745.2.2.1 then ((laws_sameStore.f k bt738.1 bt738.2.1 bt745.1 bt745.2.1).bind fun bx => (if bx = true then (if bt738.2.2.2 = true then ((impl_StoreOk.f k bt731.1 bt731.2.1).bind fun bk => ((spec_StoreOk.f k bt731.1 bt731.2.1).bind fun bi => (laws_FnStorePuts.j0 k l0 bt731.2.2.2 bt738.2.2.2 (bk != bi) bt731.1 bt731.2.1 bt738.1 bt738.2.1))) else ((laws_sameStore.f k bt738.1 bt738.2.1 bt731.1 bt731.2.1).bind fun bo => (if bo = true then (if bt738.2.2.1 = (-1) then ((impl_StoreOk.f k bt731.1 bt731.2.1).bind fun bh => ((spec_StoreOk.f k bt731.1 bt731.2.1).bind fun bd => (laws_FnStorePuts.j0 k l0 bt731.2.2.2 bt738.2.2.2 (bh != bd) bt731.1 bt731.2.1 bt738.1 bt738.2.1))) else (laws_FnStorePuts.j0 k l0 bt731.2.2.2 bt738.2.2.2 true bt731.1 bt731.2.1 bt738.1 bt738.2.1)) else (laws_FnStorePuts.j0 k l0 bt731.2.2.2 bt738.2.2.2 true bt731.1 bt731.2.1 bt738.1 bt738.2.1)))) else (laws_FnStorePuts.j0 k l0 bt731.2.2.2 bt738.2.2.2 true bt731.1 bt731.2.1 bt738.1 bt738.2.1))) else (laws_FnStorePuts.j0 k l0 bt731.2.2.2 bt738.2.2.2 true bt731.1 bt731.2.1 bt738.1 bt738.2.1))))))) = some r := H
 have A2 := zK A20; clear A20
 by_cases c3 : cH = true
 ·subst c3
  have H1 : (some true) = some r := by rw [if_pos rfl] at H; exact H
  clear H; have H := H1; clear H1; obtain rfl := Option.some.inj H
  go_enter Try.func9, Try.ntmps9
  go_wp2_with (first | ((with_reducible refine gate_callee (f := 29) rfl ?_); refine goesL_ (some 20) rfl rfl Try.func29 (by kernel_rfl) rfl #[.slice A0 l0.length c0] rfl (by (try simp only [List.map_toArray, List.map_cons, List.map_nil]); first | done | rfl | (simp only [List.length_drop, List.length_take]; rfl)) ?_; (with_reducible refine (laws_big.calls _ _ l0 true _ ?side1 ?side2 A2.out).mono ?_); (case side1 => repeat (first | exact dv.out | (with_reducible refine Kd.C_alloc ?_ _) | (with_reducible refine Kd.C_drewN ?_ _) | (with_reducible refine Kd.C_drew ?_))); (case side2 => exact dw.out); rintro e w' ⟨rfl, ⟨nd, rfl⟩⟩; refine ⟨_, rfl, ?_⟩))
  go_ret
  exact ⟨by first | rfl | (simp [errW_none, errW_some] <;> rfl) | (simp [*, errW_none, errW_some] <;> rfl), by repeat (first | (with_reducible first | exact HB.out | apply zB | apply zC | apply zE) | exact HB.out)⟩
 ·replace c3 := Bool.eq_false_iff.mpr c3
  subst c3
  have H1 : ((spec_DrawPutBag.f k l0).bind fun bt731 => ((impl_PutBag.f k bt731.1 bt731.2.1 bt731.2.2.1 bt731.2.2.2).bind fun bt738 => ((spec_PutBag.f k bt731.1 bt731.2.1 bt731.2.2.1 bt731.2.2.2).bind fun bt745 => (if (bt738.2.2.2 != bt745.2.2.2) = true then (laws_FnStorePuts.j0 k l0 bt731.2.2.2 bt738.2.2.2 true bt731.1 bt731.2.1 bt738.1 bt738.2.1) else (if bt738.2.2.1 = bt745.2.2.1 then ((laws_sameStore.f k bt738.1 bt738.2.1 bt745.1 bt745.2.1).bind fun bx => (if bx = true then (if bt738.2.2.2 = true then ((impl_StoreOk.f k bt731.1 bt731.2.1).bind fun bk => ((spec_StoreOk.f k bt731.1 bt731.2.1).bind fun bi => (laws_FnStorePuts.j0 k l0 bt731.2.2.2 bt738.2.2.2 (bk != bi) bt731.1 bt731.2.1 bt738.1 bt738.2.1))) else ((laws_sameStore.f k bt738.1 bt738.2.1 bt731.1 bt731.2.1).bind fun bo => (if bo = true then (if bt738.2.2.1 = (-1) then ((impl_StoreOk.f k bt731.1 bt731.2.1).bind fun bh => ((spec_StoreOk.f k bt731.1 bt731.2.1).bind fun bd => (laws_FnStorePuts.j0 k l0 bt731.2.2.2 bt738.2.2.2 (bh != bd) bt731.1 bt731.2.1 bt738.1 bt738.2.1))) else (laws_FnStorePuts.j0 k l0 bt731.2.2.2 bt738.2.2.2 true bt731.1 bt731.2.1 bt738.1 bt738.2.1)) else (laws_FnStorePuts.j0 k l0 bt731.2.2.2 bt738.2.2.2 true bt731.1 bt731.2.1 bt738.1 bt738.2.1)))) else (laws_FnStorePuts.j0 k l0 bt731.2.2.2 bt738.2.2.2 true bt731.1 bt731.2.1 bt738.1 bt738.2.1))) else (laws_FnStorePuts.j0 k l0 bt731.2.2.2 bt738.2.2.2 true bt731.1 bt731.2.1 bt738.1 bt738.2.1)))))) = some r := by rw [if_neg (show ¬ (false = true) by decide)] at H; exact H
  clear H; have H := H1; clear H1; replace H := Option.bind_eq_some_iff.mp H
  obtain ⟨⟨ah, af, b1, aG⟩, A40, H⟩ := H
  replace H : ((impl_PutBag.f k ah af b1 aG).bind fun bt738 => ((spec_PutBag.f k ah af b1 aG).bind fun bt745 => (if (bt738.2.2.2 != bt745.2.2.2) = true then (laws_FnStorePuts.j0 k l0 aG bt738.2.2.2 true ah af bt738.1 bt738.2.1) else (if bt738.2.2.1 = bt745.2.2.1 then ((laws_sameStore.f k bt738.1 bt738.2.1 bt745.1 bt745.2.1).bind fun bx => (if bx = true then (if bt738.2.2.2 = true then ((impl_StoreOk.f k ah af).bind fun bk => ((spec_StoreOk.f k ah af).bind fun bi => (laws_FnStorePuts.j0 k l0 aG bt738.2.2.2 (bk != bi) ah af bt738.1 bt738.2.1))) else ((laws_sameStore.f k bt738.1 bt738.2.1 ah af).bind fun bo => (if bo = true then (if bt738.2.2.1 = (-1) then ((impl_StoreOk.f k ah af).bind fun bh => ((spec_StoreOk.f k ah af).bind fun bd => (laws_FnStorePuts.j0 k l0 aG bt738.2.2.2 (bh != bd) ah af bt738.1 bt738.2.1))) else (laws_FnStorePuts.j0 k l0 aG bt738.2.2.2 true ah af bt738.1 bt738.2.1)) else (laws_FnStorePuts.j0 k l0 aG bt738.2.2.2 true ah af bt738.1 bt738.2.1)))) else (laws_FnStorePuts.j0 k l0 aG bt738.2.2.2 true ah af bt738.1 bt738.2.1))) else (laws_FnStorePuts.j0 k l0 aG bt738.2.2.2 true ah af bt738.1 bt738.2.1))))) = some r := H
  have A4 := zK A40; clear A40; replace H := Option.bind_eq_some_iff.mp H
  obtain ⟨⟨ao, ai, bp, aU⟩, dx, H⟩ := H
  replace H : ((spec_PutBag.f k ah af b1 aG).bind fun bt745 => (if (aU != bt745.2.2.2) = true then (laws_FnStorePuts.j0 k l0 aG aU true ah af ao ai) else (if bp = bt745.2.2.1 then ((laws_sameStore.f k ao ai bt745.1 bt745.2.1).bind fun bx => (if bx = true then (if aU = true then ((impl_StoreOk.f k ah af).bind fun bk => ((spec_StoreOk.f k ah af).bind fun bi => (laws_FnStorePuts.j0 k l0 aG aU (bk != bi) ah af ao ai))) else ((laws_sameStore.f k ao ai ah af).bind fun bo => (if bo = true then (if bp = (-1) then ((impl_StoreOk.f k ah af).bind fun bh => ((spec_StoreOk.f k ah af).bind fun bd => (laws_FnStorePuts.j0 k l0 aG aU (bh != bd) ah af ao ai))) else (laws_FnStorePuts.j0 k l0 aG aU true ah af ao ai)) else (laws_FnStorePuts.j0 k l0 aG aU true ah af ao ai)))) else (laws_FnStorePuts.j0 k l0 aG aU true ah af ao ai))) else (laws_FnStorePuts.j0 k l0 aG aU true ah af ao ai)))) = some r := H
  have A5 := zK dx; clear dx; replace H := Option.bind_eq_some_iff.mp H
  obtain ⟨⟨aI, au, b6, bP⟩, A60, H⟩ := H
  replace H : (if (aU != bP) = true then (laws_FnStorePuts.j0 k l0 aG aU true ah af ao ai) else (if bp = b6 then ((laws_sameStore.f k ao ai aI au).bind fun bx => (if bx = true then (if aU = true then ((impl_StoreOk.f k ah af).bind fun bk => ((spec_StoreOk.f k ah af).bind fun bi => (laws_FnStorePuts.j0 k l0 aG aU (bk != bi) ah af ao ai))) else ((laws_sameStore.f k ao ai ah af).bind fun bo => (if bo = true then (if bp = (-1) then ((impl_StoreOk.f k ah af).bind fun bh => ((spec_StoreOk.f k ah af).bind fun bd => (laws_FnStorePuts.j0 k l0 aG aU (bh != bd) ah af ao ai))) else (laws_FnStorePuts.j0 k l0 aG aU true ah af ao ai)) else (laws_FnStorePuts.j0 k l0 aG aU true ah af ao ai)))) else (laws_FnStorePuts.j0 k l0 aG aU true ah af ao ai))) else (laws_FnStorePuts.j0 k l0 aG aU true ah af ao ai))) = some r := H
  have A6 := zK A60; clear A60; have HC7 := zK H; clear H
  go_enter Try.func9, Try.ntmps9
  go_upto_region 6 with (first | ((with_reducible refine gate_callee (f := 29) rfl ?_); refine goesL_ (some 20) rfl rfl Try.func29 (by kernel_rfl) rfl #[.slice A0 l0.length c0] rfl (by (try simp only [List.map_toArray, List.map_cons, List.map_nil]); first | done | rfl | (simp only [List.length_drop, List.length_take]; rfl)) ?_; (with_reducible refine (laws_big.calls _ _ l0 false _ ?side1 ?side2 A2.out).mono ?_); (case side1 => repeat (first | exact dv.out | (with_reducible refine Kd.C_alloc ?_ _) | (with_reducible refine Kd.C_drewN ?_ _) | (with_reducible refine Kd.C_drew ?_))); (case side2 => exact dw.out); rintro e w' ⟨rfl, ⟨nd, rfl⟩⟩; refine ⟨_, rfl, ?_⟩) | ((with_reducible refine gate_callee (f := 30) rfl ?_); refine goesL_ (some 23) rfl rfl Try.func30 (by kernel_rfl) rfl #[.slice A0 l0.length c0] rfl (by (try simp only [List.map_toArray, List.map_cons, List.map_nil]); first | done | rfl | (simp only [List.length_drop, List.length_take]; rfl)) ?_; (with_reducible refine (spec_DrawPutBag.calls k _ _ l0 ah af b1 aG _ ?side1 ?side2 A4.out).mono ?_); (case side1 => repeat (first | exact dv.out | (with_reducible refine Kd.C_alloc ?_ _) | (with_reducible refine Kd.C_drewN ?_ _) | (with_reducible refine Kd.C_drew ?_))); (case side2 => exact dw.out); rintro e w8 ⟨v733, rfl, ho0, hb⟩; refine ⟨_, rfl, ?_⟩; have aM := zK (Kd.S_lower ho0 (below_size (zb HB))); have aN := zK (below_step (zb HB) hb); clear HB; have aq := aM; have HB := aN; clear aM aN; (try clear hb); (try clear hk); (try clear ho0)) | ((with_reducible refine gate_dst (N := 3) rfl ?_); refine box_event ?hg (N := 3) ?hd (cs := #[.int .i64 0, .slice none 0 0]) (t := 24) ?hr ?_; (case hd => rfl); (case hg => rfl); (case hr => first | (go_simp; done) | (go_simp; rfl)); intro am hg w9 hbox hb; have aM := zK (Kd.S_below (zT aq) hb); have aN := zK (below_step (zb HB) hb); have aO := zK (hbox); have aP := zK ((by rw [hg]; exact (below_size (zb HB)) : w.heap.size ≤ am)); have aQ := zK ((by rw [hg]; exact (below_size (zb HB)) : w.heap.size ≤ am)); clear aq; clear HB; have aq := aM; have HB := aN; have ab := aO; have GW737 := aP; have aA := aQ; clear aM aN aO aP aQ; clear hb hbox hg; have hcz10_0 : w9.cell? ⟨am, 0, none⟩ = some (.int .i64 0) := (blk_cell ab.out 0).trans rfl; have hcz10_1 : w9.cell? ⟨am, 1, none⟩ = some (.slice none 0 0) := (blk_cell ab.out 1).trans rfl; have hfz10_0 := blk_frozen ab.out 0; have hfz10_1 := blk_frozen ab.out 1; obtain ⟨az, av, eo11⟩ := Kd.S_slice aq.out; subst eo11) | ((with_reducible refine gate_callee (f := 31) rfl ?_); refine goesL_ (some 31) rfl rfl Try.func31 (by kernel_rfl) rfl #[.agg #[.int .i64 ah, .slice az af.length av], .int .i64 b1, .int .i64 aG] rfl (by (try simp only [List.map_toArray, List.map_cons, List.map_nil]); first | done | rfl | (simp only [List.length_drop, List.length_take]; rfl)) ?_; (with_reducible refine (impl_PutBag.calls k ah _ _ af b1 aG ao ai bp aU _ ?side1 ?side2 A5.out).mono ?_); (case side1 => refine (Kd.S_reads' (e := 28) (base := w.heap.size) (ok := fun k_ => True) (n := af.length) (c := av) ?_).2.2; exact (by (with_reducible repeat (first | apply Kd.S_alloc | apply Kd.S_drewN | apply Kd.S_drew)); exact (Kd.S_mono (Kd.S_far (p := ⟨am, 1, none⟩) (Kd.S_far (p := ⟨am, 0, none⟩) (Kd.S_types aq.out ab.out (by decide)) (fun _ hk => hk.2) (.int .i64 ah)) (fun _ hk => hk.2) (.slice az af.length av)) (fun _ h_ => h_.1)))); (case side2 => exact (Kd.S_reads' aq.out).2.1); rintro e w12 ⟨v740, rfl, ho0, hb⟩; refine ⟨_, rfl, ?_⟩; have aM := zK (Kd.S_elder' (by (with_reducible repeat (first | apply Kd.S_alloc | apply Kd.S_drewN | apply Kd.S_drew)); exact (Kd.S_mono (Kd.S_far (p := ⟨am, 1, none⟩) (Kd.S_far (p := ⟨am, 0, none⟩) (Kd.S_types aq.out ab.out (by decide)) (fun _ hk => hk.2) (.int .i64 ah)) (fun _ hk => hk.2) (.slice az af.length av)) (fun _ h_ => h_.1))) (Kd.S_base ho0) hb); have aN := zK (Kd.S_lower (Kd.S_new' ho0 (Kd.S_lt (by (with_reducible repeat (first | apply Kd.S_alloc | apply Kd.S_drewN | apply Kd.S_drew)); exact (Kd.S_mono (Kd.S_far (p := ⟨am, 1, none⟩) (Kd.S_far (p := ⟨am, 0, none⟩) (Kd.S_types aq.out ab.out (by decide)) (fun _ hk => hk.2) (.int .i64 ah)) (fun _ hk => hk.2) (.slice az af.length av)) (fun _ h_ => h_.1))))) (below_size (zb HB))); have aO := zK (blk_below (g := am) (o := .cells #[.int .i64 ah, .slice az af.length av] 24 (0, 0)) (by (with_reducible repeat (first | refine zN ?_ _ | refine zD ?_ | refine zA ?_ _)); refine blk_put (cs := #[.int .i64 ah, .slice none 0 0]) ?_ 1 _ rfl; (with_reducible repeat (first | refine zN ?_ _ | refine zD ?_ | refine zA ?_ _)); refine blk_put (cs := #[.int .i64 0, .slice none 0 0]) ?_ 0 _ rfl; (with_reducible repeat (first | refine zN ?_ _ | refine zD ?_ | refine zA ?_ _)); exact ab.out) hb); have aP := zK (below_step (zb HB) hb); clear aq; clear ab; clear HB; have aq := aM; have ay := aN; have ab := aO; have HB := aP; clear aM aN aO aP; (try clear hb); (try clear hk); (try clear ho0)) | ((with_reducible refine gate_dst (N := 6) rfl ?_); refine box_event ?hg (N := 6) ?hd (cs := #[.int .i64 0, .slice none 0 0]) (t := 24) ?hr ?_; (case hd => rfl); (case hg => rfl); (case hr => first | (go_simp; done) | (go_simp; rfl)); intro ar hg w13 hbox hb; have aM := zK (Kd.S_below (zT aq) hb); have aN := zK (Kd.S_below (zT ay) hb); have aO := zK (blk_below (g := am) (o := .cells #[.int .i64 ah, .slice az af.length av] 24 (0, 0)) (zk ab) hb); have aP := zK (below_step (zb HB) hb); have aQ := zK (hbox); have aR := zK ((by rw [hg]; exact (below_size (zb HB)) : w.heap.size ≤ ar)); have aT := zK ((by rw [hg]; exact (below_size (zb HB)) : w.heap.size ≤ ar)); have a3 := zK ((by rw [hg]; exact Nat.ne_of_lt (blk_lt (g := am) (o := .cells #[.int .i64 ah, .slice az af.length av] 24 (0, 0)) (zk ab)) : am ≠ ar)); have a7 := zK ((by rw [hg]; exact Nat.ne_of_gt (blk_lt (g := am) (o := .cells #[.int .i64 ah, .slice az af.length av] 24 (0, 0)) (zk ab)) : ar ≠ am)); clear aq; clear ay; clear ab; clear HB; have aq := aM; have ay := aN; have ab := aO; have HB := aP; have ae := aQ; have GW744 := aR; have aE := aT; have aZ := a3; have a5 := a7; clear aM aN aO aP aQ aR aT a3 a7; clear hb hbox hg; have hnb14 := a5.out; have hnc14 := aZ.out; have hcz15_0 : w13.cell? ⟨ar, 0, none⟩ = some (.int .i64 0) := (blk_cell ae.out 0).trans rfl; have hcz15_1 : w13.cell? ⟨ar, 1, none⟩ = some (.slice none 0 0) := (blk_cell ae.out 1).trans rfl; have hfz15_0 := blk_frozen ae.out 0; have hfz15_1 := blk_frozen ae.out 1; obtain ⟨aC, aD, eo16⟩ := Kd.S_slice ay.out; subst eo16; have hcz17_0 : w13.cell? ⟨am, 0, none⟩ = some (.int .i64 ah) := (blk_cell ab.out 0).trans rfl; have hcz17_1 : w13.cell? ⟨am, 1, none⟩ = some (.slice az af.length av) := (blk_cell ab.out 1).trans rfl; have hfz17_0 := blk_frozen ab.out 0; have hfz17_1 := blk_frozen ab.out 1) | ((with_reducible refine gate_callee (f := 32) rfl ?_); refine goesL_ (some 39) rfl rfl Try.func32 (by kernel_rfl) rfl #[.agg #[.int .i64 ah, .slice az af.length av], .int .i64 b1, .int .i64 aG] rfl (by (try simp only [List.map_toArray, List.map_cons, List.map_nil]); first | done | rfl | (simp only [List.length_drop, List.length_take]; rfl)) ?_; (with_reducible refine (spec_PutBag.calls k ah _ _ af b1 aG aI au b6 bP _ ?side1 ?side2 A6.out).mono ?_); (case side1 => refine (Kd.S_reads' (e := 28) (base := w.heap.size) (ok := fun k_ => (True ∧ some k_ ≠ (.slice aC ai.length aD : Value).ownBlock)) (n := af.length) (c := av) ?_).2.2; exact (by (with_reducible repeat (first | apply Kd.S_alloc | apply Kd.S_drewN | apply Kd.S_drew)); exact (Kd.S_mono (Kd.S_far (p := ⟨ar, 1, none⟩) (Kd.S_far (p := ⟨ar, 0, none⟩) (Kd.S_types aq.out ae.out (by decide)) (fun _ hk => hk.2) (.int .i64 ao)) (fun _ hk => hk.2) (.slice aC ai.length aD)) (fun _ h_ => h_.1)))); (case side2 => exact (Kd.S_reads' aq.out).2.1); rintro e w18 ⟨v747, rfl, ho0, hb⟩; refine ⟨_, rfl, ?_⟩; have aM := zK (Kd.S_elder' (by (with_reducible repeat (first | apply Kd.S_alloc | apply Kd.S_drewN | apply Kd.S_drew)); exact (Kd.S_mono (Kd.S_far (p := ⟨ar, 1, none⟩) (Kd.S_far (p := ⟨ar, 0, none⟩) (Kd.S_types aq.out ae.out (by decide)) (fun _ hk => hk.2) (.int .i64 ao)) (fun _ hk => hk.2) (.slice aC ai.length aD)) (fun _ h_ => h_.1))) (Kd.S_base ho0) hb); have aN := zK (Kd.S_elder' (by (with_reducible repeat (first | apply Kd.S_alloc | apply Kd.S_drewN | apply Kd.S_drew)); exact (Kd.S_mono (Kd.S_far (p := ⟨ar, 1, none⟩) (Kd.S_far (p := ⟨ar, 0, none⟩) (Kd.S_types ay.out ae.out (by decide)) (fun _ hk => hk.2) (.int .i64 ao)) (fun _ hk => hk.2) (.slice aC ai.length aD)) (fun _ h_ => h_.1))) (Kd.S_base ho0) hb); have aO := zK (Kd.S_lower (Kd.S_new' (Kd.S_new' ho0 (Kd.S_lt (by (with_reducible repeat (first | apply Kd.S_alloc | apply Kd.S_drewN | apply Kd.S_drew)); exact (Kd.S_mono (Kd.S_far (p := ⟨ar, 1, none⟩) (Kd.S_far (p := ⟨ar, 0, none⟩) (Kd.S_types aq.out ae.out (by decide)) (fun _ hk => hk.2) (.int .i64 ao)) (fun _ hk => hk.2) (.slice aC ai.length aD)) (fun _ h_ => h_.1))))) (Kd.S_lt (by (with_reducible repeat (first | apply Kd.S_alloc | apply Kd.S_drewN | apply Kd.S_drew)); exact (Kd.S_mono (Kd.S_far (p := ⟨ar, 1, none⟩) (Kd.S_far (p := ⟨ar, 0, none⟩) (Kd.S_types ay.out ae.out (by decide)) (fun _ hk => hk.2) (.int .i64 ao)) (fun _ hk => hk.2) (.slice aC ai.length aD)) (fun _ h_ => h_.1))))) (below_size (zb HB))); have aP := zK (blk_below (g := am) (o := .cells #[.int .i64 ah, .slice az af.length av] 24 (0, 0)) (by (with_reducible repeat (first | refine zN ?_ _ | refine zD ?_ | refine zA ?_ _)); refine blk_far ?_ aZ.out _; (with_reducible repeat (first | refine zN ?_ _ | refine zD ?_ | refine zA ?_ _)); refine blk_far ?_ aZ.out _; (with_reducible repeat (first | refine zN ?_ _ | refine zD ?_ | refine zA ?_ _)); exact ab.out) hb); have aQ := zK (blk_below (g := ar) (o := .cells #[.int .i64 ao, .slice aC ai.length aD] 24 (0, 0)) (by (with_reducible repeat (first | refine zN ?_ _ | refine zD ?_ | refine zA ?_ _)); refine blk_put (cs := #[.int .i64 ao, .slice none 0 0]) ?_ 1 _ rfl; (with_reducible repeat (first | refine zN ?_ _ | refine zD ?_ | refine zA ?_ _)); refine blk_put (cs := #[.int .i64 0, .slice none 0 0]) ?_ 0 _ rfl; (with_reducible repeat (first | refine zN ?_ _ | refine zD ?_ | refine zA ?_ _)); exact ae.out) hb); have aR := zK (below_step (zb HB) hb); clear aq; clear ay; clear ab; clear ae; clear HB; have aq := aM; have ay := aN; have aF := aO; have ab := aP; have ae := aQ; have HB := aR; clear aM aN aO aP aQ aR; (try clear hb); (try clear hk); (try clear ho0)) | ((with_reducible refine gate_dst (N := 9) rfl ?_); refine box_event ?hg (N := 9) ?hd (cs := #[.int .i64 0, .slice none 0 0]) (t := 24) ?hr ?_; (case hd => rfl); (case hg => rfl); (case hr => first | (go_simp; done) | (go_simp; rfl)); intro ak hg b0 hbox hb; have aM := zK (Kd.S_below (zT aq) hb); have aN := zK (Kd.S_below (zT ay) hb); have aO := zK (Kd.S_below (zT aF) hb); have aP := zK (blk_below (g := am) (o := .cells #[.int .i64 ah, .slice az af.length av] 24 (0, 0)) (zk ab) hb); have aQ := zK (blk_below (g := ar) (o := .cells #[.int .i64 ao, .slice aC ai.length aD] 24 (0, 0)) (zk ae) hb); have aR := zK (below_step (zb HB) hb); have aT := zK (hbox); have a3 := zK ((by rw [hg]; exact (below_size (zb HB)) : w.heap.size ≤ ak)); have a7 := zK ((by rw [hg]; exact (below_size (zb HB)) : w.heap.size ≤ ak)); have cW := zK ((by rw [hg]; exact Nat.ne_of_lt (blk_lt (g := am) (o := .cells #[.int .i64 ah, .slice az af.length av] 24 (0, 0)) (zk ab)) : am ≠ ak)); have b2 := zK ((by rw [hg]; exact Nat.ne_of_gt (blk_lt (g := am) (o := .cells #[.int .i64 ah, .slice az af.length av] 24 (0, 0)) (zk ab)) : ak ≠ am)); have b3 := zK ((by rw [hg]; exact Nat.ne_of_lt (blk_lt (g := ar) (o := .cells #[.int .i64 ao, .slice aC ai.length aD] 24 (0, 0)) (zk ae)) : ar ≠ ak)); have b4 := zK ((by rw [hg]; exact Nat.ne_of_gt (blk_lt (g := ar) (o := .cells #[.int .i64 ao, .slice aC ai.length aD] 24 (0, 0)) (zk ae)) : ak ≠ ar)); clear aq; clear ay; clear aF; clear ab; clear ae; clear HB; have aq := aM; have ay := aN; have aF := aO; have ab := aP; have ae := aQ; have HB := aR; have ag := aT; have GW751 := a3; have aJ := a7; have aV := cW; have a6 := b2; have bq := b3; have cr := b4; clear aM aN aO aP aQ aR aT a3 a7 cW b2 b3 b4; clear hb hbox hg; have hnb20 := a6.out; have hnc20 := aV.out; have hnb21 := cr.out; have hnc21 := bq.out; have hcz22_0 : b0.cell? ⟨ak, 0, none⟩ = some (.int .i64 0) := (blk_cell ag.out 0).trans rfl; have hcz22_1 : b0.cell? ⟨ak, 1, none⟩ = some (.slice none 0 0) := (blk_cell ag.out 1).trans rfl; have hfz22_0 := blk_frozen ag.out 0; have hfz22_1 := blk_frozen ag.out 1; obtain ⟨aw, ax, eo23⟩ := Kd.S_slice aF.out; subst eo23))
  (try simp only [Act.put, zp, zq, zr])
  go_cut [77] (fun v77 wc => ∃ (kq : Nat) (ce : Bool), v77 = .bool ce ∧ Aside0 (laws_FnStorePuts.j0 kq l0 aG aU ce ah af ao ai = some r) ∧ Aside0 (kq ≤ k) ∧ Aside0 (Kd.S (Kd.slice 30 k30) 28 wc w.heap.size (fun k_ => some k_ ≠ ((.slice aC ai.length aD) : Value).ownBlock ∧ some k_ ≠ ((.slice aw au.length ax) : Value).ownBlock) (.slice az af.length av) af) ∧ Aside0 (Kd.S (Kd.slice 30 k30) 28 wc w.heap.size (fun k_ => some k_ ≠ ((.slice az af.length av) : Value).ownBlock ∧ some k_ ≠ ((.slice aw au.length ax) : Value).ownBlock) (.slice aC ai.length aD) ai) ∧ Aside0 (Kd.S (Kd.slice 30 k30) 28 wc w.heap.size (fun k_ => some k_ ≠ ((.slice az af.length av) : Value).ownBlock ∧ some k_ ≠ ((.slice aC ai.length aD) : Value).ownBlock) (.slice aw au.length ax) au) ∧ Aside0 (wc.heap[am]? = some (.cells #[.int .i64 ah, (.slice az af.length av)] 24 (0, 0))) ∧ Aside0 (wc.heap[ar]? = some (.cells #[.int .i64 ao, (.slice aC ai.length aD)] 24 (0, 0))) ∧ Aside0 (wc.heap[ak]? = some (.cells #[.int .i64 aI, (.slice aw au.length ax)] 24 (0, 0))) ∧ Aside0 (Below w.heap.size w wc))
  case first =>
   have H := HC7.out; clear HC7
   by_cases cu : (aU != bP) = true
   ·rw [if_pos cu] at H
    have b5 : (aU != bP) = true := cu
    (try (have dy : decide (aU = bP) = false := by simpa using cu)); (try (have dz : (aU == bP) = false := by simpa using cu)); (try (have c24b3 : ¬ (aU = bP) := by simpa using cu)); clear cu
    (first | rw [b5] | (simp only [i64_w, i32_w]; rw [b5]) | skip)
    exact absurd (H.trans (congrArg some hrt.out)) (by cases k <;> simp [laws_FnStorePuts.j0])
   ·rw [if_neg cu] at H
    have b5 : (aU != bP) = false := by simpa using cu
    (try (have dy : decide (aU = bP) = true := by simpa using cu)); (try (have dz : (aU == bP) = true := by simpa using cu)); clear cu
    (first | rw [b5] | (simp only [i64_w, i32_w]; rw [b5]) | skip)
    by_cases cD : bp = b6
    ·rw [if_pos cD] at H
     have cf : (bp == b6) = true := beq_iff_eq.mpr cD
     have cg : (bp != b6) = false := bne_eq_false_iff_eq.mpr cD
     clear cD; replace H := Option.bind_eq_some_iff.mp H
     obtain ⟨bx, dA, H⟩ := H
     replace H : (if bx = true then (if aU = true then ((impl_StoreOk.f k ah af).bind fun bk => ((spec_StoreOk.f k ah af).bind fun bi => (laws_FnStorePuts.j0 k l0 aG aU (bk != bi) ah af ao ai))) else ((laws_sameStore.f k ao ai ah af).bind fun bo => (if bo = true then (if bp = (-1) then ((impl_StoreOk.f k ah af).bind fun bh => ((spec_StoreOk.f k ah af).bind fun bd => (laws_FnStorePuts.j0 k l0 aG aU (bh != bd) ah af ao ai))) else (laws_FnStorePuts.j0 k l0 aG aU true ah af ao ai)) else (laws_FnStorePuts.j0 k l0 aG aU true ah af ao ai)))) else (laws_FnStorePuts.j0 k l0 aG aU true ah af ao ai)) = some r := H
     have A26 := zK dA; clear dA
     by_cases de : bx = true
     ·subst de
      have H1 : (if aU = true then ((impl_StoreOk.f k ah af).bind fun bk => ((spec_StoreOk.f k ah af).bind fun bi => (laws_FnStorePuts.j0 k l0 aG aU (bk != bi) ah af ao ai))) else ((laws_sameStore.f k ao ai ah af).bind fun bo => (if bo = true then (if bp = (-1) then ((impl_StoreOk.f k ah af).bind fun bh => ((spec_StoreOk.f k ah af).bind fun bd => (laws_FnStorePuts.j0 k l0 aG aU (bh != bd) ah af ao ai))) else (laws_FnStorePuts.j0 k l0 aG aU true ah af ao ai)) else (laws_FnStorePuts.j0 k l0 aG aU true ah af ao ai)))) = some r := by rw [if_pos rfl] at H; exact H
      clear H; have H := H1; clear H1
      by_cases df : aU = true
      ·subst df
       have H1 : ((impl_StoreOk.f k ah af).bind fun bk => ((spec_StoreOk.f k ah af).bind fun bi => (laws_FnStorePuts.j0 k l0 aG true (bk != bi) ah af ao ai))) = some r := by rw [if_pos rfl] at H; exact H
       clear H; have H := H1; clear H1; replace H := Option.bind_eq_some_iff.mp H
       obtain ⟨bk, dB, H⟩ := H
       replace H : ((spec_StoreOk.f k ah af).bind fun bi => (laws_FnStorePuts.j0 k l0 aG true (bk != bi) ah af ao ai)) = some r := H
       have A29 := zK dB; clear dB; replace H := Option.bind_eq_some_iff.mp H
       obtain ⟨bi, dC, H⟩ := H
       replace H : (laws_FnStorePuts.j0 k l0 aG true (bk != bi) ah af ao ai) = some r := H
       have A30 := zK dC; clear dC; have H' := zK H; clear H
       try go_wp2
       have aM : Aside0 (Kd.S (Kd.slice 30 k30) 28 ((b0.setCell ⟨ak, 0, none⟩ (.int .i64 aI)).setCell ⟨ak, 1, none⟩ (.slice aw au.length ax)) w.heap.size (fun k_ => some k_ ≠ (.slice aC ai.length aD : Value).ownBlock ∧ some k_ ≠ (.slice aw au.length ax : Value).ownBlock) (.slice az af.length av) af) := ⟨by (with_reducible repeat (first | apply Kd.S_alloc | apply Kd.S_drewN | apply Kd.S_drew)); exact Kd.S_mono (Kd.S_far (p := ⟨ak, 1, none⟩) (Kd.S_far (p := ⟨ak, 0, none⟩) (Kd.S_types aq.out ag.out (by decide)) (fun _ hk => hk.2) (.int .i64 aI)) (fun _ hk => hk.2) (.slice aw au.length ax)) (fun _ hk => ⟨hk.1.1.2, hk.1.2⟩)⟩
       have aN : Aside0 (Kd.S (Kd.slice 30 k30) 28 ((b0.setCell ⟨ak, 0, none⟩ (.int .i64 aI)).setCell ⟨ak, 1, none⟩ (.slice aw au.length ax)) w.heap.size (fun k_ => some k_ ≠ (.slice az af.length av : Value).ownBlock ∧ some k_ ≠ (.slice aw au.length ax : Value).ownBlock) (.slice aC ai.length aD) ai) := ⟨by (with_reducible repeat (first | apply Kd.S_alloc | apply Kd.S_drewN | apply Kd.S_drew)); exact Kd.S_mono (Kd.S_far (p := ⟨ak, 1, none⟩) (Kd.S_far (p := ⟨ak, 0, none⟩) (Kd.S_types ay.out ag.out (by decide)) (fun _ hk => hk.2) (.int .i64 aI)) (fun _ hk => hk.2) (.slice aw au.length ax)) (fun _ hk => ⟨hk.1.1.2, hk.1.2⟩)⟩
       have aO : Aside0 (Kd.S (Kd.slice 30 k30) 28 ((b0.setCell ⟨ak, 0, none⟩ (.int .i64 aI)).setCell ⟨ak, 1, none⟩ (.slice aw au.length ax)) w.heap.size (fun k_ => some k_ ≠ (.slice az af.length av : Value).ownBlock ∧ some k_ ≠ (.slice aC ai.length aD : Value).ownBlock) (.slice aw au.length ax) au) := ⟨by (with_reducible repeat (first | apply Kd.S_alloc | apply Kd.S_drewN | apply Kd.S_drew)); exact Kd.S_mono (Kd.S_far (p := ⟨ak, 1, none⟩) (Kd.S_far (p := ⟨ak, 0, none⟩) (Kd.S_types aF.out ag.out (by decide)) (fun _ hk => hk.2) (.int .i64 aI)) (fun _ hk => hk.2) (.slice aw au.length ax)) (fun _ hk => ⟨hk.1.1.2, hk.1.2⟩)⟩
       have aP : Aside0 (((b0.setCell ⟨ak, 0, none⟩ (.int .i64 aI)).setCell ⟨ak, 1, none⟩ (.slice aw au.length ax)).heap[am]? = some (.cells #[.int .i64 ah, .slice az af.length av] 24 (0, 0))) := ⟨by (with_reducible repeat (first | refine zN ?_ _ | refine zD ?_ | refine zA ?_ _)); refine blk_far ?_ aV.out _; (with_reducible repeat (first | refine zN ?_ _ | refine zD ?_ | refine zA ?_ _)); refine blk_far ?_ aV.out _; (with_reducible repeat (first | refine zN ?_ _ | refine zD ?_ | refine zA ?_ _)); exact ab.out⟩
       have aQ : Aside0 (((b0.setCell ⟨ak, 0, none⟩ (.int .i64 aI)).setCell ⟨ak, 1, none⟩ (.slice aw au.length ax)).heap[ar]? = some (.cells #[.int .i64 ao, .slice aC ai.length aD] 24 (0, 0))) := ⟨by (with_reducible repeat (first | refine zN ?_ _ | refine zD ?_ | refine zA ?_ _)); refine blk_far ?_ bq.out _; (with_reducible repeat (first | refine zN ?_ _ | refine zD ?_ | refine zA ?_ _)); refine blk_far ?_ bq.out _; (with_reducible repeat (first | refine zN ?_ _ | refine zD ?_ | refine zA ?_ _)); exact ae.out⟩
       have aR : Aside0 (((b0.setCell ⟨ak, 0, none⟩ (.int .i64 aI)).setCell ⟨ak, 1, none⟩ (.slice aw au.length ax)).heap[ak]? = some (.cells #[.int .i64 aI, .slice aw au.length ax] 24 (0, 0))) := ⟨by (with_reducible repeat (first | refine zN ?_ _ | refine zD ?_ | refine zA ?_ _)); refine blk_put (cs := #[.int .i64 aI, .slice none 0 0]) ?_ 1 _ rfl; (with_reducible repeat (first | refine zN ?_ _ | refine zD ?_ | refine zA ?_ _)); refine blk_put (cs := #[.int .i64 0, .slice none 0 0]) ?_ 0 _ rfl; (with_reducible repeat (first | refine zN ?_ _ | refine zD ?_ | refine zA ?_ _)); exact ag.out⟩
       have aT : Aside0 (Below w.heap.size w ((b0.setCell ⟨ak, 0, none⟩ (.int .i64 aI)).setCell ⟨ak, 1, none⟩ (.slice aw au.length ax))) := ⟨zb HB⟩
       (try clear aq); (try clear ay); (try clear aF); (try clear ab); (try clear ae); (try clear ag); (try clear HB)
       generalize ((b0.setCell ⟨ak, 0, none⟩ (.int .i64 aI)).setCell ⟨ak, 1, none⟩ (.slice aw au.length ax)) = w31 at aM aN aO aP aQ aR aT ⊢
       have aq := aM; have ay := aN; have aF := aO; have ab := aP; have ae := aQ; have ag := aR; have HB := aT; clear aM aN aO aP aQ aR aT
       have aM := zK (Kd.S_drew aq.out)
       have aN := zK (Kd.S_drew ay.out)
       have aO := zK (Kd.S_drew aF.out)
       have aP := zK (zD ab.out)
       have aQ := zK (zD ae.out)
       have aR := zK (zD ag.out)
       have aT := zK (zE HB.out)
       clear aq ay aF ab ae ag HB; have aq := aM; have ay := aN; have aF := aO; have ab := aP; have ae := aQ; have ag := aR; have HB := aT; clear aM aN aO aP aQ aR aT
       refine start_ (n := 35) (S := fun w' => w'.cell? ⟨ar, 0, none⟩ = some (.int .i64 ao) ∧ w'.cell? ⟨ar, 1, none⟩ = some (.slice aC ai.length aD) ∧ w'.cell? ⟨ak, 0, none⟩ = some (.int .i64 aI) ∧ w'.cell? ⟨ak, 1, none⟩ = some (.slice aw au.length ax) ∧ w'.cell? ⟨am, 0, none⟩ = some (.int .i64 ah) ∧ w'.cell? ⟨am, 1, none⟩ = some (.slice az af.length av)) (ds := []) #[ff, ff, ff, ff, ff, ff, ff, ff, ff, ff, ff, ff, ff, ff, ff, ff, ff, ff, ff, ff, ff, ff, ff, ff, ff, ff, ff, ff, ff, ff, ff, ff, ff, ff, ff] (by kernel_rfl) rfl rfl ⟨(blk_cell ae.out 0).trans rfl, (blk_cell ae.out 1).trans rfl, (blk_cell ag.out 0).trans rfl, (blk_cell ag.out 1).trans rfl, (blk_cell ab.out 0).trans rfl, (blk_cell ab.out 1).trans rfl⟩ (fun hHeld => ?_); refine with_tabW laws_FnStorePuts.tab6 laws_FnStorePuts.bits6 (fun HT_ HW_ => ?_)
       generalize w31.drew = w32 at aq ay aF ab ae ag HB hHeld ⊢
       refine zu 0 (some 43) #[tt, ff, ff, ff, ff, ff, ff, ff, ff, ff, ff, ff, ff, ff, ff, ff, ff, ff, ff, ff, ff, ff, ff, ff, ff, ff, ff, ff, ff, ff, ff, ff, ff, ff, ff] (any_of HT_.out (by kernel_rfl)) ?_
       refine zu 1 (some 44) #[tt, tt, ff, ff, ff, ff, ff, ff, ff, ff, ff, ff, ff, ff, ff, ff, ff, ff, ff, ff, ff, ff, ff, ff, ff, ff, ff, ff, ff, ff, ff, ff, ff, ff, ff] (any_of HT_.out (by kernel_rfl)) ?_
       refine zu 2 (some 45) #[tt, tt, tt, ff, ff, ff, ff, ff, ff, ff, ff, ff, ff, ff, ff, ff, ff, ff, ff, ff, ff, ff, ff, ff, ff, ff, ff, ff, ff, ff, ff, ff, ff, ff, ff] (any_of HT_.out (by kernel_rfl)) ?_
       refine zu 3 (some 46) #[tt, tt, tt, tt, ff, ff, ff, ff, ff, ff, ff, ff, ff, ff, ff, ff, ff, ff, ff, ff, ff, ff, ff, ff, ff, ff, ff, ff, ff, ff, ff, ff, ff, ff, ff] (any_of HT_.out (by kernel_rfl)) ?_
       refine zu 4 (some 47) #[tt, tt, tt, tt, tt, ff, ff, ff, ff, ff, ff, ff, ff, ff, ff, ff, ff, ff, ff, ff, ff, ff, ff, ff, ff, ff, ff, ff, ff, ff, ff, ff, ff, ff, ff] (any_of HT_.out (by kernel_rfl)) ?_
       refine zu 5 (some 48) #[tt, tt, tt, tt, tt, tt, ff, ff, ff, ff, ff, ff, ff, ff, ff, ff, ff, ff, ff, ff, ff, ff, ff, ff, ff, ff, ff, ff, ff, ff, ff, ff, ff, ff, ff] (any_of HT_.out (by kernel_rfl)) ?_
       refine zu 6 (some 49) #[tt, tt, tt, tt, tt, tt, tt, ff, ff, ff, ff, ff, ff, ff, ff, ff, ff, ff, ff, ff, ff, ff, ff, ff, ff, ff, ff, ff, ff, ff, ff, ff, ff, ff, ff] (any_of HT_.out (by kernel_rfl)) ?_
       refine zu 7 (some 50) #[tt, tt, tt, tt, tt, tt, tt, tt, ff, ff, ff, ff, ff, ff, ff, ff, ff, ff, ff, ff, ff, ff, ff, ff, ff, ff, ff, ff, ff, ff, ff, ff, ff, ff, ff] (any_of HT_.out (by kernel_rfl)) ?_
       refine zu 8 (some 51) #[tt, tt, tt, tt, tt, tt, tt, tt, tt, ff, ff, ff, ff, ff, ff, ff, ff, ff, ff, ff, ff, ff, ff, ff, ff, ff, ff, ff, ff, ff, ff, ff, ff, ff, ff] (any_of HT_.out (by kernel_rfl)) ?_
       refine zt 9 (some 52) #[tt, tt, tt, tt, tt, tt, tt, tt, tt, tt, ff, ff, ff, ff, ff, ff, ff, ff, ff, ff, ff, ff, ff, ff, ff, ff, ff, ff, ff, ff, ff, ff, ff, ff, ff] (take_ofW HT_.out HW_.out (by kernel_rfl)) hHeld ?_
       refine zt 10 (some 53) #[tt, tt, tt, tt, tt, tt, tt, tt, tt, tt, tt, ff, ff, ff, ff, ff, ff, ff, ff, ff, ff, ff, ff, ff, ff, ff, ff, ff, ff, ff, ff, ff, ff, ff, ff] (take_ofW HT_.out HW_.out (by kernel_rfl)) hHeld ?_
       refine one_ (i := 11) (N := some 54) #[tt, tt, tt, tt, tt, tt, tt, tt, tt, tt, tt, tt, ff, ff, ff, ff, ff, ff, ff, ff, ff, ff, ff, ff, ff, ff, ff, ff, ff, ff, ff, ff, ff, ff, ff] rfl rfl (one_of HT_.out (by kernel_rfl)) (by decide) (fun K hK => ?_)
       refine goes_ Try.func33 (by kernel_rfl) rfl #[.agg #[.int .i64 ao, .slice aC ai.length aD], .agg #[.int .i64 aI, .slice aw au.length ax]] (by rfl) rfl rfl (by (try simp only [List.map_toArray, List.map_cons, List.map_nil]); first | done | rfl | (simp only [List.length_drop, List.length_take]; rfl)) ?_
       with_reducible refine (laws_sameStore.calls k ao _ _ ai aI _ _ au true _ ?side1 ?side2 ?side3 ?side4 A26.out).mono ?_
       (case side1 => repeat (first | exact (Kd.S_reads' ay.out).2.2 | (with_reducible refine Kd.C_alloc ?_ _) | (with_reducible refine Kd.C_drewN ?_ _) | (with_reducible refine Kd.C_drew ?_)))
       (case side2 => exact (Kd.S_reads' ay.out).2.1)
       (case side3 => repeat (first | exact (Kd.S_reads' aF.out).2.2 | (with_reducible refine Kd.C_alloc ?_ _) | (with_reducible refine Kd.C_drewN ?_ _) | (with_reducible refine Kd.C_drew ?_)))
       (case side4 => exact (Kd.S_reads' aF.out).2.1)
       rintro e w33 ⟨rfl, hb⟩
       refine ⟨_, rfl, ?_⟩
       have aM := zK (Kd.S_below (zT aq) hb)
       have aN := zK (Kd.S_below (zT ay) hb)
       have aO := zK (Kd.S_below (zT aF) hb)
       have aP := zK (blk_below (g := am) (o := .cells #[.int .i64 ah, .slice az af.length av] 24 (0, 0)) (zk ab) hb)
       have aQ := zK (blk_below (g := ar) (o := .cells #[.int .i64 ao, .slice aC ai.length aD] 24 (0, 0)) (zk ae) hb)
       have aR := zK (blk_below (g := ak) (o := .cells #[.int .i64 aI, .slice aw au.length ax] 24 (0, 0)) (zk ag) hb)
       have aT := zK (below_step (zb HB) hb)
       clear aq ay aF ab ae ag HB; have aq := aM; have ay := aN; have aF := aO; have ab := aP; have ae := aQ; have ag := aR; have HB := aT; clear aM aN aO aP aQ aR aT; (try clear hb); (try clear hb2); (try clear hk); (try clear hi)
       refine hK.out _ _ ⟨(blk_cell ae.out 0).trans rfl, (blk_cell ae.out 1).trans rfl, (blk_cell ag.out 0).trans rfl, (blk_cell ag.out 1).trans rfl, (blk_cell ab.out 0).trans rfl, (blk_cell ab.out 1).trans rfl⟩ (fun hHeld => ?_)
       clear hK K
       refine norm_ (a' := ?_) ?_ ?_
       rotate_left
       ·show Act.put _ (some 54) _ = _
        simp only [Act.put, zp, zq, zr, i64_w, i32_w]
        rfl
       refine zu 12 (some 55) #[tt, tt, tt, tt, tt, tt, tt, tt, tt, tt, tt, tt, tt, ff, ff, ff, ff, ff, ff, ff, ff, ff, ff, ff, ff, ff, ff, ff, ff, ff, ff, ff, ff, ff, ff] (any_of HT_.out (by kernel_rfl)) ?_
       refine zu 13 (some 56) #[tt, tt, tt, tt, tt, tt, tt, tt, tt, tt, tt, tt, tt, tt, ff, ff, ff, ff, ff, ff, ff, ff, ff, ff, ff, ff, ff, ff, ff, ff, ff, ff, ff, ff, ff] (any_of HT_.out (by kernel_rfl)) ?_
       refine zu 14 (some 57) #[tt, tt, tt, tt, tt, tt, tt, tt, tt, tt, tt, tt, tt, tt, tt, ff, ff, ff, ff, ff, ff, ff, ff, ff, ff, ff, ff, ff, ff, ff, ff, ff, ff, ff, ff] (any_of HT_.out (by kernel_rfl)) ?_
       refine zu 15 (some 58) #[tt, tt, tt, tt, tt, tt, tt, tt, tt, tt, tt, tt, tt, tt, tt, tt, ff, ff, ff, ff, ff, ff, ff, ff, ff, ff, ff, ff, ff, ff, ff, ff, ff, ff, ff] (any_of HT_.out (by kernel_rfl)) ?_
       refine zu 16 (some 59) #[tt, tt, tt, tt, tt, tt, tt, tt, tt, tt, tt, tt, tt, tt, tt, tt, tt, ff, ff, ff, ff, ff, ff, ff, ff, ff, ff, ff, ff, ff, ff, ff, ff, ff, ff] (any_of HT_.out (by kernel_rfl)) ?_
       refine zu 17 (some 60) #[tt, tt, tt, tt, tt, tt, tt, tt, tt, tt, tt, tt, tt, tt, tt, tt, tt, tt, ff, ff, ff, ff, ff, ff, ff, ff, ff, ff, ff, ff, ff, ff, ff, ff, ff] (any_of HT_.out (by kernel_rfl)) ?_
       refine pure_ (i := 18) (N := some 61) (v := undef) (a' := ?_) #[tt, tt, tt, tt, tt, tt, tt, tt, tt, tt, tt, tt, tt, tt, tt, tt, tt, tt, tt, ff, ff, ff, ff, ff, ff, ff, ff, ff, ff, ff, ff, ff, ff, ff, ff] rfl rfl (any_of HT_.out (by kernel_rfl)) (fun _ _ _ h => h) (Or.inr ⟨by rfl, rfl⟩) ?_ ?_
       rotate_left
       ·simp only [Act.put, zp, zq, zr, i64_w, i32_w]
        rfl
       refine pure_ (i := 19) (N := some 62) (v := undef) (a' := ?_) #[tt, tt, tt, tt, tt, tt, tt, tt, tt, tt, tt, tt, tt, tt, tt, tt, tt, tt, tt, tt, ff, ff, ff, ff, ff, ff, ff, ff, ff, ff, ff, ff, ff, ff, ff] rfl rfl (any_of HT_.out (by kernel_rfl)) (fun _ _ _ h => h) (Or.inr ⟨by rfl, rfl⟩) ?_ ?_
       rotate_left
       ·simp only [Act.put, zp, zq, zr, i64_w, i32_w]
        rfl
       refine pure_ (i := 20) (N := some 63) (v := undef) (a' := ?_) #[tt, tt, tt, tt, tt, tt, tt, tt, tt, tt, tt, tt, tt, tt, tt, tt, tt, tt, tt, tt, tt, ff, ff, ff, ff, ff, ff, ff, ff, ff, ff, ff, ff, ff, ff] rfl rfl (any_of HT_.out (by kernel_rfl)) (fun _ _ _ h => h) (Or.inr ⟨by rfl, rfl⟩) ?_ ?_
       rotate_left
       ·simp only [Act.put, zp, zq, zr, i64_w, i32_w]
        rfl
       refine pure_ (i := 21) (N := some 64) (v := undef) (a' := ?_) #[tt, tt, tt, tt, tt, tt, tt, tt, tt, tt, tt, tt, tt, tt, tt, tt, tt, tt, tt, tt, tt, tt, ff, ff, ff, ff, ff, ff, ff, ff, ff, ff, ff, ff, ff] rfl rfl (any_of HT_.out (by kernel_rfl)) (fun _ _ _ h => h) (Or.inr ⟨by rfl, rfl⟩) ?_ ?_
       rotate_left
       ·simp only [Act.put, zp, zq, zr, i64_w, i32_w]
        rfl
       refine pure_ (i := 22) (N := some 65) (v := undef) (a' := ?_) #[tt, tt, tt, tt, tt, tt, tt, tt, tt, tt, tt, tt, tt, tt, tt, tt, tt, tt, tt, tt, tt, tt, tt, ff, ff, ff, ff, ff, ff, ff, ff, ff, ff, ff, ff] rfl rfl (any_of HT_.out (by kernel_rfl)) (fun _ _ _ h => h) (Or.inr ⟨by rfl, rfl⟩) ?_ ?_
       rotate_left
       ·simp only [Act.put, zp, zq, zr, i64_w, i32_w]
        rfl
       refine pure_ (i := 23) (N := some 66) (v := undef) (a' := ?_) #[tt, tt, tt, tt, tt, tt, tt, tt, tt, tt, tt, tt, tt, tt, tt, tt, tt, tt, tt, tt, tt, tt, tt, tt, ff, ff, ff, ff, ff, ff, ff, ff, ff, ff, ff] rfl rfl (any_of HT_.out (by kernel_rfl)) (fun _ _ _ h => h) (Or.inr ⟨by rfl, rfl⟩) ?_ ?_
       rotate_left
       ·simp only [Act.put, zp, zq, zr, i64_w, i32_w]
        rfl
       refine pure_ (i := 24) (N := some 67) (v := undef) (a' := ?_) #[tt, tt, tt, tt, tt, tt, tt, tt, tt, tt, tt, tt, tt, tt, tt, tt, tt, tt, tt, tt, tt, tt, tt, tt, tt, ff, ff, ff, ff, ff, ff, ff, ff, ff, ff] rfl rfl (any_of HT_.out (by kernel_rfl)) (fun _ _ _ h => h) (Or.inr ⟨by rfl, rfl⟩) ?_ ?_
       rotate_left
       ·simp only [Act.put, zp, zq, zr, i64_w, i32_w]
        rfl
       refine pure_ (i := 25) (N := some 68) (v := undef) (a' := ?_) #[tt, tt, tt, tt, tt, tt, tt, tt, tt, tt, tt, tt, tt, tt, tt, tt, tt, tt, tt, tt, tt, tt, tt, tt, tt, tt, ff, ff, ff, ff, ff, ff, ff, ff, ff] rfl rfl (any_of HT_.out (by kernel_rfl)) (fun _ _ _ h => h) (Or.inr ⟨by rfl, rfl⟩) ?_ ?_
       rotate_left
       ·simp only [Act.put, zp, zq, zr, i64_w, i32_w]
        rfl
       refine zu 26 (some 69) #[tt, tt, tt, tt, tt, tt, tt, tt, tt, tt, tt, tt, tt, tt, tt, tt, tt, tt, tt, tt, tt, tt, tt, tt, tt, tt, tt, ff, ff, ff, ff, ff, ff, ff, ff] (any_of HT_.out (by kernel_rfl)) ?_
       refine zu 27 (some 70) #[tt, tt, tt, tt, tt, tt, tt, tt, tt, tt, tt, tt, tt, tt, tt, tt, tt, tt, tt, tt, tt, tt, tt, tt, tt, tt, tt, tt, ff, ff, ff, ff, ff, ff, ff] (any_of HT_.out (by kernel_rfl)) ?_
       refine zu 28 (some 71) #[tt, tt, tt, tt, tt, tt, tt, tt, tt, tt, tt, tt, tt, tt, tt, tt, tt, tt, tt, tt, tt, tt, tt, tt, tt, tt, tt, tt, tt, ff, ff, ff, ff, ff, ff] (any_of HT_.out (by kernel_rfl)) ?_
       refine zt 29 (some 72) #[tt, tt, tt, tt, tt, tt, tt, tt, tt, tt, tt, tt, tt, tt, tt, tt, tt, tt, tt, tt, tt, tt, tt, tt, tt, tt, tt, tt, tt, tt, ff, ff, ff, ff, ff] (take_ofW HT_.out HW_.out (by kernel_rfl)) hHeld ?_
       refine zt 31 (some 74) #[tt, tt, tt, tt, tt, tt, tt, tt, tt, tt, tt, tt, tt, tt, tt, tt, tt, tt, tt, tt, tt, tt, tt, tt, tt, tt, tt, tt, tt, tt, ff, tt, ff, ff, ff] (take_ofW HT_.out HW_.out (by kernel_rfl)) hHeld ?_
       refine one_ (i := 30) (N := some 73) #[tt, tt, tt, tt, tt, tt, tt, tt, tt, tt, tt, tt, tt, tt, tt, tt, tt, tt, tt, tt, tt, tt, tt, tt, tt, tt, tt, tt, tt, tt, tt, tt, ff, ff, ff] rfl rfl (one_of HT_.out (by kernel_rfl)) (by decide) (fun K hK => ?_)
       refine goes_ Try.func22 (by kernel_rfl) rfl #[.agg #[.int .i64 ah, .slice az af.length av]] (by rfl) rfl rfl (by (try simp only [List.map_toArray, List.map_cons, List.map_nil]); first | done | rfl | (simp only [List.length_drop, List.length_take]; rfl)) ?_
       with_reducible refine (impl_StoreOk.calls k ah _ _ af bk _ ?side1 ?side2 A29.out).mono ?_
       (case side1 => repeat (first | exact (Kd.S_reads' aq.out).2.2 | (with_reducible refine Kd.C_alloc ?_ _) | (with_reducible refine Kd.C_drewN ?_ _) | (with_reducible refine Kd.C_drew ?_)))
       (case side2 => exact (Kd.S_reads' aq.out).2.1)
       rintro e w34 ⟨rfl, hb⟩
       refine ⟨_, rfl, ?_⟩
       have aM := zK (Kd.S_below (zT aq) hb)
       have aN := zK (Kd.S_below (zT ay) hb)
       have aO := zK (Kd.S_below (zT aF) hb)
       have aP := zK (blk_below (g := am) (o := .cells #[.int .i64 ah, .slice az af.length av] 24 (0, 0)) (zk ab) hb)
       have aQ := zK (blk_below (g := ar) (o := .cells #[.int .i64 ao, .slice aC ai.length aD] 24 (0, 0)) (zk ae) hb)
       have aR := zK (blk_below (g := ak) (o := .cells #[.int .i64 aI, .slice aw au.length ax] 24 (0, 0)) (zk ag) hb)
       have aT := zK (below_step (zb HB) hb)
       clear aq ay aF ab ae ag HB; have aq := aM; have ay := aN; have aF := aO; have ab := aP; have ae := aQ; have ag := aR; have HB := aT; clear aM aN aO aP aQ aR aT; (try clear hb); (try clear hb2); (try clear hk); (try clear hi)
       refine hK.out _ _ ⟨(blk_cell ae.out 0).trans rfl, (blk_cell ae.out 1).trans rfl, (blk_cell ag.out 0).trans rfl, (blk_cell ag.out 1).trans rfl, (blk_cell ab.out 0).trans rfl, (blk_cell ab.out 1).trans rfl⟩ (fun hHeld => ?_)
       clear hK K
       refine norm_ (a' := ?_) ?_ ?_
       rotate_left
       ·show Act.put _ (some 73) _ = _
        simp only [Act.put, zp, zq, zr, i64_w, i32_w]
        rfl
       refine one_ (i := 32) (N := some 75) #[tt, tt, tt, tt, tt, tt, tt, tt, tt, tt, tt, tt, tt, tt, tt, tt, tt, tt, tt, tt, tt, tt, tt, tt, tt, tt, tt, tt, tt, tt, tt, tt, tt, ff, ff] rfl rfl (one_of HT_.out (by kernel_rfl)) (by decide) (fun K hK => ?_)
       refine goes_ Try.func15 (by kernel_rfl) rfl #[.agg #[.int .i64 ah, .slice az af.length av]] (by rfl) rfl rfl (by (try simp only [List.map_toArray, List.map_cons, List.map_nil]); first | done | rfl | (simp only [List.length_drop, List.length_take]; rfl)) ?_
       with_reducible refine (spec_StoreOk.calls k ah _ _ af bi _ ?side1 ?side2 A30.out).mono ?_
       (case side1 => repeat (first | exact (Kd.S_reads' aq.out).2.2 | (with_reducible refine Kd.C_alloc ?_ _) | (with_reducible refine Kd.C_drewN ?_ _) | (with_reducible refine Kd.C_drew ?_)))
       (case side2 => exact (Kd.S_reads' aq.out).2.1)
       rintro e w35 ⟨rfl, hb⟩
       refine ⟨_, rfl, ?_⟩
       have aM := zK (Kd.S_below (zT aq) hb)
       have aN := zK (Kd.S_below (zT ay) hb)
       have aO := zK (Kd.S_below (zT aF) hb)
       have aP := zK (blk_below (g := am) (o := .cells #[.int .i64 ah, .slice az af.length av] 24 (0, 0)) (zk ab) hb)
       have aQ := zK (blk_below (g := ar) (o := .cells #[.int .i64 ao, .slice aC ai.length aD] 24 (0, 0)) (zk ae) hb)
       have aR := zK (blk_below (g := ak) (o := .cells #[.int .i64 aI, .slice aw au.length ax] 24 (0, 0)) (zk ag) hb)
       have aT := zK (below_step (zb HB) hb)
       clear aq ay aF ab ae ag HB; have aq := aM; have ay := aN; have aF := aO; have ab := aP; have ae := aQ; have ag := aR; have HB := aT; clear aM aN aO aP aQ aR aT; (try clear hb); (try clear hb2); (try clear hk); (try clear hi)
       refine hK.out _ _ ⟨(blk_cell ae.out 0).trans rfl, (blk_cell ae.out 1).trans rfl, (blk_cell ag.out 0).trans rfl, (blk_cell ag.out 1).trans rfl, (blk_cell ab.out 0).trans rfl, (blk_cell ab.out 1).trans rfl⟩ (fun hHeld => ?_)
       clear hK K
       refine norm_ (a' := ?_) ?_ ?_
       rotate_left
       ·show Act.put _ (some 75) _ = _
        simp only [Act.put, zp, zq, zr, i64_w, i32_w]
        rfl
       refine zu 33 (some 76) #[tt, tt, tt, tt, tt, tt, tt, tt, tt, tt, tt, tt, tt, tt, tt, tt, tt, tt, tt, tt, tt, tt, tt, tt, tt, tt, tt, tt, tt, tt, tt, tt, tt, tt, ff] (any_of HT_.out (by kernel_rfl)) ?_
       refine zu 34 (some 77) #[tt, tt, tt, tt, tt, tt, tt, tt, tt, tt, tt, tt, tt, tt, tt, tt, tt, tt, tt, tt, tt, tt, tt, tt, tt, tt, tt, tt, tt, tt, tt, tt, tt, tt, tt] (any_of HT_.out (by kernel_rfl)) ?_
       refine done_ (done_of HT_.out (by kernel_rfl)) ?_
       try go_wp2
       go_meet
       case rel => exact ⟨_, ((bk != bi)), (by first | rfl | (simp; done) | (simp [*]; done)), H', ⟨by first | omega | exact Nat.le_refl _⟩, ⟨zT aq⟩, ⟨zT ay⟩, ⟨zT aF⟩, ⟨zk ab⟩, ⟨zk ae⟩, ⟨zk ag⟩, ⟨zb HB⟩⟩
      ·replace df := Bool.eq_false_iff.mpr df
       subst df
       have H1 : ((laws_sameStore.f k ao ai ah af).bind fun bo => (if bo = true then (if bp = (-1) then ((impl_StoreOk.f k ah af).bind fun bh => ((spec_StoreOk.f k ah af).bind fun bd => (laws_FnStorePuts.j0 k l0 aG false (bh != bd) ah af ao ai))) else (laws_FnStorePuts.j0 k l0 aG false true ah af ao ai)) else (laws_FnStorePuts.j0 k l0 aG false true ah af ao ai))) = some r := by rw [if_neg (show ¬ (false = true) by decide)] at H; exact H
       clear H; have H := H1; clear H1; replace H := Option.bind_eq_some_iff.mp H
       obtain ⟨bo, dD, H⟩ := H
       replace H : (if bo = true then (if bp = (-1) then ((impl_StoreOk.f k ah af).bind fun bh => ((spec_StoreOk.f k ah af).bind fun bd => (laws_FnStorePuts.j0 k l0 aG false (bh != bd) ah af ao ai))) else (laws_FnStorePuts.j0 k l0 aG false true ah af ao ai)) else (laws_FnStorePuts.j0 k l0 aG false true ah af ao ai)) = some r := H
       have A36 := zK dD; clear dD
       by_cases dg : bo = true
       ·subst dg
        have H1 : (if bp = (-1) then ((impl_StoreOk.f k ah af).bind fun bh => ((spec_StoreOk.f k ah af).bind fun bd => (laws_FnStorePuts.j0 k l0 aG false (bh != bd) ah af ao ai))) else (laws_FnStorePuts.j0 k l0 aG false true ah af ao ai)) = some r := by rw [if_pos rfl] at H; exact H
        clear H; have H := H1; clear H1
        by_cases cE : bp = (-1)
        ·rw [if_pos cE] at H
         have ch : (bp == (-1)) = true := beq_iff_eq.mpr cE
         have ci : (bp != (-1)) = false := bne_eq_false_iff_eq.mpr cE
         clear cE; replace H := Option.bind_eq_some_iff.mp H
         obtain ⟨bh, dE, H⟩ := H
         replace H : ((spec_StoreOk.f k ah af).bind fun bd => (laws_FnStorePuts.j0 k l0 aG false (bh != bd) ah af ao ai)) = some r := H
         have A39 := zK dE; clear dE; replace H := Option.bind_eq_some_iff.mp H
         obtain ⟨bd, dF, H⟩ := H
         replace H : (laws_FnStorePuts.j0 k l0 aG false (bh != bd) ah af ao ai) = some r := H
         have A40 := zK dF; clear dF; have H' := zK H; clear H
         try go_wp2
         have aM : Aside0 (Kd.S (Kd.slice 30 k30) 28 ((b0.setCell ⟨ak, 0, none⟩ (.int .i64 aI)).setCell ⟨ak, 1, none⟩ (.slice aw au.length ax)) w.heap.size (fun k_ => some k_ ≠ (.slice aC ai.length aD : Value).ownBlock ∧ some k_ ≠ (.slice aw au.length ax : Value).ownBlock) (.slice az af.length av) af) := ⟨by (with_reducible repeat (first | apply Kd.S_alloc | apply Kd.S_drewN | apply Kd.S_drew)); exact Kd.S_mono (Kd.S_far (p := ⟨ak, 1, none⟩) (Kd.S_far (p := ⟨ak, 0, none⟩) (Kd.S_types aq.out ag.out (by decide)) (fun _ hk => hk.2) (.int .i64 aI)) (fun _ hk => hk.2) (.slice aw au.length ax)) (fun _ hk => ⟨hk.1.1.2, hk.1.2⟩)⟩
         have aN : Aside0 (Kd.S (Kd.slice 30 k30) 28 ((b0.setCell ⟨ak, 0, none⟩ (.int .i64 aI)).setCell ⟨ak, 1, none⟩ (.slice aw au.length ax)) w.heap.size (fun k_ => some k_ ≠ (.slice az af.length av : Value).ownBlock ∧ some k_ ≠ (.slice aw au.length ax : Value).ownBlock) (.slice aC ai.length aD) ai) := ⟨by (with_reducible repeat (first | apply Kd.S_alloc | apply Kd.S_drewN | apply Kd.S_drew)); exact Kd.S_mono (Kd.S_far (p := ⟨ak, 1, none⟩) (Kd.S_far (p := ⟨ak, 0, none⟩) (Kd.S_types ay.out ag.out (by decide)) (fun _ hk => hk.2) (.int .i64 aI)) (fun _ hk => hk.2) (.slice aw au.length ax)) (fun _ hk => ⟨hk.1.1.2, hk.1.2⟩)⟩
         have aO : Aside0 (Kd.S (Kd.slice 30 k30) 28 ((b0.setCell ⟨ak, 0, none⟩ (.int .i64 aI)).setCell ⟨ak, 1, none⟩ (.slice aw au.length ax)) w.heap.size (fun k_ => some k_ ≠ (.slice az af.length av : Value).ownBlock ∧ some k_ ≠ (.slice aC ai.length aD : Value).ownBlock) (.slice aw au.length ax) au) := ⟨by (with_reducible repeat (first | apply Kd.S_alloc | apply Kd.S_drewN | apply Kd.S_drew)); exact Kd.S_mono (Kd.S_far (p := ⟨ak, 1, none⟩) (Kd.S_far (p := ⟨ak, 0, none⟩) (Kd.S_types aF.out ag.out (by decide)) (fun _ hk => hk.2) (.int .i64 aI)) (fun _ hk => hk.2) (.slice aw au.length ax)) (fun _ hk => ⟨hk.1.1.2, hk.1.2⟩)⟩
         have aP : Aside0 (((b0.setCell ⟨ak, 0, none⟩ (.int .i64 aI)).setCell ⟨ak, 1, none⟩ (.slice aw au.length ax)).heap[am]? = some (.cells #[.int .i64 ah, .slice az af.length av] 24 (0, 0))) := ⟨by (with_reducible repeat (first | refine zN ?_ _ | refine zD ?_ | refine zA ?_ _)); refine blk_far ?_ aV.out _; (with_reducible repeat (first | refine zN ?_ _ | refine zD ?_ | refine zA ?_ _)); refine blk_far ?_ aV.out _; (with_reducible repeat (first | refine zN ?_ _ | refine zD ?_ | refine zA ?_ _)); exact ab.out⟩
         have aQ : Aside0 (((b0.setCell ⟨ak, 0, none⟩ (.int .i64 aI)).setCell ⟨ak, 1, none⟩ (.slice aw au.length ax)).heap[ar]? = some (.cells #[.int .i64 ao, .slice aC ai.length aD] 24 (0, 0))) := ⟨by (with_reducible repeat (first | refine zN ?_ _ | refine zD ?_ | refine zA ?_ _)); refine blk_far ?_ bq.out _; (with_reducible repeat (first | refine zN ?_ _ | refine zD ?_ | refine zA ?_ _)); refine blk_far ?_ bq.out _; (with_reducible repeat (first | refine zN ?_ _ | refine zD ?_ | refine zA ?_ _)); exact ae.out⟩
         have aR : Aside0 (((b0.setCell ⟨ak, 0, none⟩ (.int .i64 aI)).setCell ⟨ak, 1, none⟩ (.slice aw au.length ax)).heap[ak]? = some (.cells #[.int .i64 aI, .slice aw au.length ax] 24 (0, 0))) := ⟨by (with_reducible repeat (first | refine zN ?_ _ | refine zD ?_ | refine zA ?_ _)); refine blk_put (cs := #[.int .i64 aI, .slice none 0 0]) ?_ 1 _ rfl; (with_reducible repeat (first | refine zN ?_ _ | refine zD ?_ | refine zA ?_ _)); refine blk_put (cs := #[.int .i64 0, .slice none 0 0]) ?_ 0 _ rfl; (with_reducible repeat (first | refine zN ?_ _ | refine zD ?_ | refine zA ?_ _)); exact ag.out⟩
         have aT : Aside0 (Below w.heap.size w ((b0.setCell ⟨ak, 0, none⟩ (.int .i64 aI)).setCell ⟨ak, 1, none⟩ (.slice aw au.length ax))) := ⟨zb HB⟩
         (try clear aq); (try clear ay); (try clear aF); (try clear ab); (try clear ae); (try clear ag); (try clear HB)
         generalize ((b0.setCell ⟨ak, 0, none⟩ (.int .i64 aI)).setCell ⟨ak, 1, none⟩ (.slice aw au.length ax)) = w41 at aM aN aO aP aQ aR aT ⊢
         have aq := aM; have ay := aN; have aF := aO; have ab := aP; have ae := aQ; have ag := aR; have HB := aT; clear aM aN aO aP aQ aR aT
         have aM := zK (Kd.S_drew aq.out)
         have aN := zK (Kd.S_drew ay.out)
         have aO := zK (Kd.S_drew aF.out)
         have aP := zK (zD ab.out)
         have aQ := zK (zD ae.out)
         have aR := zK (zD ag.out)
         have aT := zK (zE HB.out)
         clear aq ay aF ab ae ag HB; have aq := aM; have ay := aN; have aF := aO; have ab := aP; have ae := aQ; have ag := aR; have HB := aT; clear aM aN aO aP aQ aR aT
         refine start_ (n := 35) (S := fun w' => w'.cell? ⟨ar, 0, none⟩ = some (.int .i64 ao) ∧ w'.cell? ⟨ar, 1, none⟩ = some (.slice aC ai.length aD) ∧ w'.cell? ⟨ak, 0, none⟩ = some (.int .i64 aI) ∧ w'.cell? ⟨ak, 1, none⟩ = some (.slice aw au.length ax) ∧ w'.cell? ⟨am, 0, none⟩ = some (.int .i64 ah) ∧ w'.cell? ⟨am, 1, none⟩ = some (.slice az af.length av)) (ds := []) #[ff, ff, ff, ff, ff, ff, ff, ff, ff, ff, ff, ff, ff, ff, ff, ff, ff, ff, ff, ff, ff, ff, ff, ff, ff, ff, ff, ff, ff, ff, ff, ff, ff, ff, ff] (by kernel_rfl) rfl rfl ⟨(blk_cell ae.out 0).trans rfl, (blk_cell ae.out 1).trans rfl, (blk_cell ag.out 0).trans rfl, (blk_cell ag.out 1).trans rfl, (blk_cell ab.out 0).trans rfl, (blk_cell ab.out 1).trans rfl⟩ (fun hHeld => ?_); refine with_tabW laws_FnStorePuts.tab6 laws_FnStorePuts.bits6 (fun HT_ HW_ => ?_)
         generalize w41.drew = w42 at aq ay aF ab ae ag HB hHeld ⊢
         refine zu 0 (some 43) #[tt, ff, ff, ff, ff, ff, ff, ff, ff, ff, ff, ff, ff, ff, ff, ff, ff, ff, ff, ff, ff, ff, ff, ff, ff, ff, ff, ff, ff, ff, ff, ff, ff, ff, ff] (any_of HT_.out (by kernel_rfl)) ?_
         refine zu 1 (some 44) #[tt, tt, ff, ff, ff, ff, ff, ff, ff, ff, ff, ff, ff, ff, ff, ff, ff, ff, ff, ff, ff, ff, ff, ff, ff, ff, ff, ff, ff, ff, ff, ff, ff, ff, ff] (any_of HT_.out (by kernel_rfl)) ?_
         refine zu 2 (some 45) #[tt, tt, tt, ff, ff, ff, ff, ff, ff, ff, ff, ff, ff, ff, ff, ff, ff, ff, ff, ff, ff, ff, ff, ff, ff, ff, ff, ff, ff, ff, ff, ff, ff, ff, ff] (any_of HT_.out (by kernel_rfl)) ?_
         refine zu 3 (some 46) #[tt, tt, tt, tt, ff, ff, ff, ff, ff, ff, ff, ff, ff, ff, ff, ff, ff, ff, ff, ff, ff, ff, ff, ff, ff, ff, ff, ff, ff, ff, ff, ff, ff, ff, ff] (any_of HT_.out (by kernel_rfl)) ?_
         refine zu 4 (some 47) #[tt, tt, tt, tt, tt, ff, ff, ff, ff, ff, ff, ff, ff, ff, ff, ff, ff, ff, ff, ff, ff, ff, ff, ff, ff, ff, ff, ff, ff, ff, ff, ff, ff, ff, ff] (any_of HT_.out (by kernel_rfl)) ?_
         refine zu 5 (some 48) #[tt, tt, tt, tt, tt, tt, ff, ff, ff, ff, ff, ff, ff, ff, ff, ff, ff, ff, ff, ff, ff, ff, ff, ff, ff, ff, ff, ff, ff, ff, ff, ff, ff, ff, ff] (any_of HT_.out (by kernel_rfl)) ?_
         refine zu 6 (some 49) #[tt, tt, tt, tt, tt, tt, tt, ff, ff, ff, ff, ff, ff, ff, ff, ff, ff, ff, ff, ff, ff, ff, ff, ff, ff, ff, ff, ff, ff, ff, ff, ff, ff, ff, ff] (any_of HT_.out (by kernel_rfl)) ?_
         refine zu 7 (some 50) #[tt, tt, tt, tt, tt, tt, tt, tt, ff, ff, ff, ff, ff, ff, ff, ff, ff, ff, ff, ff, ff, ff, ff, ff, ff, ff, ff, ff, ff, ff, ff, ff, ff, ff, ff] (any_of HT_.out (by kernel_rfl)) ?_
         refine zu 8 (some 51) #[tt, tt, tt, tt, tt, tt, tt, tt, tt, ff, ff, ff, ff, ff, ff, ff, ff, ff, ff, ff, ff, ff, ff, ff, ff, ff, ff, ff, ff, ff, ff, ff, ff, ff, ff] (any_of HT_.out (by kernel_rfl)) ?_
         refine zt 9 (some 52) #[tt, tt, tt, tt, tt, tt, tt, tt, tt, tt, ff, ff, ff, ff, ff, ff, ff, ff, ff, ff, ff, ff, ff, ff, ff, ff, ff, ff, ff, ff, ff, ff, ff, ff, ff] (take_ofW HT_.out HW_.out (by kernel_rfl)) hHeld ?_
         refine zt 10 (some 53) #[tt, tt, tt, tt, tt, tt, tt, tt, tt, tt, tt, ff, ff, ff, ff, ff, ff, ff, ff, ff, ff, ff, ff, ff, ff, ff, ff, ff, ff, ff, ff, ff, ff, ff, ff] (take_ofW HT_.out HW_.out (by kernel_rfl)) hHeld ?_
         refine one_ (i := 11) (N := some 54) #[tt, tt, tt, tt, tt, tt, tt, tt, tt, tt, tt, tt, ff, ff, ff, ff, ff, ff, ff, ff, ff, ff, ff, ff, ff, ff, ff, ff, ff, ff, ff, ff, ff, ff, ff] rfl rfl (one_of HT_.out (by kernel_rfl)) (by decide) (fun K hK => ?_)
         refine goes_ Try.func33 (by kernel_rfl) rfl #[.agg #[.int .i64 ao, .slice aC ai.length aD], .agg #[.int .i64 aI, .slice aw au.length ax]] (by rfl) rfl rfl (by (try simp only [List.map_toArray, List.map_cons, List.map_nil]); first | done | rfl | (simp only [List.length_drop, List.length_take]; rfl)) ?_
         with_reducible refine (laws_sameStore.calls k ao _ _ ai aI _ _ au true _ ?side1 ?side2 ?side3 ?side4 A26.out).mono ?_
         (case side1 => repeat (first | exact (Kd.S_reads' ay.out).2.2 | (with_reducible refine Kd.C_alloc ?_ _) | (with_reducible refine Kd.C_drewN ?_ _) | (with_reducible refine Kd.C_drew ?_)))
         (case side2 => exact (Kd.S_reads' ay.out).2.1)
         (case side3 => repeat (first | exact (Kd.S_reads' aF.out).2.2 | (with_reducible refine Kd.C_alloc ?_ _) | (with_reducible refine Kd.C_drewN ?_ _) | (with_reducible refine Kd.C_drew ?_)))
         (case side4 => exact (Kd.S_reads' aF.out).2.1)
         rintro e w43 ⟨rfl, hb⟩
         refine ⟨_, rfl, ?_⟩
         have aM := zK (Kd.S_below (zT aq) hb)
         have aN := zK (Kd.S_below (zT ay) hb)
         have aO := zK (Kd.S_below (zT aF) hb)
         have aP := zK (blk_below (g := am) (o := .cells #[.int .i64 ah, .slice az af.length av] 24 (0, 0)) (zk ab) hb)
         have aQ := zK (blk_below (g := ar) (o := .cells #[.int .i64 ao, .slice aC ai.length aD] 24 (0, 0)) (zk ae) hb)
         have aR := zK (blk_below (g := ak) (o := .cells #[.int .i64 aI, .slice aw au.length ax] 24 (0, 0)) (zk ag) hb)
         have aT := zK (below_step (zb HB) hb)
         clear aq ay aF ab ae ag HB; have aq := aM; have ay := aN; have aF := aO; have ab := aP; have ae := aQ; have ag := aR; have HB := aT; clear aM aN aO aP aQ aR aT; (try clear hb); (try clear hb2); (try clear hk); (try clear hi)
         refine hK.out _ _ ⟨(blk_cell ae.out 0).trans rfl, (blk_cell ae.out 1).trans rfl, (blk_cell ag.out 0).trans rfl, (blk_cell ag.out 1).trans rfl, (blk_cell ab.out 0).trans rfl, (blk_cell ab.out 1).trans rfl⟩ (fun hHeld => ?_)
         clear hK K
         refine norm_ (a' := ?_) ?_ ?_
         rotate_left
         ·show Act.put _ (some 54) _ = _
          simp only [Act.put, zp, zq, zr, i64_w, i32_w]
          rfl
         refine zu 12 (some 55) #[tt, tt, tt, tt, tt, tt, tt, tt, tt, tt, tt, tt, tt, ff, ff, ff, ff, ff, ff, ff, ff, ff, ff, ff, ff, ff, ff, ff, ff, ff, ff, ff, ff, ff, ff] (any_of HT_.out (by kernel_rfl)) ?_
         refine zu 13 (some 56) #[tt, tt, tt, tt, tt, tt, tt, tt, tt, tt, tt, tt, tt, tt, ff, ff, ff, ff, ff, ff, ff, ff, ff, ff, ff, ff, ff, ff, ff, ff, ff, ff, ff, ff, ff] (any_of HT_.out (by kernel_rfl)) ?_
         refine zu 14 (some 57) #[tt, tt, tt, tt, tt, tt, tt, tt, tt, tt, tt, tt, tt, tt, tt, ff, ff, ff, ff, ff, ff, ff, ff, ff, ff, ff, ff, ff, ff, ff, ff, ff, ff, ff, ff] (any_of HT_.out (by kernel_rfl)) ?_
         refine zu 15 (some 58) #[tt, tt, tt, tt, tt, tt, tt, tt, tt, tt, tt, tt, tt, tt, tt, tt, ff, ff, ff, ff, ff, ff, ff, ff, ff, ff, ff, ff, ff, ff, ff, ff, ff, ff, ff] (any_of HT_.out (by kernel_rfl)) ?_
         refine zu 16 (some 59) #[tt, tt, tt, tt, tt, tt, tt, tt, tt, tt, tt, tt, tt, tt, tt, tt, tt, ff, ff, ff, ff, ff, ff, ff, ff, ff, ff, ff, ff, ff, ff, ff, ff, ff, ff] (any_of HT_.out (by kernel_rfl)) ?_
         refine zu 17 (some 60) #[tt, tt, tt, tt, tt, tt, tt, tt, tt, tt, tt, tt, tt, tt, tt, tt, tt, tt, ff, ff, ff, ff, ff, ff, ff, ff, ff, ff, ff, ff, ff, ff, ff, ff, ff] (any_of HT_.out (by kernel_rfl)) ?_
         refine zt 18 (some 61) #[tt, tt, tt, tt, tt, tt, tt, tt, tt, tt, tt, tt, tt, tt, tt, tt, tt, tt, tt, ff, ff, ff, ff, ff, ff, ff, ff, ff, ff, ff, ff, ff, ff, ff, ff] (take_ofW HT_.out HW_.out (by kernel_rfl)) hHeld ?_
         refine zt 19 (some 62) #[tt, tt, tt, tt, tt, tt, tt, tt, tt, tt, tt, tt, tt, tt, tt, tt, tt, tt, tt, tt, ff, ff, ff, ff, ff, ff, ff, ff, ff, ff, ff, ff, ff, ff, ff] (take_ofW HT_.out HW_.out (by kernel_rfl)) hHeld ?_
         refine one_ (i := 20) (N := some 63) #[tt, tt, tt, tt, tt, tt, tt, tt, tt, tt, tt, tt, tt, tt, tt, tt, tt, tt, tt, tt, tt, ff, ff, ff, ff, ff, ff, ff, ff, ff, ff, ff, ff, ff, ff] rfl rfl (one_of HT_.out (by kernel_rfl)) (by decide) (fun K hK => ?_)
         refine goes_ Try.func33 (by kernel_rfl) rfl #[.agg #[.int .i64 ao, .slice aC ai.length aD], .agg #[.int .i64 ah, .slice az af.length av]] (by rfl) rfl rfl (by (try simp only [List.map_toArray, List.map_cons, List.map_nil]); first | done | rfl | (simp only [List.length_drop, List.length_take]; rfl)) ?_
         with_reducible refine (laws_sameStore.calls k ao _ _ ai ah _ _ af true _ ?side1 ?side2 ?side3 ?side4 A36.out).mono ?_
         (case side1 => repeat (first | exact (Kd.S_reads' ay.out).2.2 | (with_reducible refine Kd.C_alloc ?_ _) | (with_reducible refine Kd.C_drewN ?_ _) | (with_reducible refine Kd.C_drew ?_)))
         (case side2 => exact (Kd.S_reads' ay.out).2.1)
         (case side3 => repeat (first | exact (Kd.S_reads' aq.out).2.2 | (with_reducible refine Kd.C_alloc ?_ _) | (with_reducible refine Kd.C_drewN ?_ _) | (with_reducible refine Kd.C_drew ?_)))
         (case side4 => exact (Kd.S_reads' aq.out).2.1)
         rintro e w44 ⟨rfl, hb⟩
         refine ⟨_, rfl, ?_⟩
         have aM := zK (Kd.S_below (zT aq) hb)
         have aN := zK (Kd.S_below (zT ay) hb)
         have aO := zK (Kd.S_below (zT aF) hb)
         have aP := zK (blk_below (g := am) (o := .cells #[.int .i64 ah, .slice az af.length av] 24 (0, 0)) (zk ab) hb)
         have aQ := zK (blk_below (g := ar) (o := .cells #[.int .i64 ao, .slice aC ai.length aD] 24 (0, 0)) (zk ae) hb)
         have aR := zK (blk_below (g := ak) (o := .cells #[.int .i64 aI, .slice aw au.length ax] 24 (0, 0)) (zk ag) hb)
         have aT := zK (below_step (zb HB) hb)
         clear aq ay aF ab ae ag HB; have aq := aM; have ay := aN; have aF := aO; have ab := aP; have ae := aQ; have ag := aR; have HB := aT; clear aM aN aO aP aQ aR aT; (try clear hb); (try clear hb2); (try clear hk); (try clear hi)
         refine hK.out _ _ ⟨(blk_cell ae.out 0).trans rfl, (blk_cell ae.out 1).trans rfl, (blk_cell ag.out 0).trans rfl, (blk_cell ag.out 1).trans rfl, (blk_cell ab.out 0).trans rfl, (blk_cell ab.out 1).trans rfl⟩ (fun hHeld => ?_)
         clear hK K
         refine norm_ (a' := ?_) ?_ ?_
         rotate_left
         ·show Act.put _ (some 63) _ = _
          simp only [Act.put, zp, zq, zr, i64_w, i32_w]
          rfl
         refine zu 21 (some 64) #[tt, tt, tt, tt, tt, tt, tt, tt, tt, tt, tt, tt, tt, tt, tt, tt, tt, tt, tt, tt, tt, tt, ff, ff, ff, ff, ff, ff, ff, ff, ff, ff, ff, ff, ff] (any_of HT_.out (by kernel_rfl)) ?_
         refine zu 22 (some 65) #[tt, tt, tt, tt, tt, tt, tt, tt, tt, tt, tt, tt, tt, tt, tt, tt, tt, tt, tt, tt, tt, tt, tt, ff, ff, ff, ff, ff, ff, ff, ff, ff, ff, ff, ff] (any_of HT_.out (by kernel_rfl)) ?_
         refine zu 23 (some 66) #[tt, tt, tt, tt, tt, tt, tt, tt, tt, tt, tt, tt, tt, tt, tt, tt, tt, tt, tt, tt, tt, tt, tt, tt, ff, ff, ff, ff, ff, ff, ff, ff, ff, ff, ff] (any_of HT_.out (by kernel_rfl)) ?_
         refine zu 24 (some 67) #[tt, tt, tt, tt, tt, tt, tt, tt, tt, tt, tt, tt, tt, tt, tt, tt, tt, tt, tt, tt, tt, tt, tt, tt, tt, ff, ff, ff, ff, ff, ff, ff, ff, ff, ff] (any_of HT_.out (by kernel_rfl)) ?_
         refine zu 25 (some 68) #[tt, tt, tt, tt, tt, tt, tt, tt, tt, tt, tt, tt, tt, tt, tt, tt, tt, tt, tt, tt, tt, tt, tt, tt, tt, tt, ff, ff, ff, ff, ff, ff, ff, ff, ff] (any_of HT_.out (by kernel_rfl)) ?_
         refine zu 26 (some 69) #[tt, tt, tt, tt, tt, tt, tt, tt, tt, tt, tt, tt, tt, tt, tt, tt, tt, tt, tt, tt, tt, tt, tt, tt, tt, tt, tt, ff, ff, ff, ff, ff, ff, ff, ff] (any_of HT_.out (by kernel_rfl)) ?_
         refine zu 27 (some 70) #[tt, tt, tt, tt, tt, tt, tt, tt, tt, tt, tt, tt, tt, tt, tt, tt, tt, tt, tt, tt, tt, tt, tt, tt, tt, tt, tt, tt, ff, ff, ff, ff, ff, ff, ff] (any_of HT_.out (by kernel_rfl)) ?_
         refine zu 28 (some 71) #[tt, tt, tt, tt, tt, tt, tt, tt, tt, tt, tt, tt, tt, tt, tt, tt, tt, tt, tt, tt, tt, tt, tt, tt, tt, tt, tt, tt, tt, ff, ff, ff, ff, ff, ff] (any_of HT_.out (by kernel_rfl)) ?_
         refine zt 29 (some 72) #[tt, tt, tt, tt, tt, tt, tt, tt, tt, tt, tt, tt, tt, tt, tt, tt, tt, tt, tt, tt, tt, tt, tt, tt, tt, tt, tt, tt, tt, tt, ff, ff, ff, ff, ff] (take_ofW HT_.out HW_.out (by kernel_rfl)) hHeld ?_
         refine zt 31 (some 74) #[tt, tt, tt, tt, tt, tt, tt, tt, tt, tt, tt, tt, tt, tt, tt, tt, tt, tt, tt, tt, tt, tt, tt, tt, tt, tt, tt, tt, tt, tt, ff, tt, ff, ff, ff] (take_ofW HT_.out HW_.out (by kernel_rfl)) hHeld ?_
         refine one_ (i := 30) (N := some 73) #[tt, tt, tt, tt, tt, tt, tt, tt, tt, tt, tt, tt, tt, tt, tt, tt, tt, tt, tt, tt, tt, tt, tt, tt, tt, tt, tt, tt, tt, tt, tt, tt, ff, ff, ff] rfl rfl (one_of HT_.out (by kernel_rfl)) (by decide) (fun K hK => ?_)
         refine goes_ Try.func22 (by kernel_rfl) rfl #[.agg #[.int .i64 ah, .slice az af.length av]] (by rfl) rfl rfl (by (try simp only [List.map_toArray, List.map_cons, List.map_nil]); first | done | rfl | (simp only [List.length_drop, List.length_take]; rfl)) ?_
         with_reducible refine (impl_StoreOk.calls k ah _ _ af bh _ ?side1 ?side2 A39.out).mono ?_
         (case side1 => repeat (first | exact (Kd.S_reads' aq.out).2.2 | (with_reducible refine Kd.C_alloc ?_ _) | (with_reducible refine Kd.C_drewN ?_ _) | (with_reducible refine Kd.C_drew ?_)))
         (case side2 => exact (Kd.S_reads' aq.out).2.1)
         rintro e w45 ⟨rfl, hb⟩
         refine ⟨_, rfl, ?_⟩
         have aM := zK (Kd.S_below (zT aq) hb)
         have aN := zK (Kd.S_below (zT ay) hb)
         have aO := zK (Kd.S_below (zT aF) hb)
         have aP := zK (blk_below (g := am) (o := .cells #[.int .i64 ah, .slice az af.length av] 24 (0, 0)) (zk ab) hb)
         have aQ := zK (blk_below (g := ar) (o := .cells #[.int .i64 ao, .slice aC ai.length aD] 24 (0, 0)) (zk ae) hb)
         have aR := zK (blk_below (g := ak) (o := .cells #[.int .i64 aI, .slice aw au.length ax] 24 (0, 0)) (zk ag) hb)
         have aT := zK (below_step (zb HB) hb)
         clear aq ay aF ab ae ag HB; have aq := aM; have ay := aN; have aF := aO; have ab := aP; have ae := aQ; have ag := aR; have HB := aT; clear aM aN aO aP aQ aR aT; (try clear hb); (try clear hb2); (try clear hk); (try clear hi)
         refine hK.out _ _ ⟨(blk_cell ae.out 0).trans rfl, (blk_cell ae.out 1).trans rfl, (blk_cell ag.out 0).trans rfl, (blk_cell ag.out 1).trans rfl, (blk_cell ab.out 0).trans rfl, (blk_cell ab.out 1).trans rfl⟩ (fun hHeld => ?_)
         clear hK K
         refine norm_ (a' := ?_) ?_ ?_
         rotate_left
         ·show Act.put _ (some 73) _ = _
          simp only [Act.put, zp, zq, zr, i64_w, i32_w]
          rfl
         refine one_ (i := 32) (N := some 75) #[tt, tt, tt, tt, tt, tt, tt, tt, tt, tt, tt, tt, tt, tt, tt, tt, tt, tt, tt, tt, tt, tt, tt, tt, tt, tt, tt, tt, tt, tt, tt, tt, tt, ff, ff] rfl rfl (one_of HT_.out (by kernel_rfl)) (by decide) (fun K hK => ?_)
         refine goes_ Try.func15 (by kernel_rfl) rfl #[.agg #[.int .i64 ah, .slice az af.length av]] (by rfl) rfl rfl (by (try simp only [List.map_toArray, List.map_cons, List.map_nil]); first | done | rfl | (simp only [List.length_drop, List.length_take]; rfl)) ?_
         with_reducible refine (spec_StoreOk.calls k ah _ _ af bd _ ?side1 ?side2 A40.out).mono ?_
         (case side1 => repeat (first | exact (Kd.S_reads' aq.out).2.2 | (with_reducible refine Kd.C_alloc ?_ _) | (with_reducible refine Kd.C_drewN ?_ _) | (with_reducible refine Kd.C_drew ?_)))
         (case side2 => exact (Kd.S_reads' aq.out).2.1)
         rintro e w46 ⟨rfl, hb⟩
         refine ⟨_, rfl, ?_⟩
         have aM := zK (Kd.S_below (zT aq) hb)
         have aN := zK (Kd.S_below (zT ay) hb)
         have aO := zK (Kd.S_below (zT aF) hb)
         have aP := zK (blk_below (g := am) (o := .cells #[.int .i64 ah, .slice az af.length av] 24 (0, 0)) (zk ab) hb)
         have aQ := zK (blk_below (g := ar) (o := .cells #[.int .i64 ao, .slice aC ai.length aD] 24 (0, 0)) (zk ae) hb)
         have aR := zK (blk_below (g := ak) (o := .cells #[.int .i64 aI, .slice aw au.length ax] 24 (0, 0)) (zk ag) hb)
         have aT := zK (below_step (zb HB) hb)
         clear aq ay aF ab ae ag HB; have aq := aM; have ay := aN; have aF := aO; have ab := aP; have ae := aQ; have ag := aR; have HB := aT; clear aM aN aO aP aQ aR aT; (try clear hb); (try clear hb2); (try clear hk); (try clear hi)
         refine hK.out _ _ ⟨(blk_cell ae.out 0).trans rfl, (blk_cell ae.out 1).trans rfl, (blk_cell ag.out 0).trans rfl, (blk_cell ag.out 1).trans rfl, (blk_cell ab.out 0).trans rfl, (blk_cell ab.out 1).trans rfl⟩ (fun hHeld => ?_)
         clear hK K
         refine norm_ (a' := ?_) ?_ ?_
         rotate_left
         ·show Act.put _ (some 75) _ = _
          simp only [Act.put, zp, zq, zr, i64_w, i32_w]
          rfl
         refine zu 33 (some 76) #[tt, tt, tt, tt, tt, tt, tt, tt, tt, tt, tt, tt, tt, tt, tt, tt, tt, tt, tt, tt, tt, tt, tt, tt, tt, tt, tt, tt, tt, tt, tt, tt, tt, tt, ff] (any_of HT_.out (by kernel_rfl)) ?_
         refine zu 34 (some 77) #[tt, tt, tt, tt, tt, tt, tt, tt, tt, tt, tt, tt, tt, tt, tt, tt, tt, tt, tt, tt, tt, tt, tt, tt, tt, tt, tt, tt, tt, tt, tt, tt, tt, tt, tt] (any_of HT_.out (by kernel_rfl)) ?_
         refine done_ (done_of HT_.out (by kernel_rfl)) ?_
         try go_wp2
         go_meet
         case rel => exact ⟨_, ((bh != bd)), (by first | rfl | (simp; done) | (simp [*]; done)), H', ⟨by first | omega | exact Nat.le_refl _⟩, ⟨zT aq⟩, ⟨zT ay⟩, ⟨zT aF⟩, ⟨zk ab⟩, ⟨zk ae⟩, ⟨zk ag⟩, ⟨zb HB⟩⟩
        ·rw [if_neg cE] at H
         have ch : (bp == (-1)) = false := beq_eq_false_iff_ne.mpr cE
         have ci : (bp != (-1)) = true := bne_iff_ne.mpr cE
         exact absurd (H.trans (congrArg some hrt.out)) (by cases k <;> simp [laws_FnStorePuts.j0])
       ·replace dg := Bool.eq_false_iff.mpr dg
        subst dg
        have H1 : (laws_FnStorePuts.j0 k l0 aG false true ah af ao ai) = some r := by rw [if_neg (show ¬ (false = true) by decide)] at H; exact H
        clear H; have H := H1; clear H1
        exact absurd (H.trans (congrArg some hrt.out)) (by cases k <;> simp [laws_FnStorePuts.j0])
     ·replace de := Bool.eq_false_iff.mpr de
      subst de
      have H1 : (laws_FnStorePuts.j0 k l0 aG aU true ah af ao ai) = some r := by rw [if_neg (show ¬ (false = true) by decide)] at H; exact H
      clear H; have H := H1; clear H1
      exact absurd (H.trans (congrArg some hrt.out)) (by cases k <;> simp [laws_FnStorePuts.j0])
    ·rw [if_neg cD] at H
     have cf : (bp == b6) = false := beq_eq_false_iff_ne.mpr cD
     have cg : (bp != b6) = true := bne_iff_ne.mpr cD
     exact absurd (H.trans (congrArg some hrt.out)) (by cases k <;> simp [laws_FnStorePuts.j0])
  case rest =>
   clear HC7
   try clear c1
   try clear c2
   try clear p2
   try clear c3
   try clear c15
   try clear c22
   try clear cD
   try clear cf
   try clear cg
   try clear de
   try clear df
   try clear c33
   try clear dg
   try clear cE
   try clear ch
   try clear ci
   obtain ⟨kq, ce, rfl, HA, cF, aa, ac, ad, ab, ae, ag, HB⟩ := hcut
   cases kq with
   | zero => exact absurd HA.out (by simp [laws_FnStorePuts.j0])
   | succ kj6 =>
    have H := HA.out; clear HA
    simp only [laws_FnStorePuts.j0] at H
    by_cases dr : ce = true
    ·subst dr
     have H1 : (some false) = some r := by rw [if_pos rfl] at H; exact H
     clear H; have H := H1; clear H1
     exact absurd (H.trans (congrArg some hrt.out)) (by simp)
    ·replace dr := Bool.eq_false_iff.mpr dr
     subst dr
     have H1 : ((spec_DrawLaneFor.f kj6 l0).bind fun bt758 => ((impl_LaneFor.f kj6 bt758.1 bt758.2.1 bt758.2.2.1 bt758.2.2.2).bind fun bD => ((spec_LaneFor.f kj6 bt758.1 bt758.2.1 bt758.2.2.1 bt758.2.2.2).bind fun bz => (if bD = bz then (if aU = true then (laws_FnStorePuts.l0 kj6 aG false 0 ah af ao ai) else (some true)) else (some false))))) = some r := by rw [if_neg (show ¬ (false = true) by decide)] at H; exact H
     clear H; have H := H1; clear H1; replace H := Option.bind_eq_some_iff.mp H
     obtain ⟨⟨aL, aB, bE, bF⟩, dG, H⟩ := H
     replace H : ((impl_LaneFor.f kj6 aL aB bE bF).bind fun bD => ((spec_LaneFor.f kj6 aL aB bE bF).bind fun bz => (if bD = bz then (if aU = true then (laws_FnStorePuts.l0 kj6 aG false 0 ah af ao ai) else (some true)) else (some false)))) = some r := H
     have A48 := zK dG; clear dG; replace H := Option.bind_eq_some_iff.mp H
     obtain ⟨bD, dH, H⟩ := H
     replace H : ((spec_LaneFor.f kj6 aL aB bE bF).bind fun bz => (if bD = bz then (if aU = true then (laws_FnStorePuts.l0 kj6 aG false 0 ah af ao ai) else (some true)) else (some false))) = some r := H
     have A49 := zK dH; clear dH; replace H := Option.bind_eq_some_iff.mp H
     obtain ⟨bz, dI, H⟩ := H
     replace H : (if bD = bz then (if aU = true then (laws_FnStorePuts.l0 kj6 aG false 0 ah af ao ai) else (some true)) else (some false)) = some r := H
     have dx := zK dI; clear dI
     by_cases cI : bD = bz
     ·rw [if_pos cI] at H
      have cv : (bD == bz) = true := beq_iff_eq.mpr cI
      have cw : (bD != bz) = false := bne_eq_false_iff_eq.mpr cI
      clear cI
      by_cases dt : aU = true
      ·subst dt
       have H1 : (laws_FnStorePuts.l0 kj6 aG false 0 ah af ao ai) = some r := by rw [if_pos rfl] at H; exact H
       clear H; have H := H1; clear H1; have H' := zK H; clear H
       try go_wp2_with (first | ((with_reducible refine gate_callee (f := 34) rfl ?_); refine goesL_ (some 80) rfl rfl Try.func34 (by kernel_rfl) rfl #[.slice A0 l0.length c0] rfl (by (try simp only [List.map_toArray, List.map_cons, List.map_nil]); first | done | rfl | (simp only [List.length_drop, List.length_take]; rfl)) ?_; (with_reducible refine (spec_DrawLaneFor.calls kj6 _ _ l0 aL aB bE bF _ ?side1 ?side2 A48.out).mono ?_); (case side1 => repeat (first | exact (Kd.C_below dv.out HB.out) | (with_reducible refine Kd.C_alloc ?_ _) | (with_reducible refine Kd.C_drewN ?_ _) | (with_reducible refine Kd.C_drew ?_))); (case side2 => exact dw.out); rintro e w53 ⟨v760, rfl, ho0, hb⟩; refine ⟨_, rfl, ?_⟩; have aM := zK (Kd.S_elder' (zT aa) (Kd.S_base ho0) hb); have aN := zK (Kd.S_elder' (zT ac) (Kd.S_base ho0) hb); have aO := zK (Kd.S_elder' (zT ad) (Kd.S_base ho0) hb); have aP := zK (Kd.S_lower (Kd.S_new' (Kd.S_new' (Kd.S_new' ho0 (Kd.S_lt (zT aa))) (Kd.S_lt (zT ac))) (Kd.S_lt (zT ad))) (below_size (zb HB))); have aQ := zK (blk_below (g := am) (o := .cells #[.int .i64 ah, .slice az af.length av] 24 (0, 0)) (zk ab) hb); have aR := zK (blk_below (g := ar) (o := .cells #[.int .i64 ao, .slice aC ai.length aD] 24 (0, 0)) (zk ae) hb); have aT := zK (blk_below (g := ak) (o := .cells #[.int .i64 aI, .slice aw au.length ax] 24 (0, 0)) (zk ag) hb); have a3 := zK (below_step (zb HB) hb); clear aa; clear ac; clear ad; clear ab; clear ae; clear ag; clear HB; have aa := aM; have ac := aN; have ad := aO; have aH := aP; have ab := aQ; have ae := aR; have ag := aT; have HB := a3; clear aM aN aO aP aQ aR aT a3; (try clear hb); (try clear ho0)) | ((with_reducible refine gate_dst (N := 12) rfl ?_); refine box_event ?hg (N := 12) ?hd (cs := #[.int .i64 0, .slice none 0 0]) (t := 24) ?hr ?_; (case hd => rfl); (case hg => rfl); (case hr => first | (go_simp; done) | (go_simp; rfl)); intro aj hg ct hbox hb; have aM := zK (Kd.S_below (zT aa) hb); have aN := zK (Kd.S_below (zT ac) hb); have aO := zK (Kd.S_below (zT ad) hb); have aP := zK (Kd.S_below (zT aH) hb); have aQ := zK (blk_below (g := am) (o := .cells #[.int .i64 ah, .slice az af.length av] 24 (0, 0)) (zk ab) hb); have aR := zK (blk_below (g := ar) (o := .cells #[.int .i64 ao, .slice aC ai.length aD] 24 (0, 0)) (zk ae) hb); have aT := zK (blk_below (g := ak) (o := .cells #[.int .i64 aI, .slice aw au.length ax] 24 (0, 0)) (zk ag) hb); have a3 := zK (below_step (zb HB) hb); have a7 := zK (hbox); have cW := zK ((by rw [hg]; exact (below_size (zb HB)) : w.heap.size ≤ aj)); have b2 := zK ((by rw [hg]; exact (below_size (zb HB)) : w.heap.size ≤ aj)); have b3 := zK ((by rw [hg]; exact Nat.ne_of_lt (blk_lt (g := am) (o := .cells #[.int .i64 ah, .slice az af.length av] 24 (0, 0)) (zk ab)) : am ≠ aj)); have b4 := zK ((by rw [hg]; exact Nat.ne_of_gt (blk_lt (g := am) (o := .cells #[.int .i64 ah, .slice az af.length av] 24 (0, 0)) (zk ab)) : aj ≠ am)); have cx := zK ((by rw [hg]; exact Nat.ne_of_lt (blk_lt (g := ar) (o := .cells #[.int .i64 ao, .slice aC ai.length aD] 24 (0, 0)) (zk ae)) : ar ≠ aj)); have cy := zK ((by rw [hg]; exact Nat.ne_of_gt (blk_lt (g := ar) (o := .cells #[.int .i64 ao, .slice aC ai.length aD] 24 (0, 0)) (zk ae)) : aj ≠ ar)); have cz := zK ((by rw [hg]; exact Nat.ne_of_lt (blk_lt (g := ak) (o := .cells #[.int .i64 aI, .slice aw au.length ax] 24 (0, 0)) (zk ag)) : ak ≠ aj)); have cA := zK ((by rw [hg]; exact Nat.ne_of_gt (blk_lt (g := ak) (o := .cells #[.int .i64 aI, .slice aw au.length ax] 24 (0, 0)) (zk ag)) : aj ≠ ak)); clear aa; clear ac; clear ad; clear aH; clear ab; clear ae; clear ag; clear HB; have aa := aM; have ac := aN; have ad := aO; have aH := aP; have ab := aQ; have ae := aR; have ag := aT; have HB := a3; have al := a7; have dJ := cW; have a4 := b2; have aS := b3; have a0 := b4; have be := cx; have bG := cy; have bf := cz; have bH := cA; clear aM aN aO aP aQ aR aT a3 a7 cW b2 b3 b4 cx cy cz cA; clear hb hbox hg; have hnb55 := a0.out; have hnc55 := aS.out; have hnb56 := bG.out; have hnc56 := be.out; have hnb57 := bH.out; have hnc57 := bf.out; have cj : ct.cell? ⟨aj, 0, none⟩ = some (.int .i64 0) := (blk_cell al.out 0).trans rfl; have ck : ct.cell? ⟨aj, 1, none⟩ = some (.slice none 0 0) := (blk_cell al.out 1).trans rfl; have cl := blk_frozen al.out 0; have cm := blk_frozen al.out 1; obtain ⟨aW, aX, eo59⟩ := Kd.S_slice aH.out; subst eo59))
       have aM : Aside0 (Kd.S (Kd.slice 30 k30) 28 ((ct.setCell ⟨aj, 0, none⟩ (.int .i64 aL)).setCell ⟨aj, 1, none⟩ (.slice aW aB.length aX)) w.heap.size (fun k_ => some k_ ≠ (.slice aC ai.length aD : Value).ownBlock ∧ some k_ ≠ (.slice aw au.length ax : Value).ownBlock ∧ some k_ ≠ (.slice aW aB.length aX : Value).ownBlock) (.slice az af.length av) af) := ⟨by (with_reducible repeat (first | apply Kd.S_alloc | apply Kd.S_drewN | apply Kd.S_drew)); exact Kd.S_mono (Kd.S_far (p := ⟨aj, 1, none⟩) (Kd.S_far (p := ⟨aj, 0, none⟩) (Kd.S_types aa.out al.out (by decide)) (fun _ hk => hk.2) (.int .i64 aL)) (fun _ hk => hk.2) (.slice aW aB.length aX)) (fun _ hk => ⟨hk.1.1.1, ⟨hk.1.1.2, hk.1.2⟩⟩)⟩
       have aN : Aside0 (Kd.S (Kd.slice 30 k30) 28 ((ct.setCell ⟨aj, 0, none⟩ (.int .i64 aL)).setCell ⟨aj, 1, none⟩ (.slice aW aB.length aX)) w.heap.size (fun k_ => some k_ ≠ (.slice az af.length av : Value).ownBlock ∧ some k_ ≠ (.slice aw au.length ax : Value).ownBlock ∧ some k_ ≠ (.slice aW aB.length aX : Value).ownBlock) (.slice aC ai.length aD) ai) := ⟨by (with_reducible repeat (first | apply Kd.S_alloc | apply Kd.S_drewN | apply Kd.S_drew)); exact Kd.S_mono (Kd.S_far (p := ⟨aj, 1, none⟩) (Kd.S_far (p := ⟨aj, 0, none⟩) (Kd.S_types ac.out al.out (by decide)) (fun _ hk => hk.2) (.int .i64 aL)) (fun _ hk => hk.2) (.slice aW aB.length aX)) (fun _ hk => ⟨hk.1.1.1, ⟨hk.1.1.2, hk.1.2⟩⟩)⟩
       have aO : Aside0 (Kd.S (Kd.slice 30 k30) 28 ((ct.setCell ⟨aj, 0, none⟩ (.int .i64 aL)).setCell ⟨aj, 1, none⟩ (.slice aW aB.length aX)) w.heap.size (fun k_ => some k_ ≠ (.slice az af.length av : Value).ownBlock ∧ some k_ ≠ (.slice aC ai.length aD : Value).ownBlock ∧ some k_ ≠ (.slice aW aB.length aX : Value).ownBlock) (.slice aw au.length ax) au) := ⟨by (with_reducible repeat (first | apply Kd.S_alloc | apply Kd.S_drewN | apply Kd.S_drew)); exact Kd.S_mono (Kd.S_far (p := ⟨aj, 1, none⟩) (Kd.S_far (p := ⟨aj, 0, none⟩) (Kd.S_types ad.out al.out (by decide)) (fun _ hk => hk.2) (.int .i64 aL)) (fun _ hk => hk.2) (.slice aW aB.length aX)) (fun _ hk => ⟨hk.1.1.1, ⟨hk.1.1.2, hk.1.2⟩⟩)⟩
       have aP : Aside0 (Kd.S (Kd.slice 30 k30) 28 ((ct.setCell ⟨aj, 0, none⟩ (.int .i64 aL)).setCell ⟨aj, 1, none⟩ (.slice aW aB.length aX)) w.heap.size (fun k_ => some k_ ≠ (.slice az af.length av : Value).ownBlock ∧ some k_ ≠ (.slice aC ai.length aD : Value).ownBlock ∧ some k_ ≠ (.slice aw au.length ax : Value).ownBlock) (.slice aW aB.length aX) aB) := ⟨by (with_reducible repeat (first | apply Kd.S_alloc | apply Kd.S_drewN | apply Kd.S_drew)); exact Kd.S_mono (Kd.S_far (p := ⟨aj, 1, none⟩) (Kd.S_far (p := ⟨aj, 0, none⟩) (Kd.S_types aH.out al.out (by decide)) (fun _ hk => hk.2) (.int .i64 aL)) (fun _ hk => hk.2) (.slice aW aB.length aX)) (fun _ hk => ⟨hk.1.1.1.2, ⟨hk.1.1.2, hk.1.2⟩⟩)⟩
       have aQ : Aside0 (((ct.setCell ⟨aj, 0, none⟩ (.int .i64 aL)).setCell ⟨aj, 1, none⟩ (.slice aW aB.length aX)).heap[am]? = some (.cells #[.int .i64 ah, .slice az af.length av] 24 (0, 0))) := ⟨by (with_reducible repeat (first | refine zN ?_ _ | refine zD ?_ | refine zA ?_ _)); refine blk_far ?_ aS.out _; (with_reducible repeat (first | refine zN ?_ _ | refine zD ?_ | refine zA ?_ _)); refine blk_far ?_ aS.out _; (with_reducible repeat (first | refine zN ?_ _ | refine zD ?_ | refine zA ?_ _)); exact ab.out⟩
       have aR : Aside0 (((ct.setCell ⟨aj, 0, none⟩ (.int .i64 aL)).setCell ⟨aj, 1, none⟩ (.slice aW aB.length aX)).heap[ar]? = some (.cells #[.int .i64 ao, .slice aC ai.length aD] 24 (0, 0))) := ⟨by (with_reducible repeat (first | refine zN ?_ _ | refine zD ?_ | refine zA ?_ _)); refine blk_far ?_ be.out _; (with_reducible repeat (first | refine zN ?_ _ | refine zD ?_ | refine zA ?_ _)); refine blk_far ?_ be.out _; (with_reducible repeat (first | refine zN ?_ _ | refine zD ?_ | refine zA ?_ _)); exact ae.out⟩
       have aT : Aside0 (((ct.setCell ⟨aj, 0, none⟩ (.int .i64 aL)).setCell ⟨aj, 1, none⟩ (.slice aW aB.length aX)).heap[ak]? = some (.cells #[.int .i64 aI, .slice aw au.length ax] 24 (0, 0))) := ⟨by (with_reducible repeat (first | refine zN ?_ _ | refine zD ?_ | refine zA ?_ _)); refine blk_far ?_ bf.out _; (with_reducible repeat (first | refine zN ?_ _ | refine zD ?_ | refine zA ?_ _)); refine blk_far ?_ bf.out _; (with_reducible repeat (first | refine zN ?_ _ | refine zD ?_ | refine zA ?_ _)); exact ag.out⟩
       have a3 : Aside0 (((ct.setCell ⟨aj, 0, none⟩ (.int .i64 aL)).setCell ⟨aj, 1, none⟩ (.slice aW aB.length aX)).heap[aj]? = some (.cells #[.int .i64 aL, .slice aW aB.length aX] 24 (0, 0))) := ⟨by (with_reducible repeat (first | refine zN ?_ _ | refine zD ?_ | refine zA ?_ _)); refine blk_put (cs := #[.int .i64 aL, .slice none 0 0]) ?_ 1 _ rfl; (with_reducible repeat (first | refine zN ?_ _ | refine zD ?_ | refine zA ?_ _)); refine blk_put (cs := #[.int .i64 0, .slice none 0 0]) ?_ 0 _ rfl; (with_reducible repeat (first | refine zN ?_ _ | refine zD ?_ | refine zA ?_ _)); exact al.out⟩
       have a7 : Aside0 (Below w.heap.size w ((ct.setCell ⟨aj, 0, none⟩ (.int .i64 aL)).setCell ⟨aj, 1, none⟩ (.slice aW aB.length aX))) := ⟨zb HB⟩
       (try clear aa); (try clear ac); (try clear ad); (try clear aH); (try clear ab); (try clear ae); (try clear ag); (try clear al); (try clear HB)
       generalize ((ct.setCell ⟨aj, 0, none⟩ (.int .i64 aL)).setCell ⟨aj, 1, none⟩ (.slice aW aB.length aX)) = w60 at aM aN aO aP aQ aR aT a3 a7 ⊢
       have aa := aM; have ac := aN; have ad := aO; have aH := aP; have ab := aQ; have ae := aR; have ag := aT; have al := a3; have HB := a7; clear aM aN aO aP aQ aR aT a3 a7
       have aM := zK (Kd.S_drew aa.out)
       have aN := zK (Kd.S_drew ac.out)
       have aO := zK (Kd.S_drew ad.out)
       have aP := zK (Kd.S_drew aH.out)
       have aQ := zK (zD ab.out)
       have aR := zK (zD ae.out)
       have aT := zK (zD ag.out)
       have a3 := zK (zD al.out)
       have a7 := zK (zE HB.out)
       clear aa ac ad aH ab ae ag al HB; have aa := aM; have ac := aN; have ad := aO; have aH := aP; have ab := aQ; have ae := aR; have ag := aT; have al := a3; have HB := a7; clear aM aN aO aP aQ aR aT a3 a7
       refine start_ (n := 9) (S := fun w' => w'.cell? ⟨aj, 0, none⟩ = some (.int .i64 aL) ∧ w'.cell? ⟨aj, 1, none⟩ = some (.slice aW aB.length aX)) (ds := []) #[ff, ff, ff, ff, ff, ff, ff, ff, ff] (by kernel_rfl) rfl rfl ⟨(blk_cell al.out 0).trans rfl, (blk_cell al.out 1).trans rfl⟩ (fun hHeld => ?_); refine with_tabW laws_FnStorePuts.tab9 laws_FnStorePuts.bits9 (fun HT_ HW_ => ?_)
       generalize w60.drew = w61 at aa ac ad aH ab ae ag al HB hHeld ⊢
       refine zu 1 (some 85) #[ff, tt, ff, ff, ff, ff, ff, ff, ff] (any_of HT_.out (by kernel_rfl)) ?_
       refine zu 2 (some 86) #[ff, tt, tt, ff, ff, ff, ff, ff, ff] (any_of HT_.out (by kernel_rfl)) ?_
       refine zu 5 (some 89) #[ff, tt, tt, ff, ff, tt, ff, ff, ff] (any_of HT_.out (by kernel_rfl)) ?_
       refine zu 6 (some 90) #[ff, tt, tt, ff, ff, tt, tt, ff, ff] (any_of HT_.out (by kernel_rfl)) ?_
       refine zt 0 (some 84) #[tt, tt, tt, ff, ff, tt, tt, ff, ff] (take_ofW HT_.out HW_.out (by kernel_rfl)) hHeld ?_
       refine zt 4 (some 88) #[tt, tt, tt, ff, tt, tt, tt, ff, ff] (take_ofW HT_.out HW_.out (by kernel_rfl)) hHeld ?_
       refine one_ (i := 3) (N := some 87) #[tt, tt, tt, tt, tt, tt, tt, ff, ff] rfl rfl (one_of HT_.out (by kernel_rfl)) (by decide) (fun K hK => ?_)
       refine goes_ Try.func27 (by kernel_rfl) rfl #[.agg #[.int .i64 aL, .slice aW aB.length aX], .int .i64 bE, .int .i64 bF] (by rfl) rfl rfl (by (try simp only [List.map_toArray, List.map_cons, List.map_nil]); first | done | rfl | (simp only [List.length_drop, List.length_take]; rfl)) ?_
       with_reducible refine (impl_LaneFor.calls kj6 aL _ _ aB bE bF bD _ ?side1 ?side2 A49.out).mono ?_
       (case side1 => repeat (first | exact (Kd.S_reads' aH.out).2.2 | (with_reducible refine Kd.C_alloc ?_ _) | (with_reducible refine Kd.C_drewN ?_ _) | (with_reducible refine Kd.C_drew ?_)))
       (case side2 => exact (Kd.S_reads' aH.out).2.1)
       rintro e w62 ⟨rfl, hb⟩
       refine ⟨_, rfl, ?_⟩
       have aM := zK (Kd.S_below (zT aa) hb)
       have aN := zK (Kd.S_below (zT ac) hb)
       have aO := zK (Kd.S_below (zT ad) hb)
       have aP := zK (Kd.S_below (zT aH) hb)
       have aQ := zK (blk_below (g := am) (o := .cells #[.int .i64 ah, .slice az af.length av] 24 (0, 0)) (zk ab) hb)
       have aR := zK (blk_below (g := ar) (o := .cells #[.int .i64 ao, .slice aC ai.length aD] 24 (0, 0)) (zk ae) hb)
       have aT := zK (blk_below (g := ak) (o := .cells #[.int .i64 aI, .slice aw au.length ax] 24 (0, 0)) (zk ag) hb)
       have a3 := zK (blk_below (g := aj) (o := .cells #[.int .i64 aL, .slice aW aB.length aX] 24 (0, 0)) (zk al) hb)
       have a7 := zK (below_step (zb HB) hb)
       clear aa ac ad aH ab ae ag al HB; have aa := aM; have ac := aN; have ad := aO; have aH := aP; have ab := aQ; have ae := aR; have ag := aT; have al := a3; have HB := a7; clear aM aN aO aP aQ aR aT a3 a7; (try clear hb); (try clear hb2); (try clear hk); (try clear hi)
       refine hK.out _ _ ⟨(blk_cell al.out 0).trans rfl, (blk_cell al.out 1).trans rfl⟩ (fun hHeld => ?_)
       clear hK K
       refine norm_ (a' := ?_) ?_ ?_
       rotate_left
       ·show Act.put _ (some 87) _ = _
        simp only [Act.put, zp, zq, zr, i64_w, i32_w]
        rfl
       refine one_ (i := 7) (N := some 91) #[tt, tt, tt, tt, tt, tt, tt, tt, ff] rfl rfl (one_of HT_.out (by kernel_rfl)) (by decide) (fun K hK => ?_)
       refine goes_ Try.func26 (by kernel_rfl) rfl #[.agg #[.int .i64 aL, .slice aW aB.length aX], .int .i64 bE, .int .i64 bF] (by rfl) rfl rfl (by (try simp only [List.map_toArray, List.map_cons, List.map_nil]); first | done | rfl | (simp only [List.length_drop, List.length_take]; rfl)) ?_
       with_reducible refine (spec_LaneFor.calls kj6 aL _ _ aB bE bF bz _ ?side1 ?side2 dx.out).mono ?_
       (case side1 => repeat (first | exact (Kd.S_reads' aH.out).2.2 | (with_reducible refine Kd.C_alloc ?_ _) | (with_reducible refine Kd.C_drewN ?_ _) | (with_reducible refine Kd.C_drew ?_)))
       (case side2 => exact (Kd.S_reads' aH.out).2.1)
       rintro e w63 ⟨rfl, hb⟩
       refine ⟨_, rfl, ?_⟩
       have aM := zK (Kd.S_below (zT aa) hb)
       have aN := zK (Kd.S_below (zT ac) hb)
       have aO := zK (Kd.S_below (zT ad) hb)
       have aP := zK (Kd.S_below (zT aH) hb)
       have aQ := zK (blk_below (g := am) (o := .cells #[.int .i64 ah, .slice az af.length av] 24 (0, 0)) (zk ab) hb)
       have aR := zK (blk_below (g := ar) (o := .cells #[.int .i64 ao, .slice aC ai.length aD] 24 (0, 0)) (zk ae) hb)
       have aT := zK (blk_below (g := ak) (o := .cells #[.int .i64 aI, .slice aw au.length ax] 24 (0, 0)) (zk ag) hb)
       have a3 := zK (blk_below (g := aj) (o := .cells #[.int .i64 aL, .slice aW aB.length aX] 24 (0, 0)) (zk al) hb)
       have a7 := zK (below_step (zb HB) hb)
       clear aa ac ad aH ab ae ag al HB; have aa := aM; have ac := aN; have ad := aO; have aH := aP; have ab := aQ; have ae := aR; have ag := aT; have al := a3; have HB := a7; clear aM aN aO aP aQ aR aT a3 a7; (try clear hb); (try clear hb2); (try clear hk); (try clear hi)
       refine hK.out _ _ ⟨(blk_cell al.out 0).trans rfl, (blk_cell al.out 1).trans rfl⟩ (fun hHeld => ?_)
       clear hK K
       refine norm_ (a' := ?_) ?_ ?_
       rotate_left
       ·show Act.put _ (some 91) _ = _
        simp only [Act.put, zp, zq, zr, i64_w, i32_w]
        rfl
       refine zu 8 (some 92) #[tt, tt, tt, tt, tt, tt, tt, tt, tt] (any_of HT_.out (by kernel_rfl)) ?_
       refine done_ (done_of HT_.out (by kernel_rfl)) ?_
       try go_wp2
       go_loopg [15, 16] kj6 (fun kq v15 v16 w' => ∃ (bl : Bool) (ap : Int), v15 = .bool bl ∧ v16 = .int .i64 ap ∧ Aside0 (laws_FnStorePuts.l0 kq aG bl ap ah af ao ai = some r) ∧ Aside0 (kq ≤ kj6) ∧ Aside0 (Kd.S (Kd.slice 30 k30) 28 w' w.heap.size (fun k_ => some k_ ≠ ((.slice aC ai.length aD) : Value).ownBlock ∧ some k_ ≠ ((.slice aw au.length ax) : Value).ownBlock ∧ some k_ ≠ ((.slice aW aB.length aX) : Value).ownBlock) (.slice az af.length av) af) ∧ Aside0 (Kd.S (Kd.slice 30 k30) 28 w' w.heap.size (fun k_ => some k_ ≠ ((.slice az af.length av) : Value).ownBlock ∧ some k_ ≠ ((.slice aw au.length ax) : Value).ownBlock ∧ some k_ ≠ ((.slice aW aB.length aX) : Value).ownBlock) (.slice aC ai.length aD) ai) ∧ Aside0 (Kd.S (Kd.slice 30 k30) 28 w' w.heap.size (fun k_ => some k_ ≠ ((.slice az af.length av) : Value).ownBlock ∧ some k_ ≠ ((.slice aC ai.length aD) : Value).ownBlock ∧ some k_ ≠ ((.slice aW aB.length aX) : Value).ownBlock) (.slice aw au.length ax) au) ∧ Aside0 (Kd.S (Kd.slice 30 k30) 28 w' w.heap.size (fun k_ => some k_ ≠ ((.slice az af.length av) : Value).ownBlock ∧ some k_ ≠ ((.slice aC ai.length aD) : Value).ownBlock ∧ some k_ ≠ ((.slice aw au.length ax) : Value).ownBlock) (.slice aW aB.length aX) aB) ∧ Aside0 (w'.heap[am]? = some (.cells #[.int .i64 ah, (.slice az af.length av)] 24 (0, 0))) ∧ Aside0 (w'.heap[ar]? = some (.cells #[.int .i64 ao, (.slice aC ai.length aD)] 24 (0, 0))) ∧ Aside0 (w'.heap[ak]? = some (.cells #[.int .i64 aI, (.slice aw au.length ax)] 24 (0, 0))) ∧ Aside0 (w'.heap[aj]? = some (.cells #[.int .i64 aL, (.slice aW aB.length aX)] 24 (0, 0))) ∧ Aside0 (Below w.heap.size w w'))
       case atStart => exact ⟨(false), (0), (by first | rfl | (simp; done) | (simp [*]; done)), (by first | rfl | (simp; done) | (simp [*]; done)), H', ⟨Nat.le_refl _⟩, ⟨zT aa⟩, ⟨zT ac⟩, ⟨zT ad⟩, ⟨zT aH⟩, ⟨zk ab⟩, ⟨zk ae⟩, ⟨zk ag⟩, ⟨zk al⟩, ⟨zb HB⟩⟩
       case round =>
        clear H'
        try clear c1
        try clear c2
        try clear p2
        try clear c3
        try clear c4
        try clear c5
        try clear c15
        try clear c22
        try clear cD
        try clear cf
        try clear cg
        try clear c26
        try clear de
        try clear df
        try clear c33
        try clear c34
        try clear dg
        try clear cE
        try clear ch
        try clear ci
        try clear dr
        try clear cI
        try clear cv
        try clear cw
        try clear dt
        try clear c55
        try clear c56
        try clear c57
        try clear cj
        try clear ck
        try clear cl
        try clear cm
        try clear p2
        obtain ⟨bl, ap, rfl, rfl, HA, cG, aa, ac, ad, an, ab, ae, ag, al, HB⟩ := hrel
        cases gk with
        | zero => exact absurd HA.out (by simp [laws_FnStorePuts.l0])
        | succ k2 =>
         have H := HA.out; clear HA
         simp only [laws_FnStorePuts.l0] at H
         by_cases dh : ap < (af.length : Int)
         ·rw [if_pos dh] at H
          have cX : decide (ap < (af.length : Int)) = true := decide_eq_true dh
          clear dh
          by_cases dK : 0 ≤ ap
          ·rw [if_pos dK] at H
           have dL : decide (0 ≤ ap) = true := decide_eq_true dK
           clear dK
           by_cases di : ((rd_L2 af ap).length : Int) ≥ ah
           ·rw [if_pos di] at H
            have cY : decide (ah ≤ ((rd_L2 af ap).length : Int)) = true := decide_eq_true di
            clear di; have H' := zK H; clear H; have hnb67 := aZ.out; have hnc67 := a5.out; have hnb68 := aV.out; have hnc68 := a6.out; have hnb69 := aS.out; have hnc69 := a0.out
            have cJ : wr.cell? ⟨am, 0, none⟩ = some (.int .i64 ah) := (blk_cell ab.out 0).trans rfl
            have cK : wr.cell? ⟨am, 1, none⟩ = some (.slice az af.length av) := (blk_cell ab.out 1).trans rfl
            have cL := blk_frozen ab.out 0; have cM := blk_frozen ab.out 1
            try go_wp2
            have aM := zK (Kd.S_drew aa.out)
            have aN := zK (Kd.S_drew ac.out)
            have aO := zK (Kd.S_drew ad.out)
            have aP := zK (Kd.S_drew an.out)
            have aQ := zK (zD ab.out)
            have aR := zK (zD ae.out)
            have aT := zK (zD ag.out)
            have a3 := zK (zD al.out)
            have a7 := zK (zE HB.out)
            clear aa ac ad an ab ae ag al HB; have aa := aM; have ac := aN; have ad := aO; have an := aP; have ab := aQ; have ae := aR; have ag := aT; have al := a3; have HB := a7; clear aM aN aO aP aQ aR aT a3 a7
            have bQ : 0 ≤ (ap : Int) := zd
            have bR : ap < (af.length : Int) := zd
            obtain ⟨a8, bT, b7, dj, bm, bA, bB⟩ := at_L2 (Kd.S_reads' aa.out).2.2 ap bQ bR
            cases dj
            obtain ⟨dM, b8, b9, bM⟩ := Kd.S_get aa.out [] ap bQ (by first | exact bR | exact zd | (have e_ := (Kd.S_reads' aa.out).1; omega))
            obtain ⟨cN, rfl, br⟩ := b9
            have a9 := bM 0 _ rfl
            rw [Nat.add_zero, show ((Kd.slice 30 k30)).sz = 1 from rfl, Nat.mul_one] at a9
            replace a9 := Option.some.inj (a9.symm.trans bm)
            rw [a9] at br
            have bU := zK (show Kd.R k30 30 _ _ _ _ (rd_L2 af ap) from br)
            clear a9 br bM b8; have bg := zK bB; have cO := zK bA; clear bB bA; replace bQ := eq_true bQ; replace bR := eq_true bR
            refine start_ (n := 9) (S := fun w' => w'.cell? ⟨am, 0, none⟩ = some (.int .i64 ah) ∧ w'.cell? ⟨am, 1, none⟩ = some (.slice (some a8) af.length av) ∧ w'.cell? (a8.add (ap).toNat) = some (.slice bT (rd_L2 af ap).length b7)) (ds := []) #[ff, ff, ff, ff, ff, ff, ff, ff, ff] (by kernel_rfl) rfl rfl ⟨(blk_cell ab.out 0).trans rfl, (blk_cell ab.out 1).trans rfl, bm⟩ (fun hHeld => ?_); refine with_tabW laws_FnStorePuts.tab17 laws_FnStorePuts.bits17 (fun HT_ HW_ => ?_)
            generalize wr.drew = w71 at aa ac ad an ab ae ag al HB bU bg bm hHeld ⊢
            refine zu 0 (some 102) #[tt, ff, ff, ff, ff, ff, ff, ff, ff] (any_of HT_.out (by kernel_rfl)) ?_
            refine zu 2 (some 104) #[tt, ff, tt, ff, ff, ff, ff, ff, ff] (any_of HT_.out (by kernel_rfl)) ?_
            refine zu 6 (some 108) #[tt, ff, tt, ff, ff, ff, tt, ff, ff] (any_of HT_.out (by kernel_rfl)) ?_
            refine zt 1 (some 103) #[tt, tt, tt, ff, ff, ff, tt, ff, ff] (take_ofW HT_.out HW_.out (by kernel_rfl)) hHeld ?_
            refine zu 3 (some 105) #[tt, tt, tt, tt, ff, ff, tt, ff, ff] (any_of HT_.out (by kernel_rfl)) ?_
            refine zt 4 (some 106) #[tt, tt, tt, tt, tt, ff, tt, ff, ff] (take_ofW HT_.out HW_.out (by kernel_rfl)) hHeld ?_
            refine zu 5 (some 107) #[tt, tt, tt, tt, tt, tt, tt, ff, ff] (any_of HT_.out (by kernel_rfl)) ?_
            refine zt 7 (some 109) #[tt, tt, tt, tt, tt, tt, tt, tt, ff] (take_ofW HT_.out HW_.out (by kernel_rfl)) hHeld ?_
            refine zu 8 (some 110) #[tt, tt, tt, tt, tt, tt, tt, tt, tt] (any_of HT_.out (by kernel_rfl)) ?_
            refine done_ (done_of HT_.out (by kernel_rfl)) ?_
            try go_wp2
            go_roundg k2
            case measure => have := cF.out; have := cG.out; omega
            case rel => exact ⟨(bl), (wrap64 (ap + 1)), (by first | rfl | (simp; done) | (simp [*]; done)), (by first | rfl | (simp; done) | (simp [*]; done)), H', ⟨by have := cF.out; have := cG.out; omega⟩, ⟨zT aa⟩, ⟨zT ac⟩, ⟨zT ad⟩, ⟨zT an⟩, ⟨zk ab⟩, ⟨zk ae⟩, ⟨zk ag⟩, ⟨zk al⟩, ⟨zb HB⟩⟩
           ·rw [if_neg di] at H
            have cY : decide (ah ≤ ((rd_L2 af ap).length : Int)) = false := decide_eq_false di
            clear di; have H' := zK H; clear H; have hnb72 := aZ.out; have hnc72 := a5.out; have hnb73 := aV.out; have hnc73 := a6.out; have hnb74 := aS.out; have hnc74 := a0.out
            have cP : wr.cell? ⟨am, 0, none⟩ = some (.int .i64 ah) := (blk_cell ab.out 0).trans rfl
            have cQ : wr.cell? ⟨am, 1, none⟩ = some (.slice az af.length av) := (blk_cell ab.out 1).trans rfl
            have cR := blk_frozen ab.out 0; have cS := blk_frozen ab.out 1
            try go_wp2
            have aM := zK (Kd.S_drew aa.out)
            have aN := zK (Kd.S_drew ac.out)
            have aO := zK (Kd.S_drew ad.out)
            have aP := zK (Kd.S_drew an.out)
            have aQ := zK (zD ab.out)
            have aR := zK (zD ae.out)
            have aT := zK (zD ag.out)
            have a3 := zK (zD al.out)
            have a7 := zK (zE HB.out)
            clear aa ac ad an ab ae ag al HB; have aa := aM; have ac := aN; have ad := aO; have an := aP; have ab := aQ; have ae := aR; have ag := aT; have al := a3; have HB := a7; clear aM aN aO aP aQ aR aT a3 a7
            have bQ : 0 ≤ (ap : Int) := zd
            have bR : ap < (af.length : Int) := zd
            obtain ⟨a8, bT, b7, dj, bm, bA, bB⟩ := at_L2 (Kd.S_reads' aa.out).2.2 ap bQ bR
            cases dj
            obtain ⟨dM, b8, b9, bM⟩ := Kd.S_get aa.out [] ap bQ (by first | exact bR | exact zd | (have e_ := (Kd.S_reads' aa.out).1; omega))
            obtain ⟨cN, rfl, br⟩ := b9
            have a9 := bM 0 _ rfl
            rw [Nat.add_zero, show ((Kd.slice 30 k30)).sz = 1 from rfl, Nat.mul_one] at a9
            replace a9 := Option.some.inj (a9.symm.trans bm)
            rw [a9] at br
            have bU := zK (show Kd.R k30 30 _ _ _ _ (rd_L2 af ap) from br)
            clear a9 br bM b8; have bg := zK bB; have cO := zK bA; clear bB bA; replace bQ := eq_true bQ; replace bR := eq_true bR
            refine start_ (n := 9) (S := fun w' => w'.cell? ⟨am, 0, none⟩ = some (.int .i64 ah) ∧ w'.cell? ⟨am, 1, none⟩ = some (.slice (some a8) af.length av) ∧ w'.cell? (a8.add (ap).toNat) = some (.slice bT (rd_L2 af ap).length b7)) (ds := []) #[ff, ff, ff, ff, ff, ff, ff, ff, ff] (by kernel_rfl) rfl rfl ⟨(blk_cell ab.out 0).trans rfl, (blk_cell ab.out 1).trans rfl, bm⟩ (fun hHeld => ?_); refine with_tabW laws_FnStorePuts.tab17 laws_FnStorePuts.bits17 (fun HT_ HW_ => ?_)
            generalize wr.drew = w76 at aa ac ad an ab ae ag al HB bU bg bm hHeld ⊢
            refine zu 0 (some 102) #[tt, ff, ff, ff, ff, ff, ff, ff, ff] (any_of HT_.out (by kernel_rfl)) ?_
            refine zu 2 (some 104) #[tt, ff, tt, ff, ff, ff, ff, ff, ff] (any_of HT_.out (by kernel_rfl)) ?_
            refine zu 6 (some 108) #[tt, ff, tt, ff, ff, ff, tt, ff, ff] (any_of HT_.out (by kernel_rfl)) ?_
            refine zt 1 (some 103) #[tt, tt, tt, ff, ff, ff, tt, ff, ff] (take_ofW HT_.out HW_.out (by kernel_rfl)) hHeld ?_
            refine zu 3 (some 105) #[tt, tt, tt, tt, ff, ff, tt, ff, ff] (any_of HT_.out (by kernel_rfl)) ?_
            refine zt 4 (some 106) #[tt, tt, tt, tt, tt, ff, tt, ff, ff] (take_ofW HT_.out HW_.out (by kernel_rfl)) hHeld ?_
            refine zu 5 (some 107) #[tt, tt, tt, tt, tt, tt, tt, ff, ff] (any_of HT_.out (by kernel_rfl)) ?_
            refine zt 7 (some 109) #[tt, tt, tt, tt, tt, tt, tt, tt, ff] (take_ofW HT_.out HW_.out (by kernel_rfl)) hHeld ?_
            refine zu 8 (some 110) #[tt, tt, tt, tt, tt, tt, tt, tt, tt] (any_of HT_.out (by kernel_rfl)) ?_
            refine done_ (done_of HT_.out (by kernel_rfl)) ?_
            try go_wp2
            go_loopg [17, 18] k2 (fun kq v17 v18 w' => ∃ (bS : Bool) (bc : Int), v17 = .bool bS ∧ v18 = .int .i64 bc ∧ Aside0 (laws_FnStorePuts.l1 kq aG bl ap bS bc ah af ao ai = some r) ∧ Aside0 (kq ≤ k2) ∧ Aside0 (Kd.S (Kd.slice 30 k30) 28 w' w.heap.size (fun k_ => some k_ ≠ ((.slice aC ai.length aD) : Value).ownBlock ∧ some k_ ≠ ((.slice aw au.length ax) : Value).ownBlock ∧ some k_ ≠ ((.slice aW aB.length aX) : Value).ownBlock) (.slice (some a8) af.length av) af) ∧ Aside0 (Kd.S (Kd.slice 30 k30) 28 w' w.heap.size (fun k_ => some k_ ≠ ((.slice (some a8) af.length av) : Value).ownBlock ∧ some k_ ≠ ((.slice aw au.length ax) : Value).ownBlock ∧ some k_ ≠ ((.slice aW aB.length aX) : Value).ownBlock) (.slice aC ai.length aD) ai) ∧ Aside0 (Kd.S (Kd.slice 30 k30) 28 w' w.heap.size (fun k_ => some k_ ≠ ((.slice (some a8) af.length av) : Value).ownBlock ∧ some k_ ≠ ((.slice aC ai.length aD) : Value).ownBlock ∧ some k_ ≠ ((.slice aW aB.length aX) : Value).ownBlock) (.slice aw au.length ax) au) ∧ Aside0 (Kd.S (Kd.slice 30 k30) 28 w' w.heap.size (fun k_ => some k_ ≠ ((.slice (some a8) af.length av) : Value).ownBlock ∧ some k_ ≠ ((.slice aC ai.length aD) : Value).ownBlock ∧ some k_ ≠ ((.slice aw au.length ax) : Value).ownBlock) (.slice aW aB.length aX) aB) ∧ Aside0 (w'.heap[am]? = some (.cells #[.int .i64 ah, (.slice (some a8) af.length av)] 24 (0, 0))) ∧ Aside0 (w'.heap[ar]? = some (.cells #[.int .i64 ao, (.slice aC ai.length aD)] 24 (0, 0))) ∧ Aside0 (w'.heap[ak]? = some (.cells #[.int .i64 aI, (.slice aw au.length ax)] 24 (0, 0))) ∧ Aside0 (w'.heap[aj]? = some (.cells #[.int .i64 aL, (.slice aW aB.length aX)] 24 (0, 0))) ∧ Aside0 (Kd.C k30 w' bT (rd_L2 af ap).length (rd_L2 af ap)) ∧ Aside0 (Below w.heap.size w w'))
            case atStart => exact ⟨(false), (0), (by first | rfl | (simp; done) | (simp [*]; done)), (by first | rfl | (simp; done) | (simp [*]; done)), H', ⟨Nat.le_refl _⟩, ⟨zT aa⟩, ⟨zT ac⟩, ⟨zT ad⟩, ⟨zT an⟩, ⟨zk ab⟩, ⟨zk ae⟩, ⟨zk ag⟩, ⟨zk al⟩, ⟨by repeat (first | (with_reducible exact bg.out) | (with_reducible refine Kd.C_alloc ?_ _) | (with_reducible refine Kd.C_drewN ?_ _) | (with_reducible refine Kd.C_drew ?_) | exact bg.out)⟩, ⟨zb HB⟩⟩
            case round =>
             clear H'
             try clear c1
             try clear c2
             try clear p2
             try clear c3
             try clear c4
             try clear c5
             try clear c6
             try clear p6
             try clear c7
             try clear p7
             try clear q7
             try clear hx7
             try clear c15
             try clear c22
             try clear cD
             try clear cf
             try clear cg
             try clear c26
             try clear de
             try clear df
             try clear c33
             try clear c34
             try clear dg
             try clear cE
             try clear ch
             try clear ci
             try clear dr
             try clear cI
             try clear cv
             try clear cw
             try clear dt
             try clear c55
             try clear c56
             try clear c57
             try clear dh
             try clear cX
             try clear p64
             try clear dK
             try clear dL
             try clear di
             try clear cY
             try clear c67
             try clear c68
             try clear c69
             try clear c72
             try clear c73
             try clear c74
             try clear c76
             try clear p76
             try clear q76
             try clear hx76
             try clear cj
             try clear ck
             try clear cJ
             try clear cK
             try clear cP
             try clear cQ
             try clear cl
             try clear cm
             try clear cL
             try clear cM
             try clear cR
             try clear cS
             try clear bm
             try clear p2
             try clear bQ
             try clear bR
             obtain ⟨bS, bc, rfl, rfl, HA, cZ, aa, ac, ad, an, ab, ae, ag, al, bg, HB⟩ := hrel
             cases gk with
             | zero => exact absurd HA.out (by simp [laws_FnStorePuts.l1])
             | succ k3 =>
              have H := HA.out; clear HA
              simp only [laws_FnStorePuts.l1] at H
              by_cases c77 : 0 ≤ ap
              ·rw [if_pos c77] at H
               have c77b0 : decide (0 ≤ ap) = true := decide_eq_true c77
               clear c77
               by_cases c78 : ap < (af.length : Int)
               ·rw [if_pos c78] at H
                have c78b0 : decide (ap < (af.length : Int)) = true := decide_eq_true c78
                clear c78
                by_cases du : bc < ((rd_L2 af ap).length : Int)
                ·rw [if_pos du] at H
                 have dN : decide (bc < ((rd_L2 af ap).length : Int)) = true := decide_eq_true du
                 clear du
                 by_cases c80 : bS = true
                 ·subst c80
                  have H1 : (laws_FnStorePuts.l1 k3 aG bl ap true (wrap64 (bc + 1)) ah af ao ai) = some r := by rw [if_pos rfl] at H; exact H
                  clear H; have H := H1; clear H1; have H' := zK H; clear H; have hnb81 := aZ.out; have hnc81 := a5.out; have hnb82 := aV.out; have hnc82 := a6.out; have hnb83 := aS.out; have hnc83 := a0.out
                  have hcz84_0 : wr.cell? ⟨am, 0, none⟩ = some (.int .i64 ah) := (blk_cell ab.out 0).trans rfl
                  have hcz84_1 : wr.cell? ⟨am, 1, none⟩ = some (.slice (some a8) af.length av) := (blk_cell ab.out 1).trans rfl
                  have hfz84_0 := blk_frozen ab.out 0; have hfz84_1 := blk_frozen ab.out 1
                  have bs : 0 ≤ (ap : Int) := zd
                  have bt : ap < (af.length : Int) := zd
                  obtain ⟨bN, ca, cb, cc, bn, ba, bb⟩ := at_L2 (Kd.S_reads' aa.out).2.2 ap bs bt
                  obtain rfl : a8 = bN := (by injection cc)
                  obtain ⟨cB, bv, bw, bj⟩ := Kd.S_get aa.out [] ap bs (by first | exact bt | exact zd | (have e_ := (Kd.S_reads' aa.out).1; omega))
                  obtain ⟨bV, rfl, aY⟩ := bw
                  have aK := bj 0 _ rfl
                  rw [Nat.add_zero, show ((Kd.slice 30 k30)).sz = 1 from rfl, Nat.mul_one] at aK
                  replace aK := Option.some.inj (aK.symm.trans bn)
                  rw [aK] at aY
                  have bW := zK (show Kd.R k30 30 _ _ _ _ (rd_L2 af ap) from aY)
                  clear aK aY bj bv; have bX := zK bb; have bY := zK ba; clear bb ba; replace bs := eq_true bs; replace bt := eq_true bt
                  go_wp2
                  go_roundg k3
                  case measure => have := cF.out; have := cG.out; have := cZ.out; omega
                  case rel => exact ⟨(true), (wrap64 (bc + 1)), (by first | rfl | (simp; done) | (simp [*]; done)), (by first | rfl | (simp; done) | (simp [*]; done)), H', ⟨by have := cF.out; have := cG.out; have := cZ.out; omega⟩, ⟨zT aa⟩, ⟨zT ac⟩, ⟨zT ad⟩, ⟨zT an⟩, ⟨zk ab⟩, ⟨zk ae⟩, ⟨zk ag⟩, ⟨zk al⟩, ⟨by repeat (first | (with_reducible exact bg.out) | (with_reducible refine Kd.C_alloc ?_ _) | (with_reducible refine Kd.C_drewN ?_ _) | (with_reducible refine Kd.C_drew ?_) | exact bg.out)⟩, ⟨zb HB⟩⟩
                 ·replace c80 := Bool.eq_false_iff.mpr c80
                  subst c80
                  have H1 : (if 0 ≤ bc then (laws_FnStorePuts.l1 k3 aG bl ap (decide (((rd_T30 (rd_L2 af ap) bc).f1) < aG)) (wrap64 (bc + 1)) ah af ao ai) else (none)) = some r := by rw [if_neg (show ¬ (false = true) by decide)] at H; exact H
                  clear H; have H := H1; clear H1
                  by_cases c85 : 0 ≤ bc
                  ·rw [if_pos c85] at H
                   have c85b0 : decide (0 ≤ bc) = true := decide_eq_true c85
                   clear c85; have H' := zK H; clear H; have hnb86 := aZ.out; have hnc86 := a5.out; have hnb87 := aV.out; have hnc87 := a6.out; have hnb88 := aS.out; have hnc88 := a0.out
                   have hcz89_0 : wr.cell? ⟨am, 0, none⟩ = some (.int .i64 ah) := (blk_cell ab.out 0).trans rfl
                   have hcz89_1 : wr.cell? ⟨am, 1, none⟩ = some (.slice (some a8) af.length av) := (blk_cell ab.out 1).trans rfl
                   have hfz89_0 := blk_frozen ab.out 0; have hfz89_1 := blk_frozen ab.out 1
                   have bs : 0 ≤ (ap : Int) := zd
                   have bt : ap < (af.length : Int) := zd
                   obtain ⟨bN, ca, cb, cc, bn, ba, bb⟩ := at_L2 (Kd.S_reads' aa.out).2.2 ap bs bt
                   obtain rfl : a8 = bN := (by injection cc)
                   obtain ⟨cB, bv, bw, bj⟩ := Kd.S_get aa.out [] ap bs (by first | exact bt | exact zd | (have e_ := (Kd.S_reads' aa.out).1; omega))
                   obtain ⟨bV, rfl, aY⟩ := bw
                   have aK := bj 0 _ rfl
                   rw [Nat.add_zero, show ((Kd.slice 30 k30)).sz = 1 from rfl, Nat.mul_one] at aK
                   replace aK := Option.some.inj (aK.symm.trans bn)
                   rw [aK] at aY
                   have bW := zK (show Kd.R k30 30 _ _ _ _ (rd_L2 af ap) from aY)
                   clear aK aY bj bv; have bX := zK bb; have bY := zK ba; clear bb ba; replace bs := eq_true bs; replace bt := eq_true bt
                   have cT : 0 ≤ (ap : Int) := zd
                   have cU : ap < (af.length : Int) := zd
                   obtain ⟨dO, A769_0, c769_0, e769, cn, co, cp⟩ := at_L2 (Kd.S_reads' aa.out).2.2 ap cT cU
                   obtain rfl : a8 = dO := (by injection e769)
                   obtain ⟨ce769, dk, dl, cC⟩ := Kd.S_get aa.out [] ap cT (by first | exact cU | exact zd | (have e_ := (Kd.S_reads' aa.out).1; omega))
                   obtain ⟨ve769_0, rfl, bZ⟩ := dl
                   have bC := cC 0 _ rfl
                   rw [Nat.add_zero, show ((Kd.slice 30 k30)).sz = 1 from rfl, Nat.mul_one] at bC
                   replace bC := Option.some.inj (bC.symm.trans cn)
                   rw [bC] at bZ
                   have HL769_0 := zK (show Kd.R k30 30 _ _ _ _ (rd_L2 af ap) from bZ)
                   clear bC bZ cC dk; have cq := zK cp; have HC769_0 := zK co; clear cp co; replace cT := eq_true cT; replace cU := eq_true cU
                   have ea_ := Option.some.inj (bn.symm.trans cn)
                   injection ea_ with ea_ en_ ec_
                   subst ea_; subst ec_; clear en_
                   have dm : 0 ≤ (bc : Int) := zd
                   have dn : bc < ((rd_L2 af ap).length : Int) := zd
                   obtain ⟨ad770, e770, hx770_0, hx770_1⟩ := at_T30 (by repeat (first | (with_reducible exact cq.out) | (with_reducible refine Kd.C_alloc ?_ _) | (with_reducible refine Kd.C_drewN ?_ _) | (with_reducible refine Kd.C_drew ?_) | exact cq.out)) bc dm dn
                   cases e770
                   replace dm := eq_true dm; replace dn := eq_true dn
                   go_wp2
                   go_roundg k3
                   case measure => have := cF.out; have := cG.out; have := cZ.out; omega
                   case rel => exact ⟨(decide (((rd_T30 (rd_L2 af ap) bc).f1) < aG)), (wrap64 (bc + 1)), (by first | rfl | (simp; done) | (simp [*]; done)), (by first | rfl | (simp; done) | (simp [*]; done)), H', ⟨by have := cF.out; have := cG.out; have := cZ.out; omega⟩, ⟨zT aa⟩, ⟨zT ac⟩, ⟨zT ad⟩, ⟨zT an⟩, ⟨zk ab⟩, ⟨zk ae⟩, ⟨zk ag⟩, ⟨zk al⟩, ⟨by repeat (first | (with_reducible exact bg.out) | (with_reducible refine Kd.C_alloc ?_ _) | (with_reducible refine Kd.C_drewN ?_ _) | (with_reducible refine Kd.C_drew ?_) | exact bg.out)⟩, ⟨zb HB⟩⟩
                  ·rw [if_neg c85] at H
                   exact absurd H (by simp)
                ·rw [if_neg du] at H
                 have dN : decide (bc < ((rd_L2 af ap).length : Int)) = false := decide_eq_false du
                 clear du
                 by_cases c90 : bl = true
                 ·subst c90
                  have H1 : (laws_FnStorePuts.l0 k3 aG true (wrap64 (ap + 1)) ah af ao ai) = some r := by rw [if_pos rfl] at H; exact H
                  clear H; have H := H1; clear H1; have H' := zK H; clear H; have hnb91 := aZ.out; have hnc91 := a5.out; have hnb92 := aV.out; have hnc92 := a6.out; have hnb93 := aS.out; have hnc93 := a0.out
                  have hcz94_0 : wr.cell? ⟨am, 0, none⟩ = some (.int .i64 ah) := (blk_cell ab.out 0).trans rfl
                  have hcz94_1 : wr.cell? ⟨am, 1, none⟩ = some (.slice (some a8) af.length av) := (blk_cell ab.out 1).trans rfl
                  have hfz94_0 := blk_frozen ab.out 0; have hfz94_1 := blk_frozen ab.out 1
                  have bs : 0 ≤ (ap : Int) := zd
                  have bt : ap < (af.length : Int) := zd
                  obtain ⟨bN, ca, cb, cc, bn, ba, bb⟩ := at_L2 (Kd.S_reads' aa.out).2.2 ap bs bt
                  obtain rfl : a8 = bN := (by injection cc)
                  obtain ⟨cB, bv, bw, bj⟩ := Kd.S_get aa.out [] ap bs (by first | exact bt | exact zd | (have e_ := (Kd.S_reads' aa.out).1; omega))
                  obtain ⟨bV, rfl, aY⟩ := bw
                  have aK := bj 0 _ rfl
                  rw [Nat.add_zero, show ((Kd.slice 30 k30)).sz = 1 from rfl, Nat.mul_one] at aK
                  replace aK := Option.some.inj (aK.symm.trans bn)
                  rw [aK] at aY
                  have bW := zK (show Kd.R k30 30 _ _ _ _ (rd_L2 af ap) from aY)
                  clear aK aY bj bv; have bX := zK bb; have bY := zK ba; clear bb ba; replace bs := eq_true bs; replace bt := eq_true bt
                  go_wp2
                  go_roundg k3
                  case measure => have := cF.out; have := cG.out; have := cZ.out; omega
                  case rel => exact ⟨(true), (wrap64 (ap + 1)), (by first | rfl | (simp; done) | (simp [*]; done)), (by first | rfl | (simp; done) | (simp [*]; done)), H', ⟨by have := cF.out; have := cG.out; have := cZ.out; omega⟩, ⟨zT aa⟩, ⟨zT ac⟩, ⟨zT ad⟩, ⟨zT an⟩, ⟨zk ab⟩, ⟨zk ae⟩, ⟨zk ag⟩, ⟨zk al⟩, ⟨zb HB⟩⟩
                 ·replace c90 := Bool.eq_false_iff.mpr c90
                  subst c90
                  have H1 : (laws_FnStorePuts.l0 k3 aG (!bS) (wrap64 (ap + 1)) ah af ao ai) = some r := by rw [if_neg (show ¬ (false = true) by decide)] at H; exact H
                  clear H; have H := H1; clear H1; have H' := zK H; clear H; have hnb95 := aZ.out; have hnc95 := a5.out; have hnb96 := aV.out; have hnc96 := a6.out; have hnb97 := aS.out; have hnc97 := a0.out
                  have hcz98_0 : wr.cell? ⟨am, 0, none⟩ = some (.int .i64 ah) := (blk_cell ab.out 0).trans rfl
                  have hcz98_1 : wr.cell? ⟨am, 1, none⟩ = some (.slice (some a8) af.length av) := (blk_cell ab.out 1).trans rfl
                  have hfz98_0 := blk_frozen ab.out 0; have hfz98_1 := blk_frozen ab.out 1
                  have bs : 0 ≤ (ap : Int) := zd
                  have bt : ap < (af.length : Int) := zd
                  obtain ⟨bN, ca, cb, cc, bn, ba, bb⟩ := at_L2 (Kd.S_reads' aa.out).2.2 ap bs bt
                  obtain rfl : a8 = bN := (by injection cc)
                  obtain ⟨cB, bv, bw, bj⟩ := Kd.S_get aa.out [] ap bs (by first | exact bt | exact zd | (have e_ := (Kd.S_reads' aa.out).1; omega))
                  obtain ⟨bV, rfl, aY⟩ := bw
                  have aK := bj 0 _ rfl
                  rw [Nat.add_zero, show ((Kd.slice 30 k30)).sz = 1 from rfl, Nat.mul_one] at aK
                  replace aK := Option.some.inj (aK.symm.trans bn)
                  rw [aK] at aY
                  have bW := zK (show Kd.R k30 30 _ _ _ _ (rd_L2 af ap) from aY)
                  clear aK aY bj bv; have bX := zK bb; have bY := zK ba; clear bb ba; replace bs := eq_true bs; replace bt := eq_true bt
                  go_wp2
                  go_roundg k3
                  case measure => have := cF.out; have := cG.out; have := cZ.out; omega
                  case rel => exact ⟨(!bS), (wrap64 (ap + 1)), (by first | rfl | (simp; done) | (simp [*]; done)), (by first | rfl | (simp; done) | (simp [*]; done)), H', ⟨by have := cF.out; have := cG.out; have := cZ.out; omega⟩, ⟨zT aa⟩, ⟨zT ac⟩, ⟨zT ad⟩, ⟨zT an⟩, ⟨zk ab⟩, ⟨zk ae⟩, ⟨zk ag⟩, ⟨zk al⟩, ⟨zb HB⟩⟩
               ·rw [if_neg c78] at H
                exact absurd H (by simp)
              ·rw [if_neg c77] at H
               exact absurd H (by simp)
          ·rw [if_neg dK] at H
           exact absurd H (by simp)
         ·rw [if_neg dh] at H
          have cX : decide (ap < (af.length : Int)) = false := decide_eq_false dh
          clear dh; replace H := Option.bind_eq_some_iff.mp H
          obtain ⟨dP, dQ, H⟩ := H
          replace H : (if dP = true then ((laws_kept.f k2 ao ai).bind fun bJ => ((laws_kept.f k2 ah af).bind fun bI => (if bJ = (wrap64 (bI + 1)) then ((impl_Buried.f k2 ao ai).bind fun bO => ((impl_Buried.f k2 ah af).bind fun bK => (some ((bO == bK) == bl)))) else (some false)))) else (some false)) = some r := H
          have A99 := zK dQ; clear dQ
          by_cases cV : dP = true
          ·subst cV
           have H1 : ((laws_kept.f k2 ao ai).bind fun bJ => ((laws_kept.f k2 ah af).bind fun bI => (if bJ = (wrap64 (bI + 1)) then ((impl_Buried.f k2 ao ai).bind fun bO => ((impl_Buried.f k2 ah af).bind fun bK => (some ((bO == bK) == bl)))) else (some false)))) = some r := by rw [if_pos rfl] at H; exact H
           clear H; have H := H1; clear H1; replace H := Option.bind_eq_some_iff.mp H
           obtain ⟨bJ, da, H⟩ := H
           replace H : ((laws_kept.f k2 ah af).bind fun bI => (if bJ = (wrap64 (bI + 1)) then ((impl_Buried.f k2 ao ai).bind fun bO => ((impl_Buried.f k2 ah af).bind fun bK => (some ((bO == bK) == bl)))) else (some false))) = some r := H
           have A101 := zK da; clear da; replace H := Option.bind_eq_some_iff.mp H
           obtain ⟨bI, db, H⟩ := H
           replace H : (if bJ = (wrap64 (bI + 1)) then ((impl_Buried.f k2 ao ai).bind fun bO => ((impl_Buried.f k2 ah af).bind fun bK => (some ((bO == bK) == bl)))) else (some false)) = some r := H
           have A102 := zK db; clear db
           by_cases cd : bJ = (wrap64 (bI + 1))
           ·rw [if_pos cd] at H
            have dp : (bJ == (wrap64 (bI + 1))) = true := beq_iff_eq.mpr cd
            have dq : (bJ != (wrap64 (bI + 1))) = false := bne_eq_false_iff_eq.mpr cd
            clear cd; replace H := Option.bind_eq_some_iff.mp H
            obtain ⟨bO, dc, H⟩ := H
            replace H : ((impl_Buried.f k2 ah af).bind fun bK => (some ((bO == bK) == bl))) = some r := H
            have A104 := zK dc; clear dc; replace H := Option.bind_eq_some_iff.mp H
            obtain ⟨bK, dd, H⟩ := H
            replace H : (some ((bO == bK) == bl)) = some r := H
            have A105 := zK dd; clear dd; obtain rfl := Option.some.inj H; have hnb106 := aZ.out; have hnc106 := a5.out; have hnb107 := aV.out; have hnc107 := a6.out; have hnb108 := aS.out; have hnc108 := a0.out
            have dR : wr.cell? ⟨am, 0, none⟩ = some (.int .i64 ah) := (blk_cell ab.out 0).trans rfl
            have dS : wr.cell? ⟨am, 1, none⟩ = some (.slice az af.length av) := (blk_cell ab.out 1).trans rfl
            have dT := blk_frozen ab.out 0; have dU := blk_frozen ab.out 1
            try go_wp2
            have aM := zK (Kd.S_drew aa.out)
            have aN := zK (Kd.S_drew ac.out)
            have aO := zK (Kd.S_drew ad.out)
            have aP := zK (Kd.S_drew an.out)
            have aQ := zK (zD ab.out)
            have aR := zK (zD ae.out)
            have aT := zK (zD ag.out)
            have a3 := zK (zD al.out)
            have a7 := zK (zE HB.out)
            clear aa ac ad an ab ae ag al HB; have aa := aM; have ac := aN; have ad := aO; have an := aP; have ab := aQ; have ae := aR; have ag := aT; have al := a3; have HB := a7; clear aM aN aO aP aQ aR aT a3 a7
            refine start_ (n := 20) (S := fun w' => w'.cell? ⟨ar, 0, none⟩ = some (.int .i64 ao) ∧ w'.cell? ⟨ar, 1, none⟩ = some (.slice aC ai.length aD) ∧ w'.cell? ⟨am, 0, none⟩ = some (.int .i64 ah) ∧ w'.cell? ⟨am, 1, none⟩ = some (.slice az af.length av)) (ds := []) #[ff, ff, ff, ff, ff, ff, ff, ff, ff, ff, ff, ff, ff, ff, ff, ff, ff, ff, ff, ff] (by kernel_rfl) rfl rfl ⟨(blk_cell ae.out 0).trans rfl, (blk_cell ae.out 1).trans rfl, (blk_cell ab.out 0).trans rfl, (blk_cell ab.out 1).trans rfl⟩ (fun hHeld => ?_); refine with_tabW laws_FnStorePuts.tab24 laws_FnStorePuts.bits24 (fun HT_ HW_ => ?_)
            generalize wr.drew = w110 at aa ac ad an ab ae ag al HB hHeld ⊢
            refine zt 0 (some 140) #[tt, ff, ff, ff, ff, ff, ff, ff, ff, ff, ff, ff, ff, ff, ff, ff, ff, ff, ff, ff] (take_ofW HT_.out HW_.out (by kernel_rfl)) hHeld ?_
            refine one_ (i := 1) (N := some 141) #[tt, tt, ff, ff, ff, ff, ff, ff, ff, ff, ff, ff, ff, ff, ff, ff, ff, ff, ff, ff] rfl rfl (one_of HT_.out (by kernel_rfl)) (by decide) (fun K hK => ?_)
            refine goes_ Try.func22 (by kernel_rfl) rfl #[.agg #[.int .i64 ao, .slice aC ai.length aD]] (by rfl) rfl rfl (by (try simp only [List.map_toArray, List.map_cons, List.map_nil]); first | done | rfl | (simp only [List.length_drop, List.length_take]; rfl)) ?_
            with_reducible refine (impl_StoreOk.calls k2 ao _ _ ai true _ ?side1 ?side2 A99.out).mono ?_
            (case side1 => repeat (first | exact (Kd.S_reads' ac.out).2.2 | (with_reducible refine Kd.C_alloc ?_ _) | (with_reducible refine Kd.C_drewN ?_ _) | (with_reducible refine Kd.C_drew ?_)))
            (case side2 => exact (Kd.S_reads' ac.out).2.1)
            rintro e w111 ⟨rfl, hb⟩
            refine ⟨_, rfl, ?_⟩
            have aM := zK (Kd.S_below (zT aa) hb)
            have aN := zK (Kd.S_below (zT ac) hb)
            have aO := zK (Kd.S_below (zT ad) hb)
            have aP := zK (Kd.S_below (zT an) hb)
            have aQ := zK (blk_below (g := am) (o := .cells #[.int .i64 ah, .slice az af.length av] 24 (0, 0)) (zk ab) hb)
            have aR := zK (blk_below (g := ar) (o := .cells #[.int .i64 ao, .slice aC ai.length aD] 24 (0, 0)) (zk ae) hb)
            have aT := zK (blk_below (g := ak) (o := .cells #[.int .i64 aI, .slice aw au.length ax] 24 (0, 0)) (zk ag) hb)
            have a3 := zK (blk_below (g := aj) (o := .cells #[.int .i64 aL, .slice aW aB.length aX] 24 (0, 0)) (zk al) hb)
            have a7 := zK (below_step (zb HB) hb)
            clear aa ac ad an ab ae ag al HB; have aa := aM; have ac := aN; have ad := aO; have an := aP; have ab := aQ; have ae := aR; have ag := aT; have al := a3; have HB := a7; clear aM aN aO aP aQ aR aT a3 a7; (try clear hb); (try clear hb2); (try clear hk); (try clear hi)
            refine hK.out _ _ ⟨(blk_cell ae.out 0).trans rfl, (blk_cell ae.out 1).trans rfl, (blk_cell ab.out 0).trans rfl, (blk_cell ab.out 1).trans rfl⟩ (fun hHeld => ?_)
            clear hK K
            refine norm_ (a' := ?_) ?_ ?_
            rotate_left
            ·show Act.put _ (some 141) _ = _
             simp only [Act.put, zp, zq, zr, i64_w, i32_w]
             rfl
            refine zu 2 (some 142) #[tt, tt, tt, ff, ff, ff, ff, ff, ff, ff, ff, ff, ff, ff, ff, ff, ff, ff, ff, ff] (any_of HT_.out (by kernel_rfl)) ?_
            refine zt 3 (some 143) #[tt, tt, tt, tt, ff, ff, ff, ff, ff, ff, ff, ff, ff, ff, ff, ff, ff, ff, ff, ff] (take_ofW HT_.out HW_.out (by kernel_rfl)) hHeld ?_
            refine zt 5 (some 145) #[tt, tt, tt, tt, ff, tt, ff, ff, ff, ff, ff, ff, ff, ff, ff, ff, ff, ff, ff, ff] (take_ofW HT_.out HW_.out (by kernel_rfl)) hHeld ?_
            refine one_ (i := 4) (N := some 144) #[tt, tt, tt, tt, tt, tt, ff, ff, ff, ff, ff, ff, ff, ff, ff, ff, ff, ff, ff, ff] rfl rfl (one_of HT_.out (by kernel_rfl)) (by decide) (fun K hK => ?_)
            refine goes_ Try.func16 (by kernel_rfl) rfl #[.agg #[.int .i64 ao, .slice aC ai.length aD]] (by rfl) rfl rfl (by (try simp only [List.map_toArray, List.map_cons, List.map_nil]); first | done | rfl | (simp only [List.length_drop, List.length_take]; rfl)) ?_
            with_reducible refine (laws_kept.calls k2 ao _ _ ai bJ _ ?side1 ?side2 A101.out).mono ?_
            (case side1 => repeat (first | exact (Kd.S_reads' ac.out).2.2 | (with_reducible refine Kd.C_alloc ?_ _) | (with_reducible refine Kd.C_drewN ?_ _) | (with_reducible refine Kd.C_drew ?_)))
            (case side2 => exact (Kd.S_reads' ac.out).2.1)
            rintro e w112 ⟨rfl, hb⟩
            refine ⟨_, rfl, ?_⟩
            have aM := zK (Kd.S_below (zT aa) hb)
            have aN := zK (Kd.S_below (zT ac) hb)
            have aO := zK (Kd.S_below (zT ad) hb)
            have aP := zK (Kd.S_below (zT an) hb)
            have aQ := zK (blk_below (g := am) (o := .cells #[.int .i64 ah, .slice az af.length av] 24 (0, 0)) (zk ab) hb)
            have aR := zK (blk_below (g := ar) (o := .cells #[.int .i64 ao, .slice aC ai.length aD] 24 (0, 0)) (zk ae) hb)
            have aT := zK (blk_below (g := ak) (o := .cells #[.int .i64 aI, .slice aw au.length ax] 24 (0, 0)) (zk ag) hb)
            have a3 := zK (blk_below (g := aj) (o := .cells #[.int .i64 aL, .slice aW aB.length aX] 24 (0, 0)) (zk al) hb)
            have a7 := zK (below_step (zb HB) hb)
            clear aa ac ad an ab ae ag al HB; have aa := aM; have ac := aN; have ad := aO; have an := aP; have ab := aQ; have ae := aR; have ag := aT; have al := a3; have HB := a7; clear aM aN aO aP aQ aR aT a3 a7; (try clear hb); (try clear hb2); (try clear hk); (try clear hi)
            refine hK.out _ _ ⟨(blk_cell ae.out 0).trans rfl, (blk_cell ae.out 1).trans rfl, (blk_cell ab.out 0).trans rfl, (blk_cell ab.out 1).trans rfl⟩ (fun hHeld => ?_)
            clear hK K
            refine norm_ (a' := ?_) ?_ ?_
            rotate_left
            ·show Act.put _ (some 144) _ = _
             simp only [Act.put, zp, zq, zr, i64_w, i32_w]
             rfl
            refine one_ (i := 6) (N := some 146) #[tt, tt, tt, tt, tt, tt, tt, ff, ff, ff, ff, ff, ff, ff, ff, ff, ff, ff, ff, ff] rfl rfl (one_of HT_.out (by kernel_rfl)) (by decide) (fun K hK => ?_)
            refine goes_ Try.func16 (by kernel_rfl) rfl #[.agg #[.int .i64 ah, .slice az af.length av]] (by rfl) rfl rfl (by (try simp only [List.map_toArray, List.map_cons, List.map_nil]); first | done | rfl | (simp only [List.length_drop, List.length_take]; rfl)) ?_
            with_reducible refine (laws_kept.calls k2 ah _ _ af bI _ ?side1 ?side2 A102.out).mono ?_
            (case side1 => repeat (first | exact (Kd.S_reads' aa.out).2.2 | (with_reducible refine Kd.C_alloc ?_ _) | (with_reducible refine Kd.C_drewN ?_ _) | (with_reducible refine Kd.C_drew ?_)))
            (case side2 => exact (Kd.S_reads' aa.out).2.1)
            rintro e w113 ⟨rfl, hb⟩
            refine ⟨_, rfl, ?_⟩
            have aM := zK (Kd.S_below (zT aa) hb)
            have aN := zK (Kd.S_below (zT ac) hb)
            have aO := zK (Kd.S_below (zT ad) hb)
            have aP := zK (Kd.S_below (zT an) hb)
            have aQ := zK (blk_below (g := am) (o := .cells #[.int .i64 ah, .slice az af.length av] 24 (0, 0)) (zk ab) hb)
            have aR := zK (blk_below (g := ar) (o := .cells #[.int .i64 ao, .slice aC ai.length aD] 24 (0, 0)) (zk ae) hb)
            have aT := zK (blk_below (g := ak) (o := .cells #[.int .i64 aI, .slice aw au.length ax] 24 (0, 0)) (zk ag) hb)
            have a3 := zK (blk_below (g := aj) (o := .cells #[.int .i64 aL, .slice aW aB.length aX] 24 (0, 0)) (zk al) hb)
            have a7 := zK (below_step (zb HB) hb)
            clear aa ac ad an ab ae ag al HB; have aa := aM; have ac := aN; have ad := aO; have an := aP; have ab := aQ; have ae := aR; have ag := aT; have al := a3; have HB := a7; clear aM aN aO aP aQ aR aT a3 a7; (try clear hb); (try clear hb2); (try clear hk); (try clear hi)
            refine hK.out _ _ ⟨(blk_cell ae.out 0).trans rfl, (blk_cell ae.out 1).trans rfl, (blk_cell ab.out 0).trans rfl, (blk_cell ab.out 1).trans rfl⟩ (fun hHeld => ?_)
            clear hK K
            refine norm_ (a' := ?_) ?_ ?_
            rotate_left
            ·show Act.put _ (some 146) _ = _
             simp only [Act.put, zp, zq, zr, i64_w, i32_w]
             rfl
            refine zu 7 (some 147) #[tt, tt, tt, tt, tt, tt, tt, tt, ff, ff, ff, ff, ff, ff, ff, ff, ff, ff, ff, ff] (any_of HT_.out (by kernel_rfl)) ?_
            refine zu 8 (some 148) #[tt, tt, tt, tt, tt, tt, tt, tt, tt, ff, ff, ff, ff, ff, ff, ff, ff, ff, ff, ff] (any_of HT_.out (by kernel_rfl)) ?_
            refine zu 9 (some 149) #[tt, tt, tt, tt, tt, tt, tt, tt, tt, tt, ff, ff, ff, ff, ff, ff, ff, ff, ff, ff] (any_of HT_.out (by kernel_rfl)) ?_
            refine zu 10 (some 150) #[tt, tt, tt, tt, tt, tt, tt, tt, tt, tt, tt, ff, ff, ff, ff, ff, ff, ff, ff, ff] (any_of HT_.out (by kernel_rfl)) ?_
            refine zu 16 (some 156) #[tt, tt, tt, tt, tt, tt, tt, tt, tt, tt, tt, ff, ff, ff, ff, ff, tt, ff, ff, ff] (any_of HT_.out (by kernel_rfl)) ?_
            refine zt 11 (some 151) #[tt, tt, tt, tt, tt, tt, tt, tt, tt, tt, tt, tt, ff, ff, ff, ff, tt, ff, ff, ff] (take_ofW HT_.out HW_.out (by kernel_rfl)) hHeld ?_
            refine zt 13 (some 153) #[tt, tt, tt, tt, tt, tt, tt, tt, tt, tt, tt, tt, ff, tt, ff, ff, tt, ff, ff, ff] (take_ofW HT_.out HW_.out (by kernel_rfl)) hHeld ?_
            refine one_ (i := 12) (N := some 152) #[tt, tt, tt, tt, tt, tt, tt, tt, tt, tt, tt, tt, tt, tt, ff, ff, tt, ff, ff, ff] rfl rfl (one_of HT_.out (by kernel_rfl)) (by decide) (fun K hK => ?_)
            refine goes_ Try.func19 (by kernel_rfl) rfl #[.agg #[.int .i64 ao, .slice aC ai.length aD]] (by rfl) rfl rfl (by (try simp only [List.map_toArray, List.map_cons, List.map_nil]); first | done | rfl | (simp only [List.length_drop, List.length_take]; rfl)) ?_
            with_reducible refine (impl_Buried.calls k2 ao _ _ ai bO _ ?side1 ?side2 A104.out).mono ?_
            (case side1 => repeat (first | exact (Kd.S_reads' ac.out).2.2 | (with_reducible refine Kd.C_alloc ?_ _) | (with_reducible refine Kd.C_drewN ?_ _) | (with_reducible refine Kd.C_drew ?_)))
            (case side2 => exact (Kd.S_reads' ac.out).2.1)
            rintro e w114 ⟨rfl, hb⟩
            refine ⟨_, rfl, ?_⟩
            have aM := zK (Kd.S_below (zT aa) hb)
            have aN := zK (Kd.S_below (zT ac) hb)
            have aO := zK (Kd.S_below (zT ad) hb)
            have aP := zK (Kd.S_below (zT an) hb)
            have aQ := zK (blk_below (g := am) (o := .cells #[.int .i64 ah, .slice az af.length av] 24 (0, 0)) (zk ab) hb)
            have aR := zK (blk_below (g := ar) (o := .cells #[.int .i64 ao, .slice aC ai.length aD] 24 (0, 0)) (zk ae) hb)
            have aT := zK (blk_below (g := ak) (o := .cells #[.int .i64 aI, .slice aw au.length ax] 24 (0, 0)) (zk ag) hb)
            have a3 := zK (blk_below (g := aj) (o := .cells #[.int .i64 aL, .slice aW aB.length aX] 24 (0, 0)) (zk al) hb)
            have a7 := zK (below_step (zb HB) hb)
            clear aa ac ad an ab ae ag al HB; have aa := aM; have ac := aN; have ad := aO; have an := aP; have ab := aQ; have ae := aR; have ag := aT; have al := a3; have HB := a7; clear aM aN aO aP aQ aR aT a3 a7; (try clear hb); (try clear hb2); (try clear hk); (try clear hi)
            refine hK.out _ _ ⟨(blk_cell ae.out 0).trans rfl, (blk_cell ae.out 1).trans rfl, (blk_cell ab.out 0).trans rfl, (blk_cell ab.out 1).trans rfl⟩ (fun hHeld => ?_)
            clear hK K
            refine norm_ (a' := ?_) ?_ ?_
            rotate_left
            ·show Act.put _ (some 152) _ = _
             simp only [Act.put, zp, zq, zr, i64_w, i32_w]
             rfl
            refine one_ (i := 14) (N := some 154) #[tt, tt, tt, tt, tt, tt, tt, tt, tt, tt, tt, tt, tt, tt, tt, ff, tt, ff, ff, ff] rfl rfl (one_of HT_.out (by kernel_rfl)) (by decide) (fun K hK => ?_)
            refine goes_ Try.func19 (by kernel_rfl) rfl #[.agg #[.int .i64 ah, .slice az af.length av]] (by rfl) rfl rfl (by (try simp only [List.map_toArray, List.map_cons, List.map_nil]); first | done | rfl | (simp only [List.length_drop, List.length_take]; rfl)) ?_
            with_reducible refine (impl_Buried.calls k2 ah _ _ af bK _ ?side1 ?side2 A105.out).mono ?_
            (case side1 => repeat (first | exact (Kd.S_reads' aa.out).2.2 | (with_reducible refine Kd.C_alloc ?_ _) | (with_reducible refine Kd.C_drewN ?_ _) | (with_reducible refine Kd.C_drew ?_)))
            (case side2 => exact (Kd.S_reads' aa.out).2.1)
            rintro e w115 ⟨rfl, hb⟩
            refine ⟨_, rfl, ?_⟩
            have aM := zK (Kd.S_below (zT aa) hb)
            have aN := zK (Kd.S_below (zT ac) hb)
            have aO := zK (Kd.S_below (zT ad) hb)
            have aP := zK (Kd.S_below (zT an) hb)
            have aQ := zK (blk_below (g := am) (o := .cells #[.int .i64 ah, .slice az af.length av] 24 (0, 0)) (zk ab) hb)
            have aR := zK (blk_below (g := ar) (o := .cells #[.int .i64 ao, .slice aC ai.length aD] 24 (0, 0)) (zk ae) hb)
            have aT := zK (blk_below (g := ak) (o := .cells #[.int .i64 aI, .slice aw au.length ax] 24 (0, 0)) (zk ag) hb)
            have a3 := zK (blk_below (g := aj) (o := .cells #[.int .i64 aL, .slice aW aB.length aX] 24 (0, 0)) (zk al) hb)
            have a7 := zK (below_step (zb HB) hb)
            clear aa ac ad an ab ae ag al HB; have aa := aM; have ac := aN; have ad := aO; have an := aP; have ab := aQ; have ae := aR; have ag := aT; have al := a3; have HB := a7; clear aM aN aO aP aQ aR aT a3 a7; (try clear hb); (try clear hb2); (try clear hk); (try clear hi)
            refine hK.out _ _ ⟨(blk_cell ae.out 0).trans rfl, (blk_cell ae.out 1).trans rfl, (blk_cell ab.out 0).trans rfl, (blk_cell ab.out 1).trans rfl⟩ (fun hHeld => ?_)
            clear hK K
            refine norm_ (a' := ?_) ?_ ?_
            rotate_left
            ·show Act.put _ (some 154) _ = _
             simp only [Act.put, zp, zq, zr, i64_w, i32_w]
             rfl
            refine zu 15 (some 155) #[tt, tt, tt, tt, tt, tt, tt, tt, tt, tt, tt, tt, tt, tt, tt, tt, tt, ff, ff, ff] (any_of HT_.out (by kernel_rfl)) ?_
            refine zu 17 (some 157) #[tt, tt, tt, tt, tt, tt, tt, tt, tt, tt, tt, tt, tt, tt, tt, tt, tt, tt, ff, ff] (any_of HT_.out (by kernel_rfl)) ?_
            refine zu 18 (some 158) #[tt, tt, tt, tt, tt, tt, tt, tt, tt, tt, tt, tt, tt, tt, tt, tt, tt, tt, tt, ff] (any_of HT_.out (by kernel_rfl)) ?_
            refine zu 19 (some 2) #[tt, tt, tt, tt, tt, tt, tt, tt, tt, tt, tt, tt, tt, tt, tt, tt, tt, tt, tt, tt] (any_of HT_.out (by kernel_rfl)) ?_
            refine done_ (done_of HT_.out (by kernel_rfl)) ?_
            try go_wp2
            go_ret
            exact ⟨by first | rfl | (simp [errW_none, errW_some] <;> rfl) | (simp [*, errW_none, errW_some] <;> rfl), by repeat (first | (with_reducible first | exact HB.out | apply zB | apply zC | apply zE | refine zS ?_ aA.out | refine zS ?_ aE.out | refine zS ?_ aJ.out | refine zS ?_ a4.out) | exact HB.out)⟩
           ·rw [if_neg cd] at H
            have dp : (bJ == (wrap64 (bI + 1))) = false := beq_eq_false_iff_ne.mpr cd
            have dq : (bJ != (wrap64 (bI + 1))) = true := bne_iff_ne.mpr cd
            exact absurd (H.trans (congrArg some hrt.out)) (by simp)
          ·replace cV := Bool.eq_false_iff.mpr cV
           subst cV
           have H1 : (some false) = some r := by rw [if_neg (show ¬ (false = true) by decide)] at H; exact H
           clear H; have H := H1; clear H1
           exact absurd (H.trans (congrArg some hrt.out)) (by simp)
      ·replace dt := Bool.eq_false_iff.mpr dt
       subst dt
       have H1 : (some true) = some r := by rw [if_neg (show ¬ (false = true) by decide)] at H; exact H
       clear H; have H := H1; clear H1; obtain rfl := Option.some.inj H
       try go_wp2_with (first | ((with_reducible refine gate_callee (f := 34) rfl ?_); refine goesL_ (some 80) rfl rfl Try.func34 (by kernel_rfl) rfl #[.slice A0 l0.length c0] rfl (by (try simp only [List.map_toArray, List.map_cons, List.map_nil]); first | done | rfl | (simp only [List.length_drop, List.length_take]; rfl)) ?_; (with_reducible refine (spec_DrawLaneFor.calls kj6 _ _ l0 aL aB bE bF _ ?side1 ?side2 A48.out).mono ?_); (case side1 => repeat (first | exact (Kd.C_below dv.out HB.out) | (with_reducible refine Kd.C_alloc ?_ _) | (with_reducible refine Kd.C_drewN ?_ _) | (with_reducible refine Kd.C_drew ?_))); (case side2 => exact dw.out); rintro e w116 ⟨v760, rfl, ho0, hb⟩; refine ⟨_, rfl, ?_⟩; have aM := zK (Kd.S_elder' (zT aa) (Kd.S_base ho0) hb); have aN := zK (Kd.S_elder' (zT ac) (Kd.S_base ho0) hb); have aO := zK (Kd.S_elder' (zT ad) (Kd.S_base ho0) hb); have aP := zK (Kd.S_lower (Kd.S_new' (Kd.S_new' (Kd.S_new' ho0 (Kd.S_lt (zT aa))) (Kd.S_lt (zT ac))) (Kd.S_lt (zT ad))) (below_size (zb HB))); have aQ := zK (blk_below (g := am) (o := .cells #[.int .i64 ah, .slice az af.length av] 24 (0, 0)) (zk ab) hb); have aR := zK (blk_below (g := ar) (o := .cells #[.int .i64 ao, .slice aC ai.length aD] 24 (0, 0)) (zk ae) hb); have aT := zK (blk_below (g := ak) (o := .cells #[.int .i64 aI, .slice aw au.length ax] 24 (0, 0)) (zk ag) hb); have a3 := zK (below_step (zb HB) hb); clear aa; clear ac; clear ad; clear ab; clear ae; clear ag; clear HB; have aa := aM; have ac := aN; have ad := aO; have aH := aP; have ab := aQ; have ae := aR; have ag := aT; have HB := a3; clear aM aN aO aP aQ aR aT a3; (try clear hb); (try clear ho0)) | ((with_reducible refine gate_dst (N := 12) rfl ?_); refine box_event ?hg (N := 12) ?hd (cs := #[.int .i64 0, .slice none 0 0]) (t := 24) ?hr ?_; (case hd => rfl); (case hg => rfl); (case hr => first | (go_simp; done) | (go_simp; rfl)); intro aj hg bL hbox hb; have aM := zK (Kd.S_below (zT aa) hb); have aN := zK (Kd.S_below (zT ac) hb); have aO := zK (Kd.S_below (zT ad) hb); have aP := zK (Kd.S_below (zT aH) hb); have aQ := zK (blk_below (g := am) (o := .cells #[.int .i64 ah, .slice az af.length av] 24 (0, 0)) (zk ab) hb); have aR := zK (blk_below (g := ar) (o := .cells #[.int .i64 ao, .slice aC ai.length aD] 24 (0, 0)) (zk ae) hb); have aT := zK (blk_below (g := ak) (o := .cells #[.int .i64 aI, .slice aw au.length ax] 24 (0, 0)) (zk ag) hb); have a3 := zK (below_step (zb HB) hb); have a7 := zK (hbox); have cW := zK ((by rw [hg]; exact (below_size (zb HB)) : w.heap.size ≤ aj)); have b2 := zK ((by rw [hg]; exact (below_size (zb HB)) : w.heap.size ≤ aj)); have b3 := zK ((by rw [hg]; exact Nat.ne_of_lt (blk_lt (g := am) (o := .cells #[.int .i64 ah, .slice az af.length av] 24 (0, 0)) (zk ab)) : am ≠ aj)); have b4 := zK ((by rw [hg]; exact Nat.ne_of_gt (blk_lt (g := am) (o := .cells #[.int .i64 ah, .slice az af.length av] 24 (0, 0)) (zk ab)) : aj ≠ am)); have cx := zK ((by rw [hg]; exact Nat.ne_of_lt (blk_lt (g := ar) (o := .cells #[.int .i64 ao, .slice aC ai.length aD] 24 (0, 0)) (zk ae)) : ar ≠ aj)); have cy := zK ((by rw [hg]; exact Nat.ne_of_gt (blk_lt (g := ar) (o := .cells #[.int .i64 ao, .slice aC ai.length aD] 24 (0, 0)) (zk ae)) : aj ≠ ar)); have cz := zK ((by rw [hg]; exact Nat.ne_of_lt (blk_lt (g := ak) (o := .cells #[.int .i64 aI, .slice aw au.length ax] 24 (0, 0)) (zk ag)) : ak ≠ aj)); have cA := zK ((by rw [hg]; exact Nat.ne_of_gt (blk_lt (g := ak) (o := .cells #[.int .i64 aI, .slice aw au.length ax] 24 (0, 0)) (zk ag)) : aj ≠ ak)); clear aa; clear ac; clear ad; clear aH; clear ab; clear ae; clear ag; clear HB; have aa := aM; have ac := aN; have ad := aO; have aH := aP; have ab := aQ; have ae := aR; have ag := aT; have HB := a3; have al := a7; have dJ := cW; have a4 := b2; have aS := b3; have a0 := b4; have be := cx; have bG := cy; have bf := cz; have bH := cA; clear aM aN aO aP aQ aR aT a3 a7 cW b2 b3 b4 cx cy cz cA; clear hb hbox hg; have hnb118 := a0.out; have hnc118 := aS.out; have hnb119 := bG.out; have hnc119 := be.out; have hnb120 := bH.out; have hnc120 := bf.out; have dV : bL.cell? ⟨aj, 0, none⟩ = some (.int .i64 0) := (blk_cell al.out 0).trans rfl; have dW : bL.cell? ⟨aj, 1, none⟩ = some (.slice none 0 0) := (blk_cell al.out 1).trans rfl; have dX := blk_frozen al.out 0; have dY := blk_frozen al.out 1; obtain ⟨a1, a2, dZ⟩ := Kd.S_slice aH.out; subst dZ))
       have aM : Aside0 (Kd.S (Kd.slice 30 k30) 28 ((bL.setCell ⟨aj, 0, none⟩ (.int .i64 aL)).setCell ⟨aj, 1, none⟩ (.slice a1 aB.length a2)) w.heap.size (fun k_ => some k_ ≠ (.slice aC ai.length aD : Value).ownBlock ∧ some k_ ≠ (.slice aw au.length ax : Value).ownBlock ∧ some k_ ≠ (.slice a1 aB.length a2 : Value).ownBlock) (.slice az af.length av) af) := ⟨by (with_reducible repeat (first | apply Kd.S_alloc | apply Kd.S_drewN | apply Kd.S_drew)); exact Kd.S_mono (Kd.S_far (p := ⟨aj, 1, none⟩) (Kd.S_far (p := ⟨aj, 0, none⟩) (Kd.S_types aa.out al.out (by decide)) (fun _ hk => hk.2) (.int .i64 aL)) (fun _ hk => hk.2) (.slice a1 aB.length a2)) (fun _ hk => ⟨hk.1.1.1, ⟨hk.1.1.2, hk.1.2⟩⟩)⟩
       have aN : Aside0 (Kd.S (Kd.slice 30 k30) 28 ((bL.setCell ⟨aj, 0, none⟩ (.int .i64 aL)).setCell ⟨aj, 1, none⟩ (.slice a1 aB.length a2)) w.heap.size (fun k_ => some k_ ≠ (.slice az af.length av : Value).ownBlock ∧ some k_ ≠ (.slice aw au.length ax : Value).ownBlock ∧ some k_ ≠ (.slice a1 aB.length a2 : Value).ownBlock) (.slice aC ai.length aD) ai) := ⟨by (with_reducible repeat (first | apply Kd.S_alloc | apply Kd.S_drewN | apply Kd.S_drew)); exact Kd.S_mono (Kd.S_far (p := ⟨aj, 1, none⟩) (Kd.S_far (p := ⟨aj, 0, none⟩) (Kd.S_types ac.out al.out (by decide)) (fun _ hk => hk.2) (.int .i64 aL)) (fun _ hk => hk.2) (.slice a1 aB.length a2)) (fun _ hk => ⟨hk.1.1.1, ⟨hk.1.1.2, hk.1.2⟩⟩)⟩
       have aO : Aside0 (Kd.S (Kd.slice 30 k30) 28 ((bL.setCell ⟨aj, 0, none⟩ (.int .i64 aL)).setCell ⟨aj, 1, none⟩ (.slice a1 aB.length a2)) w.heap.size (fun k_ => some k_ ≠ (.slice az af.length av : Value).ownBlock ∧ some k_ ≠ (.slice aC ai.length aD : Value).ownBlock ∧ some k_ ≠ (.slice a1 aB.length a2 : Value).ownBlock) (.slice aw au.length ax) au) := ⟨by (with_reducible repeat (first | apply Kd.S_alloc | apply Kd.S_drewN | apply Kd.S_drew)); exact Kd.S_mono (Kd.S_far (p := ⟨aj, 1, none⟩) (Kd.S_far (p := ⟨aj, 0, none⟩) (Kd.S_types ad.out al.out (by decide)) (fun _ hk => hk.2) (.int .i64 aL)) (fun _ hk => hk.2) (.slice a1 aB.length a2)) (fun _ hk => ⟨hk.1.1.1, ⟨hk.1.1.2, hk.1.2⟩⟩)⟩
       have aP : Aside0 (Kd.S (Kd.slice 30 k30) 28 ((bL.setCell ⟨aj, 0, none⟩ (.int .i64 aL)).setCell ⟨aj, 1, none⟩ (.slice a1 aB.length a2)) w.heap.size (fun k_ => some k_ ≠ (.slice az af.length av : Value).ownBlock ∧ some k_ ≠ (.slice aC ai.length aD : Value).ownBlock ∧ some k_ ≠ (.slice aw au.length ax : Value).ownBlock) (.slice a1 aB.length a2) aB) := ⟨by (with_reducible repeat (first | apply Kd.S_alloc | apply Kd.S_drewN | apply Kd.S_drew)); exact Kd.S_mono (Kd.S_far (p := ⟨aj, 1, none⟩) (Kd.S_far (p := ⟨aj, 0, none⟩) (Kd.S_types aH.out al.out (by decide)) (fun _ hk => hk.2) (.int .i64 aL)) (fun _ hk => hk.2) (.slice a1 aB.length a2)) (fun _ hk => ⟨hk.1.1.1.2, ⟨hk.1.1.2, hk.1.2⟩⟩)⟩
       have aQ : Aside0 (((bL.setCell ⟨aj, 0, none⟩ (.int .i64 aL)).setCell ⟨aj, 1, none⟩ (.slice a1 aB.length a2)).heap[am]? = some (.cells #[.int .i64 ah, .slice az af.length av] 24 (0, 0))) := ⟨by (with_reducible repeat (first | refine zN ?_ _ | refine zD ?_ | refine zA ?_ _)); refine blk_far ?_ aS.out _; (with_reducible repeat (first | refine zN ?_ _ | refine zD ?_ | refine zA ?_ _)); refine blk_far ?_ aS.out _; (with_reducible repeat (first | refine zN ?_ _ | refine zD ?_ | refine zA ?_ _)); exact ab.out⟩
       have aR : Aside0 (((bL.setCell ⟨aj, 0, none⟩ (.int .i64 aL)).setCell ⟨aj, 1, none⟩ (.slice a1 aB.length a2)).heap[ar]? = some (.cells #[.int .i64 ao, .slice aC ai.length aD] 24 (0, 0))) := ⟨by (with_reducible repeat (first | refine zN ?_ _ | refine zD ?_ | refine zA ?_ _)); refine blk_far ?_ be.out _; (with_reducible repeat (first | refine zN ?_ _ | refine zD ?_ | refine zA ?_ _)); refine blk_far ?_ be.out _; (with_reducible repeat (first | refine zN ?_ _ | refine zD ?_ | refine zA ?_ _)); exact ae.out⟩
       have aT : Aside0 (((bL.setCell ⟨aj, 0, none⟩ (.int .i64 aL)).setCell ⟨aj, 1, none⟩ (.slice a1 aB.length a2)).heap[ak]? = some (.cells #[.int .i64 aI, .slice aw au.length ax] 24 (0, 0))) := ⟨by (with_reducible repeat (first | refine zN ?_ _ | refine zD ?_ | refine zA ?_ _)); refine blk_far ?_ bf.out _; (with_reducible repeat (first | refine zN ?_ _ | refine zD ?_ | refine zA ?_ _)); refine blk_far ?_ bf.out _; (with_reducible repeat (first | refine zN ?_ _ | refine zD ?_ | refine zA ?_ _)); exact ag.out⟩
       have a3 : Aside0 (((bL.setCell ⟨aj, 0, none⟩ (.int .i64 aL)).setCell ⟨aj, 1, none⟩ (.slice a1 aB.length a2)).heap[aj]? = some (.cells #[.int .i64 aL, .slice a1 aB.length a2] 24 (0, 0))) := ⟨by (with_reducible repeat (first | refine zN ?_ _ | refine zD ?_ | refine zA ?_ _)); refine blk_put (cs := #[.int .i64 aL, .slice none 0 0]) ?_ 1 _ rfl; (with_reducible repeat (first | refine zN ?_ _ | refine zD ?_ | refine zA ?_ _)); refine blk_put (cs := #[.int .i64 0, .slice none 0 0]) ?_ 0 _ rfl; (with_reducible repeat (first | refine zN ?_ _ | refine zD ?_ | refine zA ?_ _)); exact al.out⟩
       have a7 : Aside0 (Below w.heap.size w ((bL.setCell ⟨aj, 0, none⟩ (.int .i64 aL)).setCell ⟨aj, 1, none⟩ (.slice a1 aB.length a2))) := ⟨zb HB⟩
       (try clear aa); (try clear ac); (try clear ad); (try clear aH); (try clear ab); (try clear ae); (try clear ag); (try clear al); (try clear HB)
       generalize ((bL.setCell ⟨aj, 0, none⟩ (.int .i64 aL)).setCell ⟨aj, 1, none⟩ (.slice a1 aB.length a2)) = w123 at aM aN aO aP aQ aR aT a3 a7 ⊢
       have aa := aM; have ac := aN; have ad := aO; have aH := aP; have ab := aQ; have ae := aR; have ag := aT; have al := a3; have HB := a7; clear aM aN aO aP aQ aR aT a3 a7
       have aM := zK (Kd.S_drew aa.out)
       have aN := zK (Kd.S_drew ac.out)
       have aO := zK (Kd.S_drew ad.out)
       have aP := zK (Kd.S_drew aH.out)
       have aQ := zK (zD ab.out)
       have aR := zK (zD ae.out)
       have aT := zK (zD ag.out)
       have a3 := zK (zD al.out)
       have a7 := zK (zE HB.out)
       clear aa ac ad aH ab ae ag al HB; have aa := aM; have ac := aN; have ad := aO; have aH := aP; have ab := aQ; have ae := aR; have ag := aT; have al := a3; have HB := a7; clear aM aN aO aP aQ aR aT a3 a7
       refine start_ (n := 9) (S := fun w' => w'.cell? ⟨aj, 0, none⟩ = some (.int .i64 aL) ∧ w'.cell? ⟨aj, 1, none⟩ = some (.slice a1 aB.length a2)) (ds := []) #[ff, ff, ff, ff, ff, ff, ff, ff, ff] (by kernel_rfl) rfl rfl ⟨(blk_cell al.out 0).trans rfl, (blk_cell al.out 1).trans rfl⟩ (fun hHeld => ?_); refine with_tabW laws_FnStorePuts.tab9 laws_FnStorePuts.bits9 (fun HT_ HW_ => ?_)
       generalize w123.drew = w124 at aa ac ad aH ab ae ag al HB hHeld ⊢
       refine zu 1 (some 85) #[ff, tt, ff, ff, ff, ff, ff, ff, ff] (any_of HT_.out (by kernel_rfl)) ?_
       refine zu 2 (some 86) #[ff, tt, tt, ff, ff, ff, ff, ff, ff] (any_of HT_.out (by kernel_rfl)) ?_
       refine zu 5 (some 89) #[ff, tt, tt, ff, ff, tt, ff, ff, ff] (any_of HT_.out (by kernel_rfl)) ?_
       refine zu 6 (some 90) #[ff, tt, tt, ff, ff, tt, tt, ff, ff] (any_of HT_.out (by kernel_rfl)) ?_
       refine zt 0 (some 84) #[tt, tt, tt, ff, ff, tt, tt, ff, ff] (take_ofW HT_.out HW_.out (by kernel_rfl)) hHeld ?_
       refine zt 4 (some 88) #[tt, tt, tt, ff, tt, tt, tt, ff, ff] (take_ofW HT_.out HW_.out (by kernel_rfl)) hHeld ?_
       refine one_ (i := 3) (N := some 87) #[tt, tt, tt, tt, tt, tt, tt, ff, ff] rfl rfl (one_of HT_.out (by kernel_rfl)) (by decide) (fun K hK => ?_)
       refine goes_ Try.func27 (by kernel_rfl) rfl #[.agg #[.int .i64 aL, .slice a1 aB.length a2], .int .i64 bE, .int .i64 bF] (by rfl) rfl rfl (by (try simp only [List.map_toArray, List.map_cons, List.map_nil]); first | done | rfl | (simp only [List.length_drop, List.length_take]; rfl)) ?_
       with_reducible refine (impl_LaneFor.calls kj6 aL _ _ aB bE bF bD _ ?side1 ?side2 A49.out).mono ?_
       (case side1 => repeat (first | exact (Kd.S_reads' aH.out).2.2 | (with_reducible refine Kd.C_alloc ?_ _) | (with_reducible refine Kd.C_drewN ?_ _) | (with_reducible refine Kd.C_drew ?_)))
       (case side2 => exact (Kd.S_reads' aH.out).2.1)
       rintro e w125 ⟨rfl, hb⟩
       refine ⟨_, rfl, ?_⟩
       have aM := zK (Kd.S_below (zT aa) hb)
       have aN := zK (Kd.S_below (zT ac) hb)
       have aO := zK (Kd.S_below (zT ad) hb)
       have aP := zK (Kd.S_below (zT aH) hb)
       have aQ := zK (blk_below (g := am) (o := .cells #[.int .i64 ah, .slice az af.length av] 24 (0, 0)) (zk ab) hb)
       have aR := zK (blk_below (g := ar) (o := .cells #[.int .i64 ao, .slice aC ai.length aD] 24 (0, 0)) (zk ae) hb)
       have aT := zK (blk_below (g := ak) (o := .cells #[.int .i64 aI, .slice aw au.length ax] 24 (0, 0)) (zk ag) hb)
       have a3 := zK (blk_below (g := aj) (o := .cells #[.int .i64 aL, .slice a1 aB.length a2] 24 (0, 0)) (zk al) hb)
       have a7 := zK (below_step (zb HB) hb)
       clear aa ac ad aH ab ae ag al HB; have aa := aM; have ac := aN; have ad := aO; have aH := aP; have ab := aQ; have ae := aR; have ag := aT; have al := a3; have HB := a7; clear aM aN aO aP aQ aR aT a3 a7; (try clear hb); (try clear hb2); (try clear hk); (try clear hi)
       refine hK.out _ _ ⟨(blk_cell al.out 0).trans rfl, (blk_cell al.out 1).trans rfl⟩ (fun hHeld => ?_)
       clear hK K
       refine norm_ (a' := ?_) ?_ ?_
       rotate_left
       ·show Act.put _ (some 87) _ = _
        simp only [Act.put, zp, zq, zr, i64_w, i32_w]
        rfl
       refine one_ (i := 7) (N := some 91) #[tt, tt, tt, tt, tt, tt, tt, tt, ff] rfl rfl (one_of HT_.out (by kernel_rfl)) (by decide) (fun K hK => ?_)
       refine goes_ Try.func26 (by kernel_rfl) rfl #[.agg #[.int .i64 aL, .slice a1 aB.length a2], .int .i64 bE, .int .i64 bF] (by rfl) rfl rfl (by (try simp only [List.map_toArray, List.map_cons, List.map_nil]); first | done | rfl | (simp only [List.length_drop, List.length_take]; rfl)) ?_
       with_reducible refine (spec_LaneFor.calls kj6 aL _ _ aB bE bF bz _ ?side1 ?side2 dx.out).mono ?_
       (case side1 => repeat (first | exact (Kd.S_reads' aH.out).2.2 | (with_reducible refine Kd.C_alloc ?_ _) | (with_reducible refine Kd.C_drewN ?_ _) | (with_reducible refine Kd.C_drew ?_)))
       (case side2 => exact (Kd.S_reads' aH.out).2.1)
       rintro e w126 ⟨rfl, hb⟩
       refine ⟨_, rfl, ?_⟩
       have aM := zK (Kd.S_below (zT aa) hb)
       have aN := zK (Kd.S_below (zT ac) hb)
       have aO := zK (Kd.S_below (zT ad) hb)
       have aP := zK (Kd.S_below (zT aH) hb)
       have aQ := zK (blk_below (g := am) (o := .cells #[.int .i64 ah, .slice az af.length av] 24 (0, 0)) (zk ab) hb)
       have aR := zK (blk_below (g := ar) (o := .cells #[.int .i64 ao, .slice aC ai.length aD] 24 (0, 0)) (zk ae) hb)
       have aT := zK (blk_below (g := ak) (o := .cells #[.int .i64 aI, .slice aw au.length ax] 24 (0, 0)) (zk ag) hb)
       have a3 := zK (blk_below (g := aj) (o := .cells #[.int .i64 aL, .slice a1 aB.length a2] 24 (0, 0)) (zk al) hb)
       have a7 := zK (below_step (zb HB) hb)
       clear aa ac ad aH ab ae ag al HB; have aa := aM; have ac := aN; have ad := aO; have aH := aP; have ab := aQ; have ae := aR; have ag := aT; have al := a3; have HB := a7; clear aM aN aO aP aQ aR aT a3 a7; (try clear hb); (try clear hb2); (try clear hk); (try clear hi)
       refine hK.out _ _ ⟨(blk_cell al.out 0).trans rfl, (blk_cell al.out 1).trans rfl⟩ (fun hHeld => ?_)
       clear hK K
       refine norm_ (a' := ?_) ?_ ?_
       rotate_left
       ·show Act.put _ (some 91) _ = _
        simp only [Act.put, zp, zq, zr, i64_w, i32_w]
        rfl
       refine zu 8 (some 92) #[tt, tt, tt, tt, tt, tt, tt, tt, tt] (any_of HT_.out (by kernel_rfl)) ?_
       refine done_ (done_of HT_.out (by kernel_rfl)) ?_
       try go_wp2
       go_ret
       exact ⟨by first | rfl | (simp [errW_none, errW_some] <;> rfl) | (simp [*, errW_none, errW_some] <;> rfl), by repeat (first | (with_reducible first | exact HB.out | apply zB | apply zC | apply zE | refine zS ?_ aA.out | refine zS ?_ aE.out | refine zS ?_ aJ.out | refine zS ?_ a4.out) | exact HB.out)⟩
     ·rw [if_neg cI] at H
      have cv : (bD == bz) = false := beq_eq_false_iff_ne.mpr cI
      have cw : (bD != bz) = true := bne_iff_ne.mpr cI
      exact absurd (H.trans (congrArg some hrt.out)) (by simp)
end Go.Proofs.Ytheckjlldkkceaa.Px
