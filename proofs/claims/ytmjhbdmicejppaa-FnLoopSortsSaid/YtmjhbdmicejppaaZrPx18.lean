import Derived.Test.YtmjhbdmicejppaaZrPx0
import Derived.Test.YtmjhbdmicejppaaZrPx17
namespace Go.Proofs.Ytmjhbdmicejppaa.Px
open Go.RowKit Go.Proofs.YtmjhbdmicejppaaW.PrintWords Go.Proofs.YtmjhbdmicejppaaW.PrintLast Go.Proofs.YtmjhbdmicejppaaW.PrintMore
attribute [local go_sem] max2_int min2_int max_two min_two max_three min_three max_four min_four   
set_option linter.unusedVariables false
set_option linter.unusedSimpArgs false
mutual
def spec_l05Loop.l0 : Nat → Int → Int → List Int → Int → Int → List Int → Int → Option (List Int × Int × (List (S69)) × (List (S74)) × Int × Int)
 | 0, _, _, _, _, _, _, _ => none
 | k + 1, x4, x5, x1000, x1001, x1002, x128000, x128001 => if x5 > 0 then ((spec_l01Below.f x1000 x1001 x1002 x4).bind fun bt134 => (if 0 ≤ bt134.1 then (if bt134.1 < (x128000.length : Int) then (spec_l05Loop.l0 k x4 (wrap64 (x5 - 1)) x1000 bt134.2.1 bt134.2.2 (x128000.set (bt134.1 : Int).toNat x5) x128001) else (none)) else (none))) else ((spec_l01Below.f x1000 x1001 x1002 x4).bind fun bt138 => ((spec_l01Below.f x1000 bt138.2.1 bt138.2.2 4).bind fun bt141 => (spec_l05Loop.l1 k x4 bt138.1 (mn x4 bt141.1) x1000 bt141.2.1 bt141.2.2 x128000 x128001 ([] : List (S69)))))
def spec_l05Loop.l1 : Nat → Int → Int → Int → List Int → Int → Int → List Int → Int → List (S69) → Option (List Int × Int × (List (S69)) × (List (S74)) × Int × Int)
 | 0, _, _, _, _, _, _, _, _, _ => none
 | k + 1, x4, x6, x7, x1000, x1001, x1002, x128000, x128001, x128002 => if x7 > 0 then (if x4 = 0 then (none) else ((spec_l01Below.f x1000 x1001 x1002 4).bind fun bt144 => (if bt144.1 > 0 then ((spec_l01Once.f x1000 bt144.2.1 bt144.2.2 3).bind fun bt148 => (spec_l05Loop.j2 k x4 x6 x7 bt148.1 x1000 bt148.2.1 bt148.2.2 x128000 x128001 x128002 (Int.tmod (wrap64 (x6 + (wrap64 (x7 * (wrap64 (1 + (wrap64 (Int.tdiv x4 4)))))))) x4) bt144.1)) else (spec_l05Loop.j2 k x4 x6 x7 false x1000 bt144.2.1 bt144.2.2 x128000 x128001 x128002 (Int.tmod (wrap64 (x6 + (wrap64 (x7 * (wrap64 (1 + (wrap64 (Int.tdiv x4 4)))))))) x4) bt144.1)))) else (spec_l05Loop.l3 k 1 x1000 x1001 x1002 x128000 x128001 x128002 ([] : List (S74)))
def spec_l05Loop.j2 : Nat → Int → Int → Int → Bool → List Int → Int → Int → List Int → Int → List (S69) → Int → Int → Option (List Int × Int × (List (S69)) × (List (S74)) × Int × Int)
 | 0, _, _, _, _, _, _, _, _, _, _, _, _ => none
 | k + 1, x4, x6, x7, x68, x1000, x1001, x1002, x128000, x128001, x128002, x148000, x148001 => if x68 = true then (spec_l05Loop.j3 k x4 x6 x7 x1000 x1001 x1002 x128000 x128001 x128002 x148000 x148001 (([wrap64 (100 + x7)] : List Int))) else (spec_l05Loop.j3 k x4 x6 x7 x1000 x1001 x1002 x128000 x128001 x128002 x148000 x148001 ([] : List Int))
def spec_l05Loop.j3 : Nat → Int → Int → Int → List Int → Int → Int → List Int → Int → List (S69) → Int → Int → List Int → Option (List Int × Int × (List (S69)) × (List (S74)) × Int × Int)
 | 0, _, _, _, _, _, _, _, _, _, _, _, _ => none
 | k + 1, x4, x6, x7, x1000, x1001, x1002, x128000, x128001, x128002, x148000, x148001, x148002 => spec_l05Loop.l2 k x4 x6 x7 false 0 x1000 x1001 x1002 x128000 x128001 x128002 x148000 x148001 x148002
def spec_l05Loop.l2 : Nat → Int → Int → Int → Bool → Int → List Int → Int → Int → List Int → Int → List (S69) → Int → Int → List Int → Option (List Int × Int × (List (S69)) × (List (S74)) × Int × Int)
 | 0, _, _, _, _, _, _, _, _, _, _, _, _, _, _ => none
 | k + 1, x4, x6, x7, x9, x10, x1000, x1001, x1002, x128000, x128001, x128002, x148000, x148001, x148002 => if x10 < (x128002.length : Int) then (if x9 = true then (spec_l05Loop.l2 k x4 x6 x7 true (wrap64 (x10 + 1)) x1000 x1001 x1002 x128000 x128001 x128002 x148000 x148001 x148002) else (if 0 ≤ x10 then (spec_l05Loop.l2 k x4 x6 x7 (((rd_T69 x128002 x10).f0) == x148000) (wrap64 (x10 + 1)) x1000 x1001 x1002 x128000 x128001 x128002 x148000 x148001 x148002) else (none))) else (if x9 = true then (spec_l05Loop.l1 k x4 x6 (wrap64 (x7 - 1)) x1000 x1001 x1002 x128000 x128001 x128002) else (if x128002.length < 3518437208883 then (spec_l05Loop.l1 k x4 x6 (wrap64 (x7 - 1)) x1000 x1001 x1002 x128000 x128001 (x128002 ++ [(⟨x148000, x148001, x148002⟩ : S69)])) else (none)))
def spec_l05Loop.l3 : Nat → Int → List Int → Int → Int → List Int → Int → List (S69) → List (S74) → Option (List Int × Int × (List (S69)) × (List (S74)) × Int × Int)
 | 0, _, _, _, _, _, _, _, _ => none
 | k + 1, x11, x1000, x1001, x1002, x128000, x128001, x128002, x128003 => if x11 < 8 then (spec_l05Loop.l4 k x11 0 x1000 x1001 x1002 x128000 x128001 x128002 x128003 x11 ([] : List Int)) else (some (x128000, x128001, x128002, x128003, x1001, x1002))
def spec_l05Loop.l4 : Nat → Int → Int → List Int → Int → Int → List Int → Int → List (S69) → List (S74) → Int → List Int → Option (List Int × Int × (List (S69)) × (List (S74)) × Int × Int)
 | 0, _, _, _, _, _, _, _, _, _, _, _ => none
 | k + 1, x11, x13, x1000, x1001, x1002, x128000, x128001, x128002, x128003, x159000, x159001 => if x13 < (x128002.length : Int) then ((spec_l01Once.f x1000 x1001 x1002 3).bind fun bt159 => (if bt159.1 = true then (spec_l05Loop.l4 k x11 (wrap64 (x13 + 1)) x1000 bt159.2.1 bt159.2.2 x128000 x128001 x128002 x128003 x159000 x159001) else (if x159001.length < 17592186044416 then (spec_l05Loop.l4 k x11 (wrap64 (x13 + 1)) x1000 bt159.2.1 bt159.2.2 x128000 x128001 x128002 x128003 x159000 (x159001 ++ [x13])) else (none)))) else ((spec_l01Once.f x1000 x1001 x1002 6).bind fun bt165 => (if bt165.1 = true then (spec_l05Loop.l3 k (wrap64 (x11 + 1)) x1000 bt165.2.1 bt165.2.2 x128000 x128001 x128002 x128003) else (if x128003.length < 4398046511104 then (spec_l05Loop.l3 k (wrap64 (x11 + 1)) x1000 bt165.2.1 bt165.2.2 x128000 x128001 x128002 (x128003 ++ [(⟨x159000, x159001⟩ : S74)])) else (none))))
end
def spec_l05Loop.f (k : Nat) (s0_0 : List Int) (s0_1 : Int) (s0_2 : Int) : Option (List Int × Int × (List (S69)) × (List (S74)) × Int × Int) := (spec_l01Below.f s0_0 s0_1 s0_2 9).bind fun bt121 => (if 0 ≤ (wrap64 (2 + bt121.1)) then (if (wrap64 (2 + bt121.1) : Int).toNat ≤ 35184372088832 then ((some (List.replicate (wrap64 (2 + bt121.1) : Int).toNat 0 : List Int)).bind fun y124 => ((spec_l01Below.f s0_0 bt121.2.1 bt121.2.2 (y124.length : Int)).bind fun bt128 => ((spec_l01Below.f s0_0 bt128.2.1 bt128.2.2 7).bind fun bt131 => (spec_l05Loop.l0 k (y124.length : Int) bt131.1 s0_0 bt131.2.1 bt131.2.2 y124 bt128.1)))) else (none)) else (none))
def spec_l05Loop.T7 : Bool × List (List Nat × List Nat) := (true, [([], []), ([0], [0]), ([], []), ([], []), ([2, 3], [2, 3]), ([], []), ([1, 4, 0, 1, 2, 3, 4, 5], [1, 4]), ([6, 5, 4, 0, 1, 2, 3, 4, 5], [5, 6])])
def spec_l05Loop.B7 : List Nat := [0, 1, 0, 0, 12, 0, 63, 127]
theorem spec_l05Loop.tab7 : rtab .any (opsOf Try.f50 7) = spec_l05Loop.T7 := by kernel_rfl
theorem spec_l05Loop.bits7 : waitsOk spec_l05Loop.T7.2 spec_l05Loop.B7 = true := by kernel_rfl
def spec_l05Loop.T12 : Bool × List (List Nat × List Nat) := (true, [([], []), ([], []), ([], []), ([2], [2]), ([3], [3]), ([1, 4], [1, 4]), ([0, 5], [0, 5]), ([], []), ([6, 7], [6, 7]), ([], []), ([9], [9]), ([8, 10], [8, 10]), ([], []), ([12, 11, 10, 0, 1, 2, 3, 4, 5, 6, 7, 8, 9, 10, 11, 12], [11, 12])])
def spec_l05Loop.B12 : List Nat := [0, 0, 0, 4, 12, 30, 63, 0, 255, 0, 512, 2047, 0, 8191]
theorem spec_l05Loop.tab12 : rtab .any (opsOf Try.f50 12) = spec_l05Loop.T12 := by kernel_rfl
theorem spec_l05Loop.bits12 : waitsOk spec_l05Loop.T12.2 spec_l05Loop.B12 = true := by kernel_rfl
def spec_l05Loop.T19 : Bool × List (List Nat × List Nat) := (true, [([], []), ([0], [0]), ([1], [1]), ([2, 1], [1, 2]), ([1], [1]), ([3, 4, 1], [1, 3, 4]), ([5, 1], [1, 5]), ([6, 1], [1, 6]), ([1], [1]), ([8, 1], [1, 8]), ([7, 9, 1], [1, 7, 9]), ([1, 10], [1, 10]), ([11, 1, 0, 1, 2, 3, 4, 5, 6, 7, 8, 9, 10, 11], [0, 11])])
def spec_l05Loop.B19 : List Nat := [0, 1, 3, 7, 3, 31, 63, 127, 3, 259, 1023, 2047, 4095]
theorem spec_l05Loop.tab19 : rtab .any (opsOf Try.f50 19) = spec_l05Loop.T19 := by kernel_rfl
theorem spec_l05Loop.bits19 : waitsOk spec_l05Loop.T19.2 spec_l05Loop.B19 = true := by kernel_rfl
theorem zc12 {p q : Prop} (h : Aside0 p) (s : p → q := by intro h_; repeat (first | (with_reducible first | exact h_ | apply KeepBut.set_ | apply keep_drewN | apply keep_drew | apply keep_alloc | refine keep_far ?_ (Aside0.out (by assumption)) _) | exact h_)) : q := s h.out
theorem zi12 {p q : Prop} (h : Aside0 p) (s : p → q := by intro h_; repeat (first | (with_reducible first | exact h_ | apply IsS90.alloc | apply IsS90.drewN | apply IsS90.drew | apply IsS90.set_1 | apply IsS90.set_2 | refine IsS90.far ?_ (Aside0.out (by assumption)) _) | exact h_)) : q := s h.out
theorem zj12 {p q : Prop} (h : Aside0 p) (s : p → q := by intro h_; repeat (first | (with_reducible first | exact h_ | apply zB | apply zC | apply zE | refine zS ?_ (Aside0.out (by assumption)) | refine zS ?_ (IsS90.ge (Aside0.out (by assumption)))) | exact h_)) : q := s h.out
set_option maxHeartbeats 8000000 in
set_option maxRecDepth 100000 in
theorem spec_l05Loop.calls (k : Nat) (g : Nat) (am : List Int) (co : Int) (cp : Int) (r1 : List Int) (r2 : Int) (r3 : List (S69)) (r4 : List (S74)) (r5 : Int) (r6 : Int) (w0 w : World) (hI : IsS90 w0 w g am co cp) (hB : Below w0.heap.size w0 w) (h : spec_l05Loop.f k am co cp = some (r1, r2, r3, r4, r5, r6)) :
  Calls Try.prog 50 #[.pointer (some ⟨g, 0, none⟩)] w fun e w' => ∃ v0_ v2_ v3_ : Value, e = .returned (.agg #[v0_, .int .i64 r2, v2_, v3_]) ∧ Kd.R (Kd.int .i64) 3 w' w.heap.size (fun _ => True) v0_ r1 ∧ Kd.S k69 69 w' w.heap.size (fun k_ => some k_ ≠ (v0_ : Value).ownBlock) v2_ r3 ∧ Kd.S k74 74 w' w.heap.size (fun k_ => some k_ ≠ (v0_ : Value).ownBlock) v3_ r4 ∧ IsS90 w0 w' g am r5 r6 ∧ Below w0.heap.size w0 w' ∧ KeepBut w w' g none := by
 have hu28 := Try.underlying28; have hu69 := Try.underlying69; have hu74 := Try.underlying74; have HI0 := zK hI
 have HK := zK (KeepBut.refl w g none)
 have HL := zK hB.size; clear hI; have HW0 := zK hB.size; have HB := zK hB; clear hB
 have H : ((spec_l01Below.f am co cp 9).bind fun bt121 => (if 0 ≤ (wrap64 (2 + bt121.1)) then (if (wrap64 (2 + bt121.1) : Int).toNat ≤ 35184372088832 then ((some (List.replicate (wrap64 (2 + bt121.1) : Int).toNat 0 : List Int)).bind fun aj => ((spec_l01Below.f am bt121.2.1 bt121.2.2 (aj.length : Int)).bind fun bt128 => ((spec_l01Below.f am bt128.2.1 bt128.2.2 7).bind fun bt131 => (spec_l05Loop.l0 k (aj.length : Int) bt131.1 am bt131.2.1 bt131.2.2 aj bt128.1)))) else (none)) else (none))) = some (r1, r2, r3, r4, r5, r6) := h
 clear h; replace H := Option.bind_eq_some_iff.mp H
 obtain ⟨⟨cq, bW, bX⟩, A20, H⟩ := H
 replace H : (if 0 ≤ (wrap64 (2 + cq)) then (if (wrap64 (2 + cq) : Int).toNat ≤ 35184372088832 then ((some (List.replicate (wrap64 (2 + cq) : Int).toNat 0 : List Int)).bind fun aj => ((spec_l01Below.f am bW bX (aj.length : Int)).bind fun bt128 => ((spec_l01Below.f am bt128.2.1 bt128.2.2 7).bind fun bt131 => (spec_l05Loop.l0 k (aj.length : Int) bt131.1 am bt131.2.1 bt131.2.2 aj bt128.1)))) else (none)) else (none)) = some (r1, r2, r3, r4, r5, r6) := H
 have A2 := zK A20; clear A20
 obtain ⟨cy, cz⟩ : ∃ j_ : Int, (wrap64 (2 + cq)) = j_ := ⟨_, rfl⟩
 replace H : (if 0 ≤ (cy) then (if (cy : Int).toNat ≤ 35184372088832 then ((some (List.replicate (cy : Int).toNat 0 : List Int)).bind fun aj => ((spec_l01Below.f am bW bX (aj.length : Int)).bind fun bt128 => ((spec_l01Below.f am bt128.2.1 bt128.2.2 7).bind fun bt131 => (spec_l05Loop.l0 k (aj.length : Int) bt131.1 am bt131.2.1 bt131.2.2 aj bt128.1)))) else (none)) else (none)) = some (r1, r2, r3, r4, r5, r6) := by first | (rw [cz] at H; exact H) | (simp only [cz] at H ⊢; exact H)
 (try rw [cz] at A2)
 have hji3w : (IntKind.i64.wrap (2 + cq)) = cy := (i64_w _).trans cz
 by_cases c4 : 0 ≤ (cy)
 ·rw [if_pos c4] at H
  have c4b0 := eq_true c4
  have c4b1 : decide (0 ≤ (cy)) = true := decide_eq_true c4
  clear c4
  by_cases c5 : (cy : Int).toNat ≤ 35184372088832
  ·rw [if_pos c5] at H
   have c5b0 := eq_true c5
   have c5b1 : decide ((cy : Int).toNat ≤ 35184372088832) = true := decide_eq_true c5
   clear c5
   obtain ⟨aj, bY⟩ : ∃ y_ : List Int, y_ = (List.replicate (cy : Int).toNat 0) := ⟨_, rfl⟩
   replace H : ((spec_l01Below.f am bW bX (aj.length : Int)).bind fun bt128 => ((spec_l01Below.f am bt128.2.1 bt128.2.2 7).bind fun bt131 => (spec_l05Loop.l0 k (aj.length : Int) bt131.1 am bt131.2.1 bt131.2.2 aj bt128.1))) = some (r1, r2, r3, r4, r5, r6) := by first | (rw [bY]; with_reducible exact H) | (have H2_ := (Option.bind_some _ _).symm.trans H; rw [bY]; with_reducible exact H2_) | (have H2_ := (Option.bind_some _ _).symm.trans H; with_reducible exact H2_) | with_reducible exact H | (rw [bY]; exact H) | exact H
   have Ny124 := zK bY; clear bY; replace H := Option.bind_eq_some_iff.mp H
   obtain ⟨⟨ap, cJ, cK⟩, A60, H⟩ := H
   replace H : ((spec_l01Below.f am cJ cK 7).bind fun bt131 => (spec_l05Loop.l0 k (aj.length : Int) bt131.1 am bt131.2.1 bt131.2.2 aj ap)) = some (r1, r2, r3, r4, r5, r6) := H
   have A6 := zK A60; clear A60; replace H := Option.bind_eq_some_iff.mp H
   obtain ⟨⟨dH, dI, dJ⟩, A70, H⟩ := H
   replace H : (spec_l05Loop.l0 k (aj.length : Int) dH am dI dJ aj ap) = some (r1, r2, r3, r4, r5, r6) := H
   have A7 := zK A70; clear A70; have H' := zK H; clear H
   go_enter Try.func50, Try.ntmps50
   go_wp2_with (first | ((with_reducible refine gate_dst (N := 2) rfl ?_); refine zX 2 #[.slice none 0 0, .int .i64 0, .slice none 0 0, .slice none 0 0] 28 ?_; intro ao hg w8 hbox hb; have aX := zK (IsS90.below (zi12 HI0) hb); have aY := zK (KeepBut.trans (by repeat (first | (with_reducible first | exact HK.out | apply KeepBut.set_ | apply keep_drewN | apply keep_drew | apply keep_alloc) | exact HK.out)) (KeepBut.of_below hb g none) (.inl rfl)); have aZ := zK (below_step (zj12 HB) hb); have a0 := zK (hbox); have a3 := zK ((by rw [hg]; exact (keep_size (w := w) (g := g) (row := none) (zc12 HK)) : w.heap.size ≤ ao)); have a4 := zK ((Nat.le_trans HW0.out (by rw [hg]; exact (keep_size (w := w) (g := g) (row := none) (zc12 HK)) : w.heap.size ≤ ao) : w0.heap.size ≤ ao)); have bb := zK ((by rw [hg]; exact Nat.ne_of_lt (IsS90.lt (show IsS90 w0 _ g am co cp from zi12 HI0)) : g ≠ ao)); have bf := zK ((by rw [hg]; exact Nat.ne_of_gt (IsS90.lt (show IsS90 w0 _ g am co cp from zi12 HI0)) : ao ≠ g)); clear HI0; clear HK; clear HB; have HI0 := aX; have HK := aY; have HB := aZ; have af := a0; have au := a3; have aE := a4; have ag := bb; have a6 := bf; clear aX aY aZ a0 a3 a4 bb bf; clear hb hbox hg) | ((with_reducible refine gate_callee (f := 89) rfl ?_); refine goesL_ (some 15) rfl rfl Try.func89 (by kernel_rfl) rfl #[.pointer (some ⟨g, 0, none⟩), .int .i64 9] rfl zg ?_; (with_reducible refine (spec_l01Below.calls g am co cp 9 cq bW bX w0 _ ?side1 ?side2 A2.out).mono ?_); (case side1 => exact zi12 HI0); (case side2 => exact zj12 HB); rintro e w9 ⟨rfl, hi, hb, hk⟩; refine ⟨_, rfl, ?_⟩; have aX := zK (KeepBut.blk hk (g' := ao) (o := .cells #[.slice none 0 0, .int .i64 0, .slice none 0 0, .slice none 0 0] 28 (0, 0)) (zk af) a6.out (by simp)); have aY := zK (KeepBut.trans (by repeat (first | (with_reducible first | exact HK.out | apply KeepBut.set_ | apply keep_drewN | apply keep_drew | apply keep_alloc | refine keep_far ?_ au.out _) | exact HK.out)) hk (.inl rfl)); have aZ := zK (hb); have a0 := zK (hi); clear af; clear HK; clear HB; clear HI0; have af := aX; have HK := aY; have HB := aZ; have HI0 := a0; clear aX aY aZ a0; (try clear hb); (try clear hk); (try clear hi)) | ((with_reducible refine gate_dst (N := 17) rfl ?_); refine Kd.R_make (Kd.int .i64) _ 3 rfl (N := 17) rfl 24 _ _ rfl cy rfl rfl Try.underlying24 (.int .i64 0) 8 info3 rfl (by decide) (by omega) 0 (ok := fun _ => True) (okp := fun _ => True) rfl (fun _ hk => hk) trivial (zd) (Nat.le_trans (Nat.mul_le_mul_right _ (zd : cy.toNat ≤ 35184372088832)) (by omega)) (Below.refl _ _) (Nat.le_refl _) ?_; intro v125 w10 ho11 hb hg_ hnew_; clear hg_ hnew_; (first | rw [← Ny124.out] at ho11 | (simp only [Int.reduceToNat] at ho11; rw [← Ny124.out] at ho11)); have aX := zK (Kd.R_lower ho11 (keep_size (w := w) (g := g) (row := none) (zc12 HK))); have aY := zK (IsS90.below (zi12 HI0) hb); have aZ := zK (blk_below (g := ao) (o := .cells #[.slice none 0 0, .int .i64 0, .slice none 0 0, .slice none 0 0] 28 (0, 0)) (zk af) hb); have a0 := zK (KeepBut.trans (by repeat (first | (with_reducible first | exact HK.out | apply KeepBut.set_ | apply keep_drewN | apply keep_drew | apply keep_alloc | refine keep_far ?_ au.out _) | exact HK.out)) (KeepBut.of_below hb g none) (.inl rfl)); have a3 := zK (below_step (zj12 HB) hb); clear HI0; clear af; clear HK; clear HB; have bn := aX; have HI0 := aY; have af := aZ; have HK := a0; have HB := a3; clear aX aY aZ a0 a3; clear hb ho11; obtain ⟨bN, bO, eo12⟩ := Kd.R_slice bn.out; subst eo12) | ((with_reducible refine gate_dst (N := 3) rfl ?_); refine zX 3 #[.slice none 0 0, .int .i64 0, .slice none 0 0, .slice none 0 0] 28 ?_; intro ai hg w13 hbox hb; have aX := zK (Kd.R_below (zR bn) hb); have aY := zK (IsS90.below (zi12 HI0) hb); have aZ := zK (blk_below (g := ao) (o := .cells #[.slice none 0 0, .int .i64 0, .slice none 0 0, .slice none 0 0] 28 (0, 0)) (zk af) hb); have a0 := zK (KeepBut.trans (by repeat (first | (with_reducible first | exact HK.out | apply KeepBut.set_ | apply keep_drewN | apply keep_drew | apply keep_alloc | refine keep_far ?_ au.out _) | exact HK.out)) (KeepBut.of_below hb g none) (.inl rfl)); have a3 := zK (below_step (zj12 HB) hb); have a4 := zK (hbox); have bb := zK ((by rw [hg]; exact (keep_size (w := w) (g := g) (row := none) (zc12 HK)) : w.heap.size ≤ ai)); have bf := zK ((Nat.le_trans HW0.out (by rw [hg]; exact (keep_size (w := w) (g := g) (row := none) (zc12 HK)) : w.heap.size ≤ ai) : w0.heap.size ≤ ai)); have bh := zK ((by rw [hg]; exact Nat.ne_of_lt (blk_lt (g := ao) (o := .cells #[.slice none 0 0, .int .i64 0, .slice none 0 0, .slice none 0 0] 28 (0, 0)) (zk af)) : ao ≠ ai)); have br := zK ((by rw [hg]; exact Nat.ne_of_gt (blk_lt (g := ao) (o := .cells #[.slice none 0 0, .int .i64 0, .slice none 0 0, .slice none 0 0] 28 (0, 0)) (zk af)) : ai ≠ ao)); have bs := zK ((by rw [hg]; exact Nat.ne_of_lt (IsS90.lt (show IsS90 w0 _ g am bW bX from zi12 HI0)) : g ≠ ai)); have bu := zK ((by rw [hg]; exact Nat.ne_of_gt (IsS90.lt (show IsS90 w0 _ g am bW bX from zi12 HI0)) : ai ≠ g)); clear bn; clear HI0; clear af; clear HK; clear HB; have bn := aX; have HI0 := aY; have af := aZ; have HK := a0; have HB := a3; have ab := a4; have ay := bb; have aJ := bf; have aI := bh; have a5 := br; have ae := bs; have aR := bu; clear aX aY aZ a0 a3 a4 bb bf bh br bs bu; clear hb hbox hg; have hnb14 := a5.out; have hnc14 := aI.out; have hnb15 := aR.out; have hnc15 := ae.out; have cL : w13.cell? ⟨ai, 0, none⟩ = some (.slice none 0 0) := (blk_cell ab.out 0).trans rfl; have cM : w13.cell? ⟨ai, 1, none⟩ = some (.int .i64 0) := (blk_cell ab.out 1).trans rfl; have cN : w13.cell? ⟨ai, 2, none⟩ = some (.slice none 0 0) := (blk_cell ab.out 2).trans rfl; have cO : w13.cell? ⟨ai, 3, none⟩ = some (.slice none 0 0) := (blk_cell ab.out 3).trans rfl; have cP := blk_frozen ab.out 0; have cQ := blk_frozen ab.out 1; have cR := blk_frozen ab.out 2; have cS := blk_frozen ab.out 3) | ((with_reducible refine gate_callee (f := 89) rfl ?_); refine goesL_ (some 24) rfl rfl Try.func89 (by kernel_rfl) rfl #[.pointer (some ⟨g, 0, none⟩), .int .i64 (aj.length : Int)] rfl zg ?_; (with_reducible refine (spec_l01Below.calls g am bW bX (aj.length : Int) ap cJ cK w0 _ ?side1 ?side2 A6.out).mono ?_); (case side1 => exact zi12 HI0); (case side2 => exact zj12 HB); rintro e w17 ⟨rfl, hi, hb, hk⟩; refine ⟨_, rfl, ?_⟩; have aX := zK (KeepBut.blk hk (g' := ao) (o := .cells #[.slice none 0 0, .int .i64 0, .slice none 0 0, .slice none 0 0] 28 (0, 0)) (zh af aI) a6.out (by simp)); have aY := zK (Kd.R_mono (Kd.R_keep (IsS90.apart (show IsS90 w0 _ g am bW bX from zi12 HI0) (by (with_reducible repeat (first | apply Kd.R_alloc | apply Kd.R_drewN | apply Kd.R_drew)); exact (Kd.R_mono (Kd.R_far (p := ⟨ai, 3, none⟩) (Kd.R_far (p := ⟨ai, 2, none⟩) (Kd.R_far (p := ⟨ai, 1, none⟩) (Kd.R_far (p := ⟨ai, 0, none⟩) (Kd.R_types bn.out ab.out (by decide)) (fun _ hk => hk.2) (.slice bN aj.length bO)) (fun _ hk => hk.2) (.int .i64 0)) (fun _ hk => hk.2) (.slice none 0 0)) (fun _ hk => hk.2) (.slice none 0 0)) (fun _ h_ => h_.1))) (by decide)) hk (fun _ h => h.2)) (fun _ h => h.1)); have aZ := zK (KeepBut.blk hk (g' := ai) (o := .cells #[.slice bN aj.length bO, .int .i64 0, .slice none 0 0, .slice none 0 0] 28 (0, 0)) (by (with_reducible repeat (first | refine zN ?_ _ | refine zD ?_ | refine zA ?_ _)); refine blk_put (cs := #[.slice bN aj.length bO, .int .i64 0, .slice none 0 0, .slice none 0 0]) ?_ 3 _ rfl; (with_reducible repeat (first | refine zN ?_ _ | refine zD ?_ | refine zA ?_ _)); refine blk_put (cs := #[.slice bN aj.length bO, .int .i64 0, .slice none 0 0, .slice none 0 0]) ?_ 2 _ rfl; (with_reducible repeat (first | refine zN ?_ _ | refine zD ?_ | refine zA ?_ _)); refine blk_put (cs := #[.slice bN aj.length bO, .int .i64 0, .slice none 0 0, .slice none 0 0]) ?_ 1 _ rfl; (with_reducible repeat (first | refine zN ?_ _ | refine zD ?_ | refine zA ?_ _)); refine blk_put (cs := #[.slice none 0 0, .int .i64 0, .slice none 0 0, .slice none 0 0]) ?_ 0 _ rfl; (with_reducible repeat (first | refine zN ?_ _ | refine zD ?_ | refine zA ?_ _)); exact ab.out) aR.out (by simp)); have a0 := zK (KeepBut.trans (by repeat (first | (with_reducible first | exact HK.out | apply KeepBut.set_ | apply keep_drewN | apply keep_drew | apply keep_alloc | refine keep_far ?_ au.out _ | refine keep_far ?_ ay.out _) | exact HK.out)) hk (.inl rfl)); have a3 := zK (hb); have a4 := zK (hi); clear af; clear bn; clear ab; clear HK; clear HB; clear HI0; have af := aX; have bn := aY; have ab := aZ; have HK := a0; have HB := a3; have HI0 := a4; clear aX aY aZ a0 a3 a4; (try clear hb); (try clear hk); (try clear hi); have cT : w17.cell? ⟨ai, 0, none⟩ = some (.slice bN aj.length bO) := (blk_cell ab.out 0).trans rfl; have cU : w17.cell? ⟨ai, 1, none⟩ = some (.int .i64 0) := (blk_cell ab.out 1).trans rfl; have cV : w17.cell? ⟨ai, 2, none⟩ = some (.slice none 0 0) := (blk_cell ab.out 2).trans rfl; have cW : w17.cell? ⟨ai, 3, none⟩ = some (.slice none 0 0) := (blk_cell ab.out 3).trans rfl; have cX := blk_frozen ab.out 0; have cY := blk_frozen ab.out 1; have cZ := blk_frozen ab.out 2; have c0 := blk_frozen ab.out 3) | ((with_reducible refine gate_callee (f := 89) rfl ?_); refine goesL_ (some 27) rfl rfl Try.func89 (by kernel_rfl) rfl #[.pointer (some ⟨g, 0, none⟩), .int .i64 7] rfl zg ?_; (with_reducible refine (spec_l01Below.calls g am cJ cK 7 dH dI dJ w0 _ ?side1 ?side2 A7.out).mono ?_); (case side1 => exact zi12 HI0); (case side2 => exact zj12 HB); rintro e w19 ⟨rfl, hi, hb, hk⟩; refine ⟨_, rfl, ?_⟩; have aX := zK (KeepBut.blk hk (g' := ao) (o := .cells #[.slice none 0 0, .int .i64 0, .slice none 0 0, .slice none 0 0] 28 (0, 0)) (zh af aI) a6.out (by simp)); have aY := zK (Kd.R_mono (Kd.R_keep (IsS90.apart (show IsS90 w0 _ g am cJ cK from zi12 HI0) (by (with_reducible repeat (first | apply Kd.R_alloc | apply Kd.R_drewN | apply Kd.R_drew)); exact (Kd.R_mono (Kd.R_far (p := ⟨ai, 1, none⟩) (Kd.R_types bn.out ab.out (by decide)) (fun _ hk => hk.2) (.int .i64 ap)) (fun _ h_ => h_.1))) (by decide)) hk (fun _ h => h.2)) (fun _ h => h.1)); have aZ := zK (KeepBut.blk hk (g' := ai) (o := .cells #[.slice bN aj.length bO, .int .i64 ap, .slice none 0 0, .slice none 0 0] 28 (0, 0)) (by (with_reducible repeat (first | refine zN ?_ _ | refine zD ?_ | refine zA ?_ _)); refine blk_put (cs := #[.slice bN aj.length bO, .int .i64 0, .slice none 0 0, .slice none 0 0]) ?_ 1 _ rfl; (with_reducible repeat (first | refine zN ?_ _ | refine zD ?_ | refine zA ?_ _)); exact ab.out) aR.out (by simp)); have a0 := zK (KeepBut.trans (by repeat (first | (with_reducible first | exact HK.out | apply KeepBut.set_ | apply keep_drewN | apply keep_drew | apply keep_alloc | refine keep_far ?_ au.out _ | refine keep_far ?_ ay.out _) | exact HK.out)) hk (.inl rfl)); have a3 := zK (hb); have a4 := zK (hi); clear af; clear bn; clear ab; clear HK; clear HB; clear HI0; have af := aX; have bn := aY; have ab := aZ; have HK := a0; have HB := a3; have HI0 := a4; clear aX aY aZ a0 a3 a4; (try clear hb); (try clear hk); (try clear hi)))
   go_loopg [5] k (fun kq v5 w' => ∃ (bz : Int) (bk : Int) (bl : Int) (ah : List Int) (u128000 : Value), v5 = .int .i64 bz ∧ Aside0 (spec_l05Loop.l0 kq (aj.length : Int) bz am bk bl ah ap = some (r1, r2, r3, r4, r5, r6)) ∧ Aside0 (kq ≤ k) ∧ Aside0 (Kd.R (Kd.int .i64) 3 w' w.heap.size (fun _ => True) u128000 ah) ∧ Aside0 (w'.heap[ao]? = some (.cells #[(.slice none 0 0), .int .i64 0, (.slice none 0 0), (.slice none 0 0)] 28 (0, 0))) ∧ Aside0 (w'.heap[ai]? = some (.cells #[u128000, .int .i64 ap, (.slice none 0 0), (.slice none 0 0)] 28 (0, 0))) ∧ Aside0 (IsS90 w0 w' g am bk bl) ∧ Aside0 (KeepBut w w' g none) ∧ Aside0 (Below w0.heap.size w0 w'))
   case atStart => exact ⟨(dH), (dI), (dJ), (aj), (.slice bN aj.length bO), zf, H', ⟨Nat.le_refl _⟩, ⟨zR bn⟩, ⟨zk af⟩, ⟨zk ab⟩, ⟨zi12 HI0⟩, ⟨zc12 HK⟩, ⟨zj12 HB⟩⟩
   case round =>
    clear H' c4b0 c4b1 c5b0 c5b1 cL cM cN cO cT cU cV cW cP cQ cR cS cX cY cZ c0
    obtain ⟨bz, bk, bl, ah, u128000, rfl, HA, bJ, aa, af, ab, HI0, HK, HB⟩ := hrel
    cases gk with
    | zero => exact absurd HA.out (by simp [spec_l05Loop.l0])
    | succ k1 =>
     have H := HA.out; clear HA
     simp only [spec_l05Loop.l0] at H
     by_cases d0 : bz > 0
     ·rw [if_pos d0] at H
      have du : decide (0 < bz) = true := decide_eq_true d0
      clear d0; replace H := Option.bind_eq_some_iff.mp H
      obtain ⟨⟨bw, c1, da⟩, d6, H⟩ := H
      replace H : (if 0 ≤ bw then (if bw < (ah.length : Int) then (spec_l05Loop.l0 k1 (aj.length : Int) (wrap64 (bz - 1)) am c1 da (ah.set (bw : Int).toNat bz) ap) else (none)) else (none)) = some (r1, r2, r3, r4, r5, r6) := H
      have A21 := zK d6; clear d6
      by_cases c22 : 0 ≤ bw
      ·rw [if_pos c22] at H
       have c22b0 : decide (0 ≤ bw) = true := decide_eq_true c22
       clear c22
       by_cases c23 : bw < (ah.length : Int)
       ·rw [if_pos c23] at H
        have c23b0 : decide (bw < (ah.length : Int)) = true := decide_eq_true c23
        clear c23
        obtain ⟨d7, bZ⟩ : ∃ y_ : List Int, y_ = (ah.set (bw : Int).toNat bz) := ⟨_, rfl⟩
        replace H : (spec_l05Loop.l0 k1 (aj.length : Int) (wrap64 (bz - 1)) am c1 da d7 ap) = some (r1, r2, r3, r4, r5, r6) := by first | (rw [bZ]; with_reducible exact H) | (have H2_ := (Option.bind_some _ _).symm.trans H; rw [bZ]; with_reducible exact H2_) | (have H2_ := (Option.bind_some _ _).symm.trans H; with_reducible exact H2_) | with_reducible exact H | (rw [bZ]; exact H) | exact H
        have Ny137 := zK bZ; clear bZ; have H' := zK H; clear H
        try go_wp2
        have aX := zK (Kd.R_drew aa.out)
        have aY := zK (zD af.out)
        have aZ := zK (zD ab.out)
        have a0 := zK (IsS90.drew HI0.out)
        have a3 := zK (keep_drew HK.out)
        have a4 := zK (zE HB.out)
        clear aa af ab HI0 HK HB; have aa := aX; have af := aY; have ab := aZ; have HI0 := a0; have HK := a3; have HB := a4; clear aX aY aZ a0 a3 a4
        refine start_ (n := 8) (S := fun w' => w'.cell? ⟨ai, 0, none⟩ = some (u128000) ∧ w'.cell? ⟨ai, 1, none⟩ = some (.int .i64 ap) ∧ w'.cell? ⟨ai, 2, none⟩ = some (.slice none 0 0) ∧ w'.cell? ⟨ai, 3, none⟩ = some (.slice none 0 0)) (ds := [7]) #[ff, ff, ff, ff, ff, ff, ff, ff] (by kernel_rfl) rfl rfl ⟨(blk_cell ab.out 0).trans rfl, (blk_cell ab.out 1).trans rfl, (blk_cell ab.out 2).trans rfl, (blk_cell ab.out 3).trans rfl⟩ (fun hHeld => ?_); refine with_tabW spec_l05Loop.tab7 spec_l05Loop.bits7 (fun HT_ HW_ => ?_)
        generalize wr.drew = w25 at aa af ab HI0 HK HB hHeld ⊢
        refine zu 0 (some 32) #[tt, ff, ff, ff, ff, ff, ff, ff] (any_of HT_.out (by kernel_rfl)) ?_
        refine zu 2 (some 34) #[tt, ff, tt, ff, ff, ff, ff, ff] (any_of HT_.out (by kernel_rfl)) ?_
        refine zu 3 (some 35) #[tt, ff, tt, tt, ff, ff, ff, ff] (any_of HT_.out (by kernel_rfl)) ?_
        refine zu 5 (some 37) #[tt, ff, tt, tt, ff, tt, ff, ff] (any_of HT_.out (by kernel_rfl)) ?_
        refine zt 1 (some 33) #[tt, tt, tt, tt, ff, tt, ff, ff] (take_ofW HT_.out HW_.out (by kernel_rfl)) hHeld ?_
        refine one_ (i := 4) (N := some 36) #[tt, tt, tt, tt, tt, tt, ff, ff] rfl rfl (one_of HT_.out (by kernel_rfl)) (by decide) (fun K hK => ?_)
        refine goes_ Try.func89 (by kernel_rfl) rfl #[.pointer (some ⟨g, 0, none⟩), .int .i64 (aj.length : Int)] (by rfl) rfl rfl zg ?_
        with_reducible refine (spec_l01Below.calls g am bk bl (aj.length : Int) bw c1 da w0 _ ?side1 ?side2 A21.out).mono ?_
        (case side1 => exact zi12 HI0)
        (case side2 => exact zj12 HB)
        rintro e w26 ⟨rfl, hi, hb, hk⟩
        refine ⟨_, rfl, ?_⟩
        have aX := zK (Kd.R_mono (Kd.R_keep (IsS90.apart (show IsS90 w0 _ g am bk bl from zi12 HI0) (zR aa) (by decide)) hk (fun _ h => h.2)) (fun _ h => h.1))
        have aY := zK (KeepBut.blk hk (g' := ao) (o := .cells #[.slice none 0 0, .int .i64 0, .slice none 0 0, .slice none 0 0] 28 (0, 0)) (zk af) a6.out (by simp))
        have aZ := zK (KeepBut.blk hk (g' := ai) (o := .cells #[u128000, .int .i64 ap, .slice none 0 0, .slice none 0 0] 28 (0, 0)) (zk ab) aR.out (by simp))
        have a0 := zK (KeepBut.trans (by repeat (first | (with_reducible first | exact HK.out | apply KeepBut.set_ | apply keep_drewN | apply keep_drew | apply keep_alloc | refine keep_far ?_ au.out _ | refine keep_far ?_ ay.out _) | exact HK.out)) hk (.inl rfl))
        have a3 := zK (hb)
        have a4 := zK (hi)
        clear aa af ab HK HB HI0; have aa := aX; have af := aY; have ab := aZ; have HK := a0; have HB := a3; have HI0 := a4; clear aX aY aZ a0 a3 a4; (try clear hb); (try clear hb2); (try clear hk); (try clear hi)
        have p24 : 0 ≤ (bw : Int) := zd
        have q24 : (bw : Int) < ((ah.length : Int) : Int) := zd
        obtain ⟨d8, co24, d9, ea, gl24, cl24, eb⟩ := Kd.R_form aa.out (by omega)
        (first | cases d9 | (injection d9 with ea_ en_ ec_; (first | subst ea_ | (injection ea_ with ea_; subst ea_)); subst ec_; clear en_))
        have ec := zK ea; have GG24 := zK eb; clear ea gl24 eb
        obtain ⟨hx24_0, hf24_0⟩ := Kd.R_celln 0 aa.out (bw : Int) p24 q24
        replace p24 := eq_true p24; replace q24 := eq_true q24
        have HN0_go24 := zK (show g ≠ d8 from by have h_ := IsS90.own_ne HI0.out aa.out (by decide); intro e_; exact h_ (by rw [e_]; rfl))
        have dK := Kd.R_putn aa.out (bw : Int) bz
        rw [← Ny137.out] at dK
        have HQ27 := zK dK; clear dK
        refine hK.out _ _ ⟨(blk_cell ab.out 0).trans rfl, (blk_cell ab.out 1).trans rfl, (blk_cell ab.out 2).trans rfl, (blk_cell ab.out 3).trans rfl⟩ (fun hHeld => ?_)
        clear hK K
        refine norm_ (a' := ?_) ?_ ?_
        rotate_left
        ·show Act.put _ (some 36) _ = _
         simp only [Act.put, zp, zq, zr, i64_w, i32_w]
         rfl
        refine zu 6 (some 38) #[tt, tt, tt, tt, tt, tt, tt, ff] (any_of HT_.out (by kernel_rfl)) ?_
        refine last_ (i := 7) (N := none) #[tt, tt, tt, tt, tt, tt, tt, tt] rfl rfl (one_of HT_.out (by kernel_rfl)) (by decide) (fun K hK => ?_)
        refine skip_ (w1 := ?_) (by rfl) rfl ?_ ?_
        rotate_left
        ·go_simp
         rfl
        refine hK.out _ _ ?_
        clear hK K
        refine done_ (done_of HT_.out (by kernel_rfl)) ?_
        try go_wp2
        go_roundg k1
        case measure => have := bJ.out; omega
        case rel => exact ⟨(wrap64 (bz - 1)), (c1), (da), (d7), (.slice (some ⟨d8, 0, none⟩) ah.length co24), zf, H', ⟨by have := bJ.out; omega⟩, ⟨zR HQ27⟩, ⟨by (with_reducible repeat (first | refine zN ?_ _ | refine zD ?_ | refine zA ?_ _)); refine blk_far ?_ (by have h_ := Kd.R_ne aa.out af.out (by decide); intro e_; exact h_ (by rw [e_]; rfl)) _; (with_reducible repeat (first | refine zN ?_ _ | refine zD ?_ | refine zA ?_ _)); exact af.out⟩, ⟨by (with_reducible repeat (first | refine zN ?_ _ | refine zD ?_ | refine zA ?_ _)); refine blk_far ?_ (by have h_ := Kd.R_ne aa.out ab.out (by decide); intro e_; exact h_ (by rw [e_]; rfl)) _; (with_reducible repeat (first | refine zN ?_ _ | refine zD ?_ | refine zA ?_ _)); exact ab.out⟩, ⟨zi12 HI0⟩, ⟨zc12 HK⟩, ⟨by repeat (first | (with_reducible first | exact HB.out | apply zB | apply zC | apply zE | refine zS ?_ (Nat.le_trans HL.out ec.out) | refine zS ?_ (IsS90.ge HI0.out) | refine zS ?_ aE.out | refine zS ?_ aJ.out) | exact HB.out)⟩⟩
       ·rw [if_neg c23] at H
        exact absurd H (by simp)
      ·rw [if_neg c22] at H
       exact absurd H (by simp)
     ·rw [if_neg d0] at H
      have du : decide (0 < bz) = false := decide_eq_false d0
      clear d0; replace H := Option.bind_eq_some_iff.mp H
      obtain ⟨⟨aQ, db, dc⟩, ed, H⟩ := H
      replace H : ((spec_l01Below.f am db dc 4).bind fun bt141 => (spec_l05Loop.l1 k1 (aj.length : Int) aQ (mn (aj.length : Int) bt141.1) am bt141.2.1 bt141.2.2 ah ap ([] : List (S69)))) = some (r1, r2, r3, r4, r5, r6) := H
      have A28 := zK ed; clear ed; replace H := Option.bind_eq_some_iff.mp H
      obtain ⟨⟨cA, dd, de⟩, ee, H⟩ := H
      replace H : (spec_l05Loop.l1 k1 (aj.length : Int) aQ (mn (aj.length : Int) cA) am dd de ah ap ([] : List (S69))) = some (r1, r2, r3, r4, r5, r6) := H
      have A29 := zK ee; clear ee
      obtain ⟨dL, bC⟩ : ∃ j_ : Int, (mn (aj.length : Int) cA) = j_ := ⟨_, rfl⟩
      replace H : (spec_l05Loop.l1 k1 (aj.length : Int) aQ dL am dd de ah ap ([] : List (S69))) = some (r1, r2, r3, r4, r5, r6) := by first | (rw [bC] at H; exact H) | (simp only [bC] at H ⊢; exact H)
      (try rw [bC] at A28); (try rw [bC] at A29)
      have hji30_ : (if cA < (aj.length : Int) then cA else (aj.length : Int)) = dL := bC
      have H' := zK H; clear H
      go_wp2_with (first | ((with_reducible refine gate_callee (f := 89) rfl ?_); refine goesL_ (some 41) rfl rfl Try.func89 (by kernel_rfl) rfl #[.pointer (some ⟨g, 0, none⟩), .int .i64 (aj.length : Int)] rfl zg ?_; (with_reducible refine (spec_l01Below.calls g am bk bl (aj.length : Int) aQ db dc w0 _ ?side1 ?side2 A28.out).mono ?_); (case side1 => exact zi12 HI0); (case side2 => exact zj12 HB); rintro e w31 ⟨rfl, hi, hb, hk⟩; refine ⟨_, rfl, ?_⟩; have aX := zK (Kd.R_mono (Kd.R_keep (IsS90.apart (show IsS90 w0 _ g am bk bl from zi12 HI0) (zR aa) (by decide)) hk (fun _ h => h.2)) (fun _ h => h.1)); have aY := zK (KeepBut.blk hk (g' := ao) (o := .cells #[.slice none 0 0, .int .i64 0, .slice none 0 0, .slice none 0 0] 28 (0, 0)) (zk af) a6.out (by simp)); have aZ := zK (KeepBut.blk hk (g' := ai) (o := .cells #[u128000, .int .i64 ap, .slice none 0 0, .slice none 0 0] 28 (0, 0)) (zk ab) aR.out (by simp)); have a0 := zK (KeepBut.trans (by repeat (first | (with_reducible first | exact HK.out | apply KeepBut.set_ | apply keep_drewN | apply keep_drew | apply keep_alloc | refine keep_far ?_ au.out _ | refine keep_far ?_ ay.out _) | exact HK.out)) hk (.inl rfl)); have a3 := zK (hb); have a4 := zK (hi); clear aa; clear af; clear ab; clear HK; clear HB; clear HI0; have aa := aX; have af := aY; have ab := aZ; have HK := a0; have HB := a3; have HI0 := a4; clear aX aY aZ a0 a3 a4; (try clear hb); (try clear hk); (try clear hi)) | ((with_reducible refine gate_callee (f := 89) rfl ?_); refine goesL_ (some 44) rfl rfl Try.func89 (by kernel_rfl) rfl #[.pointer (some ⟨g, 0, none⟩), .int .i64 4] rfl zg ?_; (with_reducible refine (spec_l01Below.calls g am db dc 4 cA dd de w0 _ ?side1 ?side2 A29.out).mono ?_); (case side1 => exact zi12 HI0); (case side2 => exact zj12 HB); rintro e w32 ⟨rfl, hi, hb, hk⟩; refine ⟨_, rfl, ?_⟩; have aX := zK (Kd.R_mono (Kd.R_keep (IsS90.apart (show IsS90 w0 _ g am db dc from zi12 HI0) (zR aa) (by decide)) hk (fun _ h => h.2)) (fun _ h => h.1)); have aY := zK (KeepBut.blk hk (g' := ao) (o := .cells #[.slice none 0 0, .int .i64 0, .slice none 0 0, .slice none 0 0] 28 (0, 0)) (zk af) a6.out (by simp)); have aZ := zK (KeepBut.blk hk (g' := ai) (o := .cells #[u128000, .int .i64 ap, .slice none 0 0, .slice none 0 0] 28 (0, 0)) (zk ab) aR.out (by simp)); have a0 := zK (KeepBut.trans (by repeat (first | (with_reducible first | exact HK.out | apply KeepBut.set_ | apply keep_drewN | apply keep_drew | apply keep_alloc | refine keep_far ?_ au.out _ | refine keep_far ?_ ay.out _) | exact HK.out)) hk (.inl rfl)); have a3 := zK (hb); have a4 := zK (hi); clear aa; clear af; clear ab; clear HK; clear HB; clear HI0; have aa := aX; have af := aY; have ab := aZ; have HK := a0; have HB := a3; have HI0 := a4; clear aX aY aZ a0 a3 a4; (try clear hb); (try clear hk); (try clear hi)))
      go_loopg [7] k1 (fun kq v7 w' => ∃ (aC : Int) (a8 : Int) (a9 : Int) (ad : List (S69)) (u128002 : Value), v7 = .int .i64 aC ∧ Aside0 (spec_l05Loop.l1 kq (aj.length : Int) aQ aC am a8 a9 ah ap ad = some (r1, r2, r3, r4, r5, r6)) ∧ Aside0 (kq ≤ k1) ∧ Aside0 (Kd.R (Kd.int .i64) 3 w' w.heap.size (fun _ => True) u128000 ah) ∧ Aside0 (Kd.S k69 69 w' w.heap.size (fun k_ => some k_ ≠ (u128000 : Value).ownBlock) u128002 ad) ∧ Aside0 (w'.heap[ao]? = some (.cells #[(.slice none 0 0), .int .i64 0, (.slice none 0 0), (.slice none 0 0)] 28 (0, 0))) ∧ Aside0 (w'.heap[ai]? = some (.cells #[u128000, .int .i64 ap, u128002, (.slice none 0 0)] 28 (0, 0))) ∧ Aside0 (IsS90 w0 w' g am a8 a9) ∧ Aside0 (KeepBut w w' g none) ∧ Aside0 (Below w0.heap.size w0 w'))
      case atStart => exact ⟨(dL), (dd), (de), (([] : List (S69))), (.slice none 0 0), (by first | rfl | (simp; done) | (simp only [← bC] <;> (first | rfl | simp)) | (simp [*]; done)), H', ⟨Nat.le_refl _⟩, ⟨zR aa⟩, ⟨by first | exact Kd.S_nil _ _ _ _ _ | exact Kd.N_nil _ _ _ _ _ | exact Kd.V_nil _ _ _ _ _ | exact Kd.Q_nil _ _ _ _ _ | exact Kd.R_nil _ _ _ _ _⟩, ⟨zk af⟩, ⟨zk ab⟩, ⟨zi12 HI0⟩, ⟨zc12 HK⟩, ⟨zj12 HB⟩⟩
      case round =>
       clear H' du
       obtain ⟨aC, a8, a9, ad, u128002, rfl, HA, bL, aa, ac, af, ab, HI0, HK, HB⟩ := hrel
       cases gk with
       | zero => exact absurd HA.out (by simp [spec_l05Loop.l1])
       | succ k2 =>
        have H := HA.out; clear HA
        simp only [spec_l05Loop.l1] at H
        by_cases d1 : aC > 0
        ·rw [if_pos d1] at H
         have cB : decide (0 < aC) = true := decide_eq_true d1
         clear d1
         by_cases d2 : (aj.length : Int) = 0
         ·rw [if_pos d2] at H
          exact absurd H (by simp)
         ·rw [if_neg d2] at H
          have ef : ((aj.length : Int) == 0) = false := beq_eq_false_iff_ne.mpr d2
          have eg : ((aj.length : Int) != 0) = true := bne_iff_ne.mpr d2
          have eh : ¬ (aj = []) := fun h_ => d2 (by rw [h_]; rfl)
          replace H := Option.bind_eq_some_iff.mp H
          obtain ⟨⟨a1, bA, bB⟩, ei, H⟩ := H
          replace H : (if a1 > 0 then ((spec_l01Once.f am bA bB 3).bind fun bt148 => (spec_l05Loop.j2 k2 (aj.length : Int) aQ aC bt148.1 am bt148.2.1 bt148.2.2 ah ap ad (Int.tmod (wrap64 (aQ + (wrap64 (aC * (wrap64 (1 + (wrap64 (Int.tdiv (aj.length : Int) 4)))))))) (aj.length : Int)) a1)) else (spec_l05Loop.j2 k2 (aj.length : Int) aQ aC false am bA bB ah ap ad (Int.tmod (wrap64 (aQ + (wrap64 (aC * (wrap64 (1 + (wrap64 (Int.tdiv (aj.length : Int) 4)))))))) (aj.length : Int)) a1)) = some (r1, r2, r3, r4, r5, r6) := H
          have A35 := zK ei; clear ei; have dM := zK H; clear H
          try go_wp2
          have aX := zK (Kd.R_drew aa.out)
          have aY := zK (Kd.S_drew ac.out)
          have aZ := zK (zD af.out)
          have a0 := zK (zD ab.out)
          have a3 := zK (IsS90.drew HI0.out)
          have a4 := zK (keep_drew HK.out)
          have bb := zK (zE HB.out)
          clear aa ac af ab HI0 HK HB; have aa := aX; have ac := aY; have af := aZ; have ab := a0; have HI0 := a3; have HK := a4; have HB := bb; clear aX aY aZ a0 a3 a4 bb
          refine start_ (n := 14) (S := fun w' => True) (ds := []) #[ff, ff, ff, ff, ff, ff, ff, ff, ff, ff, ff, ff, ff, ff] (by kernel_rfl) rfl rfl trivial (fun hHeld => ?_); refine with_tabW spec_l05Loop.tab12 spec_l05Loop.bits12 (fun HT_ HW_ => ?_)
          generalize wr.drew = w37 at aa ac af ab HI0 HK HB hHeld ⊢
          refine zu 0 (some 50) #[tt, ff, ff, ff, ff, ff, ff, ff, ff, ff, ff, ff, ff, ff] (any_of HT_.out (by kernel_rfl)) ?_
          refine zu 1 (some 51) #[tt, tt, ff, ff, ff, ff, ff, ff, ff, ff, ff, ff, ff, ff] (any_of HT_.out (by kernel_rfl)) ?_
          refine zu 2 (some 52) #[tt, tt, tt, ff, ff, ff, ff, ff, ff, ff, ff, ff, ff, ff] (any_of HT_.out (by kernel_rfl)) ?_
          refine zu 3 (some 53) #[tt, tt, tt, tt, ff, ff, ff, ff, ff, ff, ff, ff, ff, ff] (any_of HT_.out (by kernel_rfl)) ?_
          refine zu 4 (some 54) #[tt, tt, tt, tt, tt, ff, ff, ff, ff, ff, ff, ff, ff, ff] (any_of HT_.out (by kernel_rfl)) ?_
          refine zu 5 (some 55) #[tt, tt, tt, tt, tt, tt, ff, ff, ff, ff, ff, ff, ff, ff] (any_of HT_.out (by kernel_rfl)) ?_
          refine zu 6 (some 56) #[tt, tt, tt, tt, tt, tt, tt, ff, ff, ff, ff, ff, ff, ff] (any_of HT_.out (by kernel_rfl)) ?_
          refine zu 7 (some 57) #[tt, tt, tt, tt, tt, tt, tt, tt, ff, ff, ff, ff, ff, ff] (any_of HT_.out (by kernel_rfl)) ?_
          refine zu 8 (some 58) #[tt, tt, tt, tt, tt, tt, tt, tt, tt, ff, ff, ff, ff, ff] (any_of HT_.out (by kernel_rfl)) ?_
          refine zu 9 (some 59) #[tt, tt, tt, tt, tt, tt, tt, tt, tt, tt, ff, ff, ff, ff] (any_of HT_.out (by kernel_rfl)) ?_
          refine join_ (σ := Nat) 1 #[tt, tt, tt, tt, tt, tt, tt, tt, tt, tt, tt, tt, tt, ff] (fun s_ => [(60, .int .i64 a1), (8, .pointer (some ⟨s_, 0, none⟩)), (61, .agg #[.int .i64 (Int.tmod (wrap64 (aQ + (wrap64 (aC * (wrap64 (1 + (wrap64 (Int.tdiv (aj.length : Int) 4)))))))) (aj.length : Int)), .int .i64 a1, .slice none 0 0])]) (fun s_ w' => (Kd.R (Kd.int .i64) 3 w' w.heap.size (fun _ => True) u128000 ah) ∧ (Kd.S k69 69 w' w.heap.size (fun k_ => some k_ ≠ (u128000 : Value).ownBlock ∧ k_ ≠ s_) u128002 ad) ∧ (w'.heap[ao]? = some (.cells #[.slice none 0 0, .int .i64 0, .slice none 0 0, .slice none 0 0] 28 (0, 0))) ∧ (w'.heap[ai]? = some (.cells #[u128000, .int .i64 ap, u128002, .slice none 0 0] 28 (0, 0))) ∧ (w'.heap[s_]? = some (.cells #[.int .i64 0, .int .i64 0, .slice none 0 0] 69 (0, 0))) ∧ (w.heap.size ≤ s_) ∧ (w0.heap.size ≤ s_) ∧ (g ≠ s_) ∧ (s_ ≠ g) ∧ (ao ≠ s_) ∧ (s_ ≠ ao) ∧ (ai ≠ s_) ∧ (s_ ≠ ai) ∧ (IsS90 w0 w' g am bA bB) ∧ (KeepBut w w' g none) ∧ (Below w0.heap.size w0 w')) ?_ ?_
          rotate_left
          ·intro hCont
           refine two_ (i := 10) (j := 12) (Ni := some 60) (Nj := some 8) #[tt, tt, tt, tt, tt, tt, tt, tt, tt, tt, tt, ff, ff, ff] #[tt, tt, tt, tt, tt, tt, tt, tt, tt, tt, ff, ff, tt, ff] rfl rfl rfl rfl (two_of HT_.out (by kernel_rfl)) (by decide) (by decide) (fun K hK => ?_) (fun K hK => ?_)
           ·skip
            refine goes_ Try.func89 (by kernel_rfl) rfl #[.pointer (some ⟨g, 0, none⟩), .int .i64 4] (by rfl) rfl rfl zg ?_
            with_reducible refine (spec_l01Below.calls g am a8 a9 4 a1 bA bB w0 _ ?side1 ?side2 A35.out).mono ?_
            (case side1 => exact zi12 HI0)
            (case side2 => exact zj12 HB)
            rintro e w38 ⟨rfl, hi, hb, hk⟩
            refine ⟨_, rfl, ?_⟩
            have aX := zK (Kd.R_mono (Kd.R_keep (IsS90.apart (show IsS90 w0 _ g am a8 a9 from zi12 HI0) (zR aa) (by decide)) hk (fun _ h => h.2)) (fun _ h => h.1))
            have aY := zK (Kd.S_mono (Kd.S_keep (IsS90.apartS (show IsS90 w0 _ g am a8 a9 from zi12 HI0) (zT ac) (by decide)) hk (fun _ h => h.2)) (fun _ h => h.1))
            have aZ := zK (KeepBut.blk hk (g' := ao) (o := .cells #[.slice none 0 0, .int .i64 0, .slice none 0 0, .slice none 0 0] 28 (0, 0)) (zk af) a6.out (by simp))
            have a0 := zK (KeepBut.blk hk (g' := ai) (o := .cells #[u128000, .int .i64 ap, u128002, .slice none 0 0] 28 (0, 0)) (zk ab) aR.out (by simp))
            have a3 := zK (KeepBut.trans (by repeat (first | (with_reducible first | exact HK.out | apply KeepBut.set_ | apply keep_drewN | apply keep_drew | apply keep_alloc | refine keep_far ?_ au.out _ | refine keep_far ?_ ay.out _) | exact HK.out)) hk (.inl rfl))
            have a4 := zK (hb)
            have bb := zK (hi)
            clear aa ac af ab HK HB HI0; have aa := aX; have ac := aY; have af := aZ; have ab := a0; have HK := a3; have HB := a4; have HI0 := bb; clear aX aY aZ a0 a3 a4 bb; (try clear hb); (try clear hb2); (try clear hk); (try clear hi)
            refine hK.out _ _ trivial (fun hHeld => ?_)
            clear hK K
            refine norm_ (a' := ?_) ?_ ?_
            rotate_left
            ·show Act.put _ (some 60) _ = _
             simp only [Act.put, zp, zq, zr, i64_w, i32_w]
             rfl
            refine zu 11 (some 61) #[tt, tt, tt, tt, tt, tt, tt, tt, tt, tt, tt, tt, ff, ff] (any_of HT_.out (by kernel_rfl)) ?_
            refine one_ (i := 12) (N := some 8) #[tt, tt, tt, tt, tt, tt, tt, tt, tt, tt, tt, tt, tt, ff] rfl rfl (one_of HT_.out (by kernel_rfl)) (by decide) (fun K hK => ?_)
            refine box_step ?hg (N := 8) ?hd (cs := #[.int .i64 0, .int .i64 0, .slice none 0 0]) (t := 69) ?hr ?_; (case hd => rfl); (case hg => rfl); (case hr => first | (go_simp; done) | (go_simp; rfl))
            intro al hg w39 hbox hb
            have aX := zK (Kd.R_below (zR aa) hb)
            have aY := zK (Kd.S_below (Kd.S_elderB (zT ac) al (Nat.le_of_eq hg.symm)) hb)
            have aZ := zK (blk_below (g := ao) (o := .cells #[.slice none 0 0, .int .i64 0, .slice none 0 0, .slice none 0 0] 28 (0, 0)) (zk af) hb)
            have a0 := zK (blk_below (g := ai) (o := .cells #[u128000, .int .i64 ap, u128002, .slice none 0 0] 28 (0, 0)) (zk ab) hb)
            have a3 := zK (IsS90.below (zi12 HI0) hb)
            have a4 := zK (KeepBut.trans (by repeat (first | (with_reducible first | exact HK.out | apply KeepBut.set_ | apply keep_drewN | apply keep_drew | apply keep_alloc | refine keep_far ?_ au.out _ | refine keep_far ?_ ay.out _) | exact HK.out)) (KeepBut.of_below hb g none) (.inl rfl))
            have bb := zK (below_step (zj12 HB) hb)
            have bf := zK (hbox)
            have bh := zK ((by rw [hg]; exact (keep_size (w := w) (g := g) (row := none) (zc12 HK)) : w.heap.size ≤ al))
            have br := zK ((Nat.le_trans HW0.out (by rw [hg]; exact (keep_size (w := w) (g := g) (row := none) (zc12 HK)) : w.heap.size ≤ al) : w0.heap.size ≤ al))
            have bs := zK ((by rw [hg]; exact Nat.ne_of_lt (blk_lt (g := ao) (o := .cells #[.slice none 0 0, .int .i64 0, .slice none 0 0, .slice none 0 0] 28 (0, 0)) (zk af)) : ao ≠ al))
            have bu := zK ((by rw [hg]; exact Nat.ne_of_gt (blk_lt (g := ao) (o := .cells #[.slice none 0 0, .int .i64 0, .slice none 0 0, .slice none 0 0] 28 (0, 0)) (zk af)) : al ≠ ao))
            have bD := zK ((by rw [hg]; exact Nat.ne_of_lt (blk_lt (g := ai) (o := .cells #[u128000, .int .i64 ap, u128002, .slice none 0 0] 28 (0, 0)) (zk ab)) : ai ≠ al))
            have bE := zK ((by rw [hg]; exact Nat.ne_of_gt (blk_lt (g := ai) (o := .cells #[u128000, .int .i64 ap, u128002, .slice none 0 0] 28 (0, 0)) (zk ab)) : al ≠ ai))
            have bF := zK ((by rw [hg]; exact Nat.ne_of_lt (IsS90.lt (show IsS90 w0 _ g am bA bB from zi12 HI0)) : g ≠ al))
            have bG := zK ((by rw [hg]; exact Nat.ne_of_gt (IsS90.lt (show IsS90 w0 _ g am bA bB from zi12 HI0)) : al ≠ g))
            clear aa ac af ab HI0 HK HB; have aa := aX; have ac := aY; have af := aZ; have ab := a0; have HI0 := a3; have HK := a4; have HB := bb; have an := bf; have a7 := bh; have bc := br; have aD := bs; have a2 := bu; have ax := bD; have aV := bE; have aB := bF; have be := bG; clear aX aY aZ a0 a3 a4 bb bf bh br bs bu bD bE bF bG hb hbox hg
            refine hK.out _ _ trivial (fun hHeld => ?_)
            clear hK K
            refine norm_ (a' := ?_) ?_ ?_
            rotate_left
            ·show Act.put _ (some 8) _ = _
             simp only [Act.put, zp, zq, zr, i64_w, i32_w]
             rfl
            exact norm_ (by simp only [putAll, Act.put, List.setIfInBounds_toArray, List.set_cons_zero, List.set_cons_succ] <;> first | rfl | (simp only [i64_w, i32_w]; done) | (simp only [i64_w, i32_w]; rfl)) (hCont (al) _ ⟨(zR aa), (zT ac), (zk af), (zk ab), (zk an), a7.out, bc.out, aB.out, be.out, aD.out, a2.out, ax.out, aV.out, (zi12 HI0), (zc12 HK), (zj12 HB)⟩)
           ·skip
            refine box_step ?hg (N := 8) ?hd (cs := #[.int .i64 0, .int .i64 0, .slice none 0 0]) (t := 69) ?hr ?_; (case hd => rfl); (case hg => rfl); (case hr => first | (go_simp; done) | (go_simp; rfl))
            intro al hg w38 hbox hb
            have aX := zK (Kd.R_below (zR aa) hb)
            have aY := zK (Kd.S_below (Kd.S_elderB (zT ac) al (Nat.le_of_eq hg.symm)) hb)
            have aZ := zK (blk_below (g := ao) (o := .cells #[.slice none 0 0, .int .i64 0, .slice none 0 0, .slice none 0 0] 28 (0, 0)) (zk af) hb)
            have a0 := zK (blk_below (g := ai) (o := .cells #[u128000, .int .i64 ap, u128002, .slice none 0 0] 28 (0, 0)) (zk ab) hb)
            have a3 := zK (IsS90.below (zi12 HI0) hb)
            have a4 := zK (KeepBut.trans (by repeat (first | (with_reducible first | exact HK.out | apply KeepBut.set_ | apply keep_drewN | apply keep_drew | apply keep_alloc | refine keep_far ?_ au.out _ | refine keep_far ?_ ay.out _) | exact HK.out)) (KeepBut.of_below hb g none) (.inl rfl))
            have bb := zK (below_step (zj12 HB) hb)
            have bf := zK (hbox)
            have bh := zK ((by rw [hg]; exact (keep_size (w := w) (g := g) (row := none) (zc12 HK)) : w.heap.size ≤ al))
            have br := zK ((Nat.le_trans HW0.out (by rw [hg]; exact (keep_size (w := w) (g := g) (row := none) (zc12 HK)) : w.heap.size ≤ al) : w0.heap.size ≤ al))
            have bs := zK ((by rw [hg]; exact Nat.ne_of_lt (blk_lt (g := ao) (o := .cells #[.slice none 0 0, .int .i64 0, .slice none 0 0, .slice none 0 0] 28 (0, 0)) (zk af)) : ao ≠ al))
            have bu := zK ((by rw [hg]; exact Nat.ne_of_gt (blk_lt (g := ao) (o := .cells #[.slice none 0 0, .int .i64 0, .slice none 0 0, .slice none 0 0] 28 (0, 0)) (zk af)) : al ≠ ao))
            have bD := zK ((by rw [hg]; exact Nat.ne_of_lt (blk_lt (g := ai) (o := .cells #[u128000, .int .i64 ap, u128002, .slice none 0 0] 28 (0, 0)) (zk ab)) : ai ≠ al))
            have bE := zK ((by rw [hg]; exact Nat.ne_of_gt (blk_lt (g := ai) (o := .cells #[u128000, .int .i64 ap, u128002, .slice none 0 0] 28 (0, 0)) (zk ab)) : al ≠ ai))
            have bF := zK ((by rw [hg]; exact Nat.ne_of_lt (IsS90.lt (show IsS90 w0 _ g am a8 a9 from zi12 HI0)) : g ≠ al))
            have bG := zK ((by rw [hg]; exact Nat.ne_of_gt (IsS90.lt (show IsS90 w0 _ g am a8 a9 from zi12 HI0)) : al ≠ g))
            clear aa ac af ab HI0 HK HB; have aa := aX; have ac := aY; have af := aZ; have ab := a0; have HI0 := a3; have HK := a4; have HB := bb; have an := bf; have a7 := bh; have bc := br; have aD := bs; have a2 := bu; have ax := bD; have aV := bE; have aB := bF; have be := bG; clear aX aY aZ a0 a3 a4 bb bf bh br bs bu bD bE bF bG hb hbox hg
            refine hK.out _ _ trivial (fun hHeld => ?_)
            clear hK K
            refine norm_ (a' := ?_) ?_ ?_
            rotate_left
            ·show Act.put _ (some 8) _ = _
             simp only [Act.put, zp, zq, zr, i64_w, i32_w]
             rfl
            refine one_ (i := 10) (N := some 60) #[tt, tt, tt, tt, tt, tt, tt, tt, tt, tt, tt, ff, tt, ff] rfl rfl (one_of HT_.out (by kernel_rfl)) (by decide) (fun K hK => ?_)
            refine goes_ Try.func89 (by kernel_rfl) rfl #[.pointer (some ⟨g, 0, none⟩), .int .i64 4] (by rfl) rfl rfl zg ?_
            with_reducible refine (spec_l01Below.calls g am a8 a9 4 a1 bA bB w0 _ ?side1 ?side2 A35.out).mono ?_
            (case side1 => exact zi12 HI0)
            (case side2 => exact zj12 HB)
            rintro e w39 ⟨rfl, hi, hb, hk⟩
            refine ⟨_, rfl, ?_⟩
            have aX := zK (Kd.R_mono (Kd.R_keep (IsS90.apart (show IsS90 w0 _ g am a8 a9 from zi12 HI0) (zR aa) (by decide)) hk (fun _ h => h.2)) (fun _ h => h.1))
            have aY := zK (Kd.S_mono (Kd.S_keep (IsS90.apartS (show IsS90 w0 _ g am a8 a9 from zi12 HI0) (zT ac) (by decide)) hk (fun _ h => h.2)) (fun _ h => h.1))
            have aZ := zK (KeepBut.blk hk (g' := ao) (o := .cells #[.slice none 0 0, .int .i64 0, .slice none 0 0, .slice none 0 0] 28 (0, 0)) (zk af) a6.out (by simp))
            have a0 := zK (KeepBut.blk hk (g' := ai) (o := .cells #[u128000, .int .i64 ap, u128002, .slice none 0 0] 28 (0, 0)) (zk ab) aR.out (by simp))
            have a3 := zK (KeepBut.blk hk (g' := al) (o := .cells #[.int .i64 0, .int .i64 0, .slice none 0 0] 69 (0, 0)) (zk an) be.out (by simp))
            have a4 := zK (KeepBut.trans (by repeat (first | (with_reducible first | exact HK.out | apply KeepBut.set_ | apply keep_drewN | apply keep_drew | apply keep_alloc | refine keep_far ?_ au.out _ | refine keep_far ?_ ay.out _ | refine keep_far ?_ a7.out _) | exact HK.out)) hk (.inl rfl))
            have bb := zK (hb)
            have bf := zK (hi)
            clear aa ac af ab an HK HB HI0; have aa := aX; have ac := aY; have af := aZ; have ab := a0; have an := a3; have HK := a4; have HB := bb; have HI0 := bf; clear aX aY aZ a0 a3 a4 bb bf; (try clear hb); (try clear hb2); (try clear hk); (try clear hi)
            refine hK.out _ _ trivial (fun hHeld => ?_)
            clear hK K
            refine norm_ (a' := ?_) ?_ ?_
            rotate_left
            ·show Act.put _ (some 60) _ = _
             simp only [Act.put, zp, zq, zr, i64_w, i32_w]
             rfl
            refine zu 11 (some 61) #[tt, tt, tt, tt, tt, tt, tt, tt, tt, tt, tt, tt, tt, ff] (any_of HT_.out (by kernel_rfl)) ?_
            exact norm_ (by simp only [putAll, Act.put, List.setIfInBounds_toArray, List.set_cons_zero, List.set_cons_succ] <;> first | rfl | (simp only [i64_w, i32_w]; done) | (simp only [i64_w, i32_w]; rfl)) (hCont (al) _ ⟨(zR aa), (zT ac), (zk af), (zk ab), (zk an), a7.out, bc.out, aB.out, be.out, aD.out, a2.out, ax.out, aV.out, (zi12 HI0), (zc12 HK), (zj12 HB)⟩)
          rintro al b0 ⟨h0_, h1_, h2_, h3_, h4_, h5_, h6_, h7_, h8_, h9_, h10_, h11_, h12_, h13_, h14_, h15_⟩
          have aX : Aside0 (Kd.R (Kd.int .i64) 3 b0 w.heap.size (fun _ => True) u128000 ah) := ⟨h0_⟩
          have aY : Aside0 (Kd.S k69 69 b0 w.heap.size (fun k_ => some k_ ≠ (u128000 : Value).ownBlock ∧ k_ ≠ al) u128002 ad) := ⟨h1_⟩
          have aZ : Aside0 (b0.heap[ao]? = some (.cells #[.slice none 0 0, .int .i64 0, .slice none 0 0, .slice none 0 0] 28 (0, 0))) := ⟨h2_⟩
          have a0 : Aside0 (b0.heap[ai]? = some (.cells #[u128000, .int .i64 ap, u128002, .slice none 0 0] 28 (0, 0))) := ⟨h3_⟩
          have a3 : Aside0 (b0.heap[al]? = some (.cells #[.int .i64 0, .int .i64 0, .slice none 0 0] 69 (0, 0))) := ⟨h4_⟩
          have a4 : Aside0 (w.heap.size ≤ al) := ⟨h5_⟩
          have bb : Aside0 (w0.heap.size ≤ al) := ⟨h6_⟩
          have bf : Aside0 (g ≠ al) := ⟨h7_⟩
          have bh : Aside0 (al ≠ g) := ⟨h8_⟩
          have br : Aside0 (ao ≠ al) := ⟨h9_⟩
          have bs : Aside0 (al ≠ ao) := ⟨h10_⟩
          have bu : Aside0 (ai ≠ al) := ⟨h11_⟩
          have bD : Aside0 (al ≠ ai) := ⟨h12_⟩
          have bE : Aside0 (IsS90 w0 b0 g am bA bB) := ⟨h13_⟩
          have bF : Aside0 (KeepBut w b0 g none) := ⟨h14_⟩
          have bG : Aside0 (Below w0.heap.size w0 b0) := ⟨h15_⟩
          clear aa ac af ab HI0 HK HB h0_ h1_ h2_ h3_ h4_ h5_ h6_ h7_ h8_ h9_ h10_ h11_ h12_ h13_ h14_ h15_; have aa := aX; have ac := aY; have af := aZ; have ab := a0; have an := a3; have a7 := a4; have bc := bb; have aB := bf; have be := bh; have aD := br; have a2 := bs; have ax := bu; have aV := bD; have HI0 := bE; have HK := bF; have HB := bG; clear aX aY aZ a0 a3 a4 bb bf bh br bs bu bD bE bF bG; have hHeld := trivial
          refine norm_ (a' := ?_) ?_ ?_
          rotate_left
          ·simp only [putAll, Act.put, List.setIfInBounds_toArray, List.set_cons_zero, List.set_cons_succ]
           rfl
          refine one_ (i := 13) (N := none) #[tt, tt, tt, tt, tt, tt, tt, tt, tt, tt, tt, tt, tt, tt] rfl rfl (one_of HT_.out (by kernel_rfl)) (by decide) (fun K hK => ?_)
          have hs41 : b0.cell? ⟨al, 0, none⟩ = some (.int .i64 0) := (blk_cell an.out 0).trans rfl
          have hfs41 := blk_frozen an.out 0; have hns41_0 := aD.out; have hns41_1 := ax.out; have hms41_0 := a2.out; have hms41_1 := aV.out
          have hs42 : b0.cell? ⟨al, 1, none⟩ = some (.int .i64 0) := (blk_cell an.out 1).trans rfl
          have hfs42 := blk_frozen an.out 1; have hns42_0 := aD.out; have hns42_1 := ax.out; have hms42_0 := a2.out; have hms42_1 := aV.out
          have hs43 : b0.cell? ⟨al, 2, none⟩ = some (.slice none 0 0) := (blk_cell an.out 2).trans rfl
          have hfs43 := blk_frozen an.out 2; have hns43_0 := aD.out; have hns43_1 := ax.out; have hms43_0 := a2.out; have hms43_1 := aV.out
          refine skip_ (w1 := ?_) (by rfl) rfl ?_ ?_
          rotate_left
          ·go_simp
           rfl
          refine hK.out _ _ trivial (fun hHeld => ?_)
          clear hK K
          refine done_ (done_of HT_.out (by kernel_rfl)) ?_
          go_upto_region 13 with (fail)
          go_cut [68] (fun v68 wc => ∃ (kq : Nat) (bP : Bool) (aT : Int) (aU : Int), v68 = .bool bP ∧ Aside0 (spec_l05Loop.j2 kq (aj.length : Int) aQ aC bP am aT aU ah ap ad (Int.tmod (wrap64 (aQ + (wrap64 (aC * (wrap64 (1 + (wrap64 (Int.tdiv (aj.length : Int) 4)))))))) (aj.length : Int)) a1 = some (r1, r2, r3, r4, r5, r6)) ∧ Aside0 (kq ≤ k2) ∧ Aside0 (Kd.R (Kd.int .i64) 3 wc w.heap.size (fun _ => True) u128000 ah) ∧ Aside0 (Kd.S k69 69 wc w.heap.size (fun k_ => some k_ ≠ (u128000 : Value).ownBlock ∧ k_ ≠ al) u128002 ad) ∧ Aside0 (wc.heap[ao]? = some (.cells #[(.slice none 0 0), .int .i64 0, (.slice none 0 0), (.slice none 0 0)] 28 (0, 0))) ∧ Aside0 (wc.heap[ai]? = some (.cells #[u128000, .int .i64 ap, u128002, (.slice none 0 0)] 28 (0, 0))) ∧ Aside0 (wc.heap[al]? = some (.cells #[.int .i64 (Int.tmod (wrap64 (aQ + (wrap64 (aC * (wrap64 (1 + (wrap64 (Int.tdiv (aj.length : Int) 4)))))))) (aj.length : Int)), .int .i64 a1, (.slice none 0 0)] 69 (0, 0))) ∧ Aside0 (IsS90 w0 wc g am aT aU) ∧ Aside0 (KeepBut w wc g none) ∧ Aside0 (Below w0.heap.size w0 wc))
          case first =>
           have H := dM.out; clear dM
           by_cases d3 : a1 > 0
           ·rw [if_pos d3] at H
            have b1 : decide (0 < a1) = true := decide_eq_true d3
            clear d3
            (first | rw [b1] | (simp only [i64_w, i32_w]; rw [b1]) | skip)
            replace H := Option.bind_eq_some_iff.mp H
            obtain ⟨⟨dN, dO, dP⟩, ej, H⟩ := H
            replace H : (spec_l05Loop.j2 k2 (aj.length : Int) aQ aC dN am dO dP ah ap ad (Int.tmod (wrap64 (aQ + (wrap64 (aC * (wrap64 (1 + (wrap64 (Int.tdiv (aj.length : Int) 4)))))))) (aj.length : Int)) a1) = some (r1, r2, r3, r4, r5, r6) := H
            have A45 := zK ej; clear ej; have H' := zK H; clear H; have hnb46 := a2.out; have hnc46 := aD.out; have hnb47 := aV.out; have hnc47 := ax.out; have hnb48 := be.out; have hnc48 := aB.out
            have hcz49_0 : b0.cell? ⟨al, 0, none⟩ = some (.int .i64 0) := (blk_cell an.out 0).trans rfl
            have hcz49_1 : b0.cell? ⟨al, 1, none⟩ = some (.int .i64 0) := (blk_cell an.out 1).trans rfl
            have hcz49_2 : b0.cell? ⟨al, 2, none⟩ = some (.slice none 0 0) := (blk_cell an.out 2).trans rfl
            have hfz49_0 := blk_frozen an.out 0; have hfz49_1 := blk_frozen an.out 1; have hfz49_2 := blk_frozen an.out 2
            go_wp2_with (first | (go_at_call 88; (with_reducible refine (spec_l01Once.calls g am bA bB 3 dN dO dP w0 _ ?side1 ?side2 A45.out).mono ?_); (case side1 => exact zi12 HI0); (case side2 => exact zj12 HB); rintro e w50 ⟨rfl, hi, hb, hk⟩; have aX := zK (Kd.R_mono (Kd.R_keep (IsS90.apart (show IsS90 w0 _ g am bA bB from zi12 HI0) (by (with_reducible repeat (first | apply Kd.R_alloc | apply Kd.R_drewN | apply Kd.R_drew)); exact (Kd.R_mono (Kd.R_far (p := ⟨al, 2, none⟩) (Kd.R_far (p := ⟨al, 1, none⟩) (Kd.R_far (p := ⟨al, 0, none⟩) (Kd.R_types aa.out an.out (by decide)) (fun _ hk => hk.2) (.int .i64 (Int.tmod (wrap64 (aQ + (wrap64 (aC * (wrap64 (1 + (wrap64 (Int.tdiv (aj.length : Int) 4)))))))) (aj.length : Int)))) (fun _ hk => hk.2) (.int .i64 a1)) (fun _ hk => hk.2) (.slice none 0 0)) (fun _ h_ => h_.1))) (by decide)) hk (fun _ h => h.2)) (fun _ h => h.1)); have aY := zK (Kd.S_mono (Kd.S_keep (IsS90.apartS (show IsS90 w0 _ g am bA bB from zi12 HI0) (by (with_reducible repeat (first | apply Kd.S_alloc | apply Kd.S_drewN | apply Kd.S_drew)); exact (Kd.S_mono (Kd.S_far (p := ⟨al, 2, none⟩) (Kd.S_far (p := ⟨al, 1, none⟩) (Kd.S_far (p := ⟨al, 0, none⟩) (Kd.S_mono ac.out (fun k_ hk => (⟨hk, hk.2⟩ : _ ∧ k_ ≠ al))) (fun _ hk => hk.2) (.int .i64 (Int.tmod (wrap64 (aQ + (wrap64 (aC * (wrap64 (1 + (wrap64 (Int.tdiv (aj.length : Int) 4)))))))) (aj.length : Int)))) (fun _ hk => hk.2) (.int .i64 a1)) (fun _ hk => hk.2) (.slice none 0 0)) (fun _ h_ => h_.1))) (by decide)) hk (fun _ h => h.2)) (fun _ h => h.1)); have aZ := zK (KeepBut.blk hk (g' := ao) (o := .cells #[.slice none 0 0, .int .i64 0, .slice none 0 0, .slice none 0 0] 28 (0, 0)) (zh af aD) a6.out (by simp)); have a0 := zK (KeepBut.blk hk (g' := ai) (o := .cells #[u128000, .int .i64 ap, u128002, .slice none 0 0] 28 (0, 0)) (zh ab ax) aR.out (by simp)); have a3 := zK (KeepBut.blk hk (g' := al) (o := .cells #[.int .i64 (Int.tmod (wrap64 (aQ + (wrap64 (aC * (wrap64 (1 + (wrap64 (Int.tdiv (aj.length : Int) 4)))))))) (aj.length : Int)), .int .i64 a1, .slice none 0 0] 69 (0, 0)) (by (with_reducible repeat (first | refine zN ?_ _ | refine zD ?_ | refine zA ?_ _)); refine blk_put (cs := #[.int .i64 (Int.tmod (wrap64 (aQ + (wrap64 (aC * (wrap64 (1 + (wrap64 (Int.tdiv (aj.length : Int) 4)))))))) (aj.length : Int)), .int .i64 a1, .slice none 0 0]) ?_ 2 _ rfl; (with_reducible repeat (first | refine zN ?_ _ | refine zD ?_ | refine zA ?_ _)); refine blk_put (cs := #[.int .i64 (Int.tmod (wrap64 (aQ + (wrap64 (aC * (wrap64 (1 + (wrap64 (Int.tdiv (aj.length : Int) 4)))))))) (aj.length : Int)), .int .i64 0, .slice none 0 0]) ?_ 1 _ rfl; (with_reducible repeat (first | refine zN ?_ _ | refine zD ?_ | refine zA ?_ _)); refine blk_put (cs := #[.int .i64 0, .int .i64 0, .slice none 0 0]) ?_ 0 _ rfl; (with_reducible repeat (first | refine zN ?_ _ | refine zD ?_ | refine zA ?_ _)); exact an.out) be.out (by simp)); have a4 := zK (KeepBut.trans (by repeat (first | (with_reducible first | exact HK.out | apply KeepBut.set_ | apply keep_drewN | apply keep_drew | apply keep_alloc | refine keep_far ?_ au.out _ | refine keep_far ?_ ay.out _ | refine keep_far ?_ a7.out _) | exact HK.out)) hk (.inl rfl)); have bb := zK (hb); have bf := zK (hi); clear aa; clear ac; clear af; clear ab; clear an; clear HK; clear HB; clear HI0; have aa := aX; have ac := aY; have af := aZ; have ab := a0; have an := a3; have HK := a4; have HB := bb; have HI0 := bf; clear aX aY aZ a0 a3 a4 bb bf; (try clear hb); (try clear hk); (try clear hi)))
            go_meet
            case rel => exact ⟨_, (dN), (dO), (dP), zf, H', ⟨by have := bJ.out; have := bL.out; first | omega | exact Nat.le_refl _⟩, ⟨zR aa⟩, ⟨zT ac⟩, ⟨zk af⟩, ⟨zk ab⟩, ⟨zk an⟩, ⟨zi12 HI0⟩, ⟨zc12 HK⟩, ⟨zj12 HB⟩⟩
           ·rw [if_neg d3] at H
            have b1 : decide (0 < a1) = false := decide_eq_false d3
            clear d3
            (first | rw [b1] | (simp only [i64_w, i32_w]; rw [b1]) | skip)
            have H' := zK H; clear H; have hnb51 := a2.out; have hnc51 := aD.out; have hnb52 := aV.out; have hnc52 := ax.out; have hnb53 := be.out; have hnc53 := aB.out
            have hcz54_0 : b0.cell? ⟨al, 0, none⟩ = some (.int .i64 0) := (blk_cell an.out 0).trans rfl
            have hcz54_1 : b0.cell? ⟨al, 1, none⟩ = some (.int .i64 0) := (blk_cell an.out 1).trans rfl
            have hcz54_2 : b0.cell? ⟨al, 2, none⟩ = some (.slice none 0 0) := (blk_cell an.out 2).trans rfl
            have hfz54_0 := blk_frozen an.out 0; have hfz54_1 := blk_frozen an.out 1; have hfz54_2 := blk_frozen an.out 2
            go_wp2
            go_meet
            case rel => exact ⟨_, (false), (bA), (bB), zf, H', ⟨by have := bJ.out; have := bL.out; first | omega | exact Nat.le_refl _⟩, ⟨by (with_reducible repeat (first | apply Kd.R_alloc | apply Kd.R_drewN | apply Kd.R_drew)); exact Kd.R_mono (Kd.R_far (p := ⟨al, 2, none⟩) (Kd.R_far (p := ⟨al, 1, none⟩) (Kd.R_far (p := ⟨al, 0, none⟩) (Kd.R_types aa.out an.out (by decide)) (fun _ hk => hk.2) (.int .i64 (Int.tmod (wrap64 (aQ + (wrap64 (aC * (wrap64 (1 + (wrap64 (Int.tdiv (aj.length : Int) 4)))))))) (aj.length : Int)))) (fun _ hk => hk.2) (.int .i64 a1)) (fun _ hk => hk.2) (.slice none 0 0)) (fun _ hk => trivial)⟩, ⟨by (with_reducible repeat (first | apply Kd.S_alloc | apply Kd.S_drewN | apply Kd.S_drew)); exact Kd.S_mono (Kd.S_far (p := ⟨al, 2, none⟩) (Kd.S_far (p := ⟨al, 1, none⟩) (Kd.S_far (p := ⟨al, 0, none⟩) (Kd.S_mono ac.out (fun k_ hk => (⟨hk, hk.2⟩ : _ ∧ k_ ≠ al))) (fun _ hk => hk.2) (.int .i64 (Int.tmod (wrap64 (aQ + (wrap64 (aC * (wrap64 (1 + (wrap64 (Int.tdiv (aj.length : Int) 4)))))))) (aj.length : Int)))) (fun _ hk => hk.2) (.int .i64 a1)) (fun _ hk => hk.2) (.slice none 0 0)) (fun _ hk => ⟨hk.1.1, hk.1.2⟩)⟩, ⟨zh af aD⟩, ⟨zh ab ax⟩, ⟨by (with_reducible repeat (first | refine zN ?_ _ | refine zD ?_ | refine zA ?_ _)); refine blk_put (cs := #[.int .i64 (Int.tmod (wrap64 (aQ + (wrap64 (aC * (wrap64 (1 + (wrap64 (Int.tdiv (aj.length : Int) 4)))))))) (aj.length : Int)), .int .i64 a1, .slice none 0 0]) ?_ 2 _ rfl; (with_reducible repeat (first | refine zN ?_ _ | refine zD ?_ | refine zA ?_ _)); refine blk_put (cs := #[.int .i64 (Int.tmod (wrap64 (aQ + (wrap64 (aC * (wrap64 (1 + (wrap64 (Int.tdiv (aj.length : Int) 4)))))))) (aj.length : Int)), .int .i64 0, .slice none 0 0]) ?_ 1 _ rfl; (with_reducible repeat (first | refine zN ?_ _ | refine zD ?_ | refine zA ?_ _)); refine blk_put (cs := #[.int .i64 0, .int .i64 0, .slice none 0 0]) ?_ 0 _ rfl; (with_reducible repeat (first | refine zN ?_ _ | refine zD ?_ | refine zA ?_ _)); exact an.out⟩, ⟨zi12 HI0⟩, ⟨zc12 HK⟩, ⟨zj12 HB⟩⟩
          case rest =>
           clear dM cB d2 ef eg eh
           obtain ⟨kq, bP, aT, aU, rfl, HA, bK, aa, ac, af, ab, an, HI0, HK, HB⟩ := hcut
           cases kq with
           | zero => exact absurd HA.out (by simp [spec_l05Loop.j2])
           | succ kj35 =>
            have H := HA.out; clear HA
            simp only [spec_l05Loop.j2] at H
            have dQ := zK H; clear H
            go_upto_if 68 with (fail)
            go_cut [] (fun wc => ∃ (kq : Nat) (aH : List Int) (u148002 : Value), Aside0 (spec_l05Loop.j3 kq (aj.length : Int) aQ aC am aT aU ah ap ad (Int.tmod (wrap64 (aQ + (wrap64 (aC * (wrap64 (1 + (wrap64 (Int.tdiv (aj.length : Int) 4)))))))) (aj.length : Int)) a1 aH = some (r1, r2, r3, r4, r5, r6)) ∧ Aside0 (kq ≤ kj35) ∧ Aside0 (Kd.R (Kd.int .i64) 3 wc w.heap.size (fun k_ => some k_ ≠ (u148002 : Value).ownBlock) u128000 ah) ∧ Aside0 (Kd.S k69 69 wc w.heap.size (fun k_ => some k_ ≠ (u128000 : Value).ownBlock ∧ some k_ ≠ (u148002 : Value).ownBlock ∧ k_ ≠ al) u128002 ad) ∧ Aside0 (Kd.R (Kd.int .i64) 3 wc w.heap.size (fun k_ => some k_ ≠ (u128000 : Value).ownBlock) u148002 aH) ∧ Aside0 (wc.heap[ao]? = some (.cells #[(.slice none 0 0), .int .i64 0, (.slice none 0 0), (.slice none 0 0)] 28 (0, 0))) ∧ Aside0 (wc.heap[ai]? = some (.cells #[u128000, .int .i64 ap, u128002, (.slice none 0 0)] 28 (0, 0))) ∧ Aside0 (wc.heap[al]? = some (.cells #[.int .i64 (Int.tmod (wrap64 (aQ + (wrap64 (aC * (wrap64 (1 + (wrap64 (Int.tdiv (aj.length : Int) 4)))))))) (aj.length : Int)), .int .i64 a1, u148002] 69 (0, 0))) ∧ Aside0 (IsS90 w0 wc g am aT aU) ∧ Aside0 (KeepBut w wc g none) ∧ Aside0 (Below w0.heap.size w0 wc))
            case first =>
             have H := dQ.out; clear dQ
             by_cases c56 : bP = true
             ·subst c56
              have H1 : (spec_l05Loop.j3 kj35 (aj.length : Int) aQ aC am aT aU ah ap ad (Int.tmod (wrap64 (aQ + (wrap64 (aC * (wrap64 (1 + (wrap64 (Int.tdiv (aj.length : Int) 4)))))))) (aj.length : Int)) a1 (([wrap64 (100 + aC)] : List Int))) = some (r1, r2, r3, r4, r5, r6) := by rw [if_pos rfl] at H; exact H
              clear H; have H := H1; clear H1
              obtain ⟨cr, b2⟩ : ∃ y_ : List Int, y_ = (([wrap64 (100 + aC)] : List Int)) := ⟨_, rfl⟩
              replace H : (spec_l05Loop.j3 kj35 (aj.length : Int) aQ aC am aT aU ah ap ad (Int.tmod (wrap64 (aQ + (wrap64 (aC * (wrap64 (1 + (wrap64 (Int.tdiv (aj.length : Int) 4)))))))) (aj.length : Int)) a1 cr) = some (r1, r2, r3, r4, r5, r6) := by first | (rw [b2]; with_reducible exact H) | (have H2_ := (Option.bind_some _ _).symm.trans H; rw [b2]; with_reducible exact H2_) | (have H2_ := (Option.bind_some _ _).symm.trans H; with_reducible exact H2_) | with_reducible exact H | (rw [b2]; exact H) | exact H
              have Ny151 := zK b2; clear b2; have H' := zK H; clear H
              go_wp2_with (first | ((with_reducible refine gate_dst (N := 71) rfl ?_); refine Kd.R_lit (Kd.int .i64) _ 3 ?hg (N := 71) ?hd (xs := ([wrap64 (100 + aC)] : List Int)) (inner := [.int .i64 (wrap64 (100 + aC))]) (ok := fun _ => True) (okp := fun _ => True) ?hr ?hp (fun _ hk => hk) trivial (Below.refl _ _) (Nat.le_refl _) (by simp) ?_; (case hd => rfl); (case hg => rfl); (case hr => first | (go_simp; done) | (go_simp; rfl)); (case hp => exact (Reps.one (show Kd.M (Kd.int .i64) _ _ _ (wrap64 (100 + aC)) [.int .i64 (wrap64 (100 + aC))] from rfl) (Reps.none _ _))); intro v152 w57 ho58 hb hg_ hnew_; clear hg_ hnew_; (first | rw [← Ny151.out] at ho58 | (simp only [Int.reduceToNat] at ho58; rw [← Ny151.out] at ho58)); have aX := zK (Kd.R_elder' (zR aa) (Kd.R_base ho58) hb); have aY := zK (Kd.S_elder' (zT ac) (Kd.R_base ho58) hb); have aZ := zK (Kd.R_lower (Kd.R_new' ho58 (Kd.R_lt (zR aa))) (keep_size (w := w) (g := g) (row := none) (zc12 HK))); have a0 := zK (blk_below (g := ao) (o := .cells #[.slice none 0 0, .int .i64 0, .slice none 0 0, .slice none 0 0] 28 (0, 0)) (zk af) hb); have a3 := zK (blk_below (g := ai) (o := .cells #[u128000, .int .i64 ap, u128002, .slice none 0 0] 28 (0, 0)) (zk ab) hb); have a4 := zK (blk_below (g := al) (o := .cells #[.int .i64 (Int.tmod (wrap64 (aQ + (wrap64 (aC * (wrap64 (1 + (wrap64 (Int.tdiv (aj.length : Int) 4)))))))) (aj.length : Int)), .int .i64 a1, .slice none 0 0] 69 (0, 0)) (zk an) hb); have bb := zK (IsS90.below (zi12 HI0) hb); have bf := zK (KeepBut.trans (by repeat (first | (with_reducible first | exact HK.out | apply KeepBut.set_ | apply keep_drewN | apply keep_drew | apply keep_alloc | refine keep_far ?_ au.out _ | refine keep_far ?_ ay.out _ | refine keep_far ?_ a7.out _) | exact HK.out)) (KeepBut.of_below hb g none) (.inl rfl)); have bh := zK (below_step (zj12 HB) hb); clear aa; clear ac; clear af; clear ab; clear an; clear HI0; clear HK; clear HB; have aa := aX; have ac := aY; have dv := aZ; have af := a0; have ab := a3; have an := a4; have HI0 := bb; have HK := bf; have HB := bh; clear aX aY aZ a0 a3 a4 bb bf bh; clear hb ho58; obtain ⟨df, dg, eo59⟩ := Kd.R_slice dv.out; subst eo59; have hnb60 := a2.out; have hnc60 := aD.out; have hnb61 := aV.out; have hnc61 := ax.out; have hnb62 := be.out; have hnc62 := aB.out; have hcz63_0 : w57.cell? ⟨al, 0, none⟩ = some (.int .i64 (Int.tmod (wrap64 (aQ + (wrap64 (aC * (wrap64 (1 + (wrap64 (Int.tdiv (aj.length : Int) 4)))))))) (aj.length : Int))) := (blk_cell an.out 0).trans rfl; have hcz63_1 : w57.cell? ⟨al, 1, none⟩ = some (.int .i64 a1) := (blk_cell an.out 1).trans rfl; have hcz63_2 : w57.cell? ⟨al, 2, none⟩ = some (.slice none 0 0) := (blk_cell an.out 2).trans rfl; have hfz63_0 := blk_frozen an.out 0; have hfz63_1 := blk_frozen an.out 1; have hfz63_2 := blk_frozen an.out 2))
              go_meet
              case rel => exact ⟨_, (cr), (.slice df cr.length dg), H', ⟨by have := bJ.out; have := bL.out; have := bK.out; first | omega | exact Nat.le_refl _⟩, ⟨by (with_reducible repeat (first | apply Kd.R_alloc | apply Kd.R_drewN | apply Kd.R_drew)); exact Kd.R_mono (Kd.R_far (p := ⟨al, 2, none⟩) (Kd.R_types aa.out an.out (by decide)) (fun _ hk => hk.2) (.slice df cr.length dg)) (fun _ hk => hk.1.2)⟩, ⟨by (with_reducible repeat (first | apply Kd.S_alloc | apply Kd.S_drewN | apply Kd.S_drew)); exact Kd.S_mono (Kd.S_far (p := ⟨al, 2, none⟩) (Kd.S_mono ac.out (fun k_ hk => (⟨hk, hk.1.2⟩ : _ ∧ k_ ≠ al))) (fun _ hk => hk.2) (.slice df cr.length dg)) (fun _ hk => ⟨hk.1.1.1, ⟨hk.1.2, hk.1.1.2⟩⟩)⟩, ⟨by (with_reducible repeat (first | apply Kd.R_alloc | apply Kd.R_drewN | apply Kd.R_drew)); exact Kd.R_mono (Kd.R_far (p := ⟨al, 2, none⟩) (Kd.R_types dv.out an.out (by decide)) (fun _ hk => hk.2) (.slice df cr.length dg)) (fun _ hk => hk.1.2)⟩, ⟨zh af aD⟩, ⟨zh ab ax⟩, ⟨by (with_reducible repeat (first | refine zN ?_ _ | refine zD ?_ | refine zA ?_ _)); refine blk_put (cs := #[.int .i64 (Int.tmod (wrap64 (aQ + (wrap64 (aC * (wrap64 (1 + (wrap64 (Int.tdiv (aj.length : Int) 4)))))))) (aj.length : Int)), .int .i64 a1, .slice none 0 0]) ?_ 2 _ rfl; (with_reducible repeat (first | refine zN ?_ _ | refine zD ?_ | refine zA ?_ _)); exact an.out⟩, ⟨zi12 HI0⟩, ⟨zc12 HK⟩, ⟨zj12 HB⟩⟩
             ·replace c56 := Bool.eq_false_iff.mpr c56
              subst c56
              have H1 : (spec_l05Loop.j3 kj35 (aj.length : Int) aQ aC am aT aU ah ap ad (Int.tmod (wrap64 (aQ + (wrap64 (aC * (wrap64 (1 + (wrap64 (Int.tdiv (aj.length : Int) 4)))))))) (aj.length : Int)) a1 ([] : List Int)) = some (r1, r2, r3, r4, r5, r6) := by rw [if_neg (show ¬ (false = true) by decide)] at H; exact H
              clear H; have H := H1; clear H1; have H' := zK H; clear H
              go_wp2
              go_meet
              case rel => exact ⟨_, (([] : List Int)), (.slice none 0 0), H', ⟨by have := bJ.out; have := bL.out; have := bK.out; first | omega | exact Nat.le_refl _⟩, ⟨by (with_reducible repeat (first | apply Kd.R_alloc | apply Kd.R_drewN | apply Kd.R_drew)); exact Kd.R_mono aa.out (fun _ hk => (by simp [Value.ownBlock]))⟩, ⟨by (with_reducible repeat (first | apply Kd.S_alloc | apply Kd.S_drewN | apply Kd.S_drew)); exact Kd.S_mono ac.out (fun _ hk => ⟨hk.1, ⟨(by simp [Value.ownBlock]), hk.2⟩⟩)⟩, ⟨by first | exact Kd.R_nil _ _ _ _ _ | exact Kd.N_nil _ _ _ _ _ | exact Kd.V_nil _ _ _ _ _ | exact Kd.Q_nil _ _ _ _ _ | exact Kd.S_nil _ _ _ _ _⟩, ⟨zk af⟩, ⟨zk ab⟩, ⟨zk an⟩, ⟨zi12 HI0⟩, ⟨zc12 HK⟩, ⟨zj12 HB⟩⟩
            case rest =>
             clear dQ
             obtain ⟨kq, aH, u148002, HA, b3, aa, ac, aN, af, ab, an, HI0, HK, HB⟩ := hcut
             cases kq with
             | zero => exact absurd HA.out (by simp [spec_l05Loop.j3])
             | succ kj54 =>
              have H := HA.out; clear HA
              simp only [spec_l05Loop.j3] at H
              have H' := zK H; clear H
              go_wp2
              go_loopg [9, 10] kj54 (fun kq v9 v10 w' => ∃ (cC : Bool) (aW : Int), v9 = .bool cC ∧ v10 = .int .i64 aW ∧ Aside0 (spec_l05Loop.l2 kq (aj.length : Int) aQ aC cC aW am aT aU ah ap ad (Int.tmod (wrap64 (aQ + (wrap64 (aC * (wrap64 (1 + (wrap64 (Int.tdiv (aj.length : Int) 4)))))))) (aj.length : Int)) a1 aH = some (r1, r2, r3, r4, r5, r6)) ∧ Aside0 (kq ≤ kj54) ∧ Aside0 (Kd.R (Kd.int .i64) 3 w' w.heap.size (fun k_ => some k_ ≠ (u148002 : Value).ownBlock) u128000 ah) ∧ Aside0 (Kd.S k69 69 w' w.heap.size (fun k_ => some k_ ≠ (u128000 : Value).ownBlock ∧ some k_ ≠ (u148002 : Value).ownBlock ∧ k_ ≠ al) u128002 ad) ∧ Aside0 (Kd.R (Kd.int .i64) 3 w' w.heap.size (fun k_ => some k_ ≠ (u128000 : Value).ownBlock) u148002 aH) ∧ Aside0 (w'.heap[ao]? = some (.cells #[(.slice none 0 0), .int .i64 0, (.slice none 0 0), (.slice none 0 0)] 28 (0, 0))) ∧ Aside0 (w'.heap[ai]? = some (.cells #[u128000, .int .i64 ap, u128002, (.slice none 0 0)] 28 (0, 0))) ∧ Aside0 (w'.heap[al]? = some (.cells #[.int .i64 (Int.tmod (wrap64 (aQ + (wrap64 (aC * (wrap64 (1 + (wrap64 (Int.tdiv (aj.length : Int) 4)))))))) (aj.length : Int)), .int .i64 a1, u148002] 69 (0, 0))) ∧ Aside0 (IsS90 w0 w' g am aT aU) ∧ Aside0 (KeepBut w w' g none) ∧ Aside0 (Below w0.heap.size w0 w'))
              case atStart => exact ⟨(false), (0), zf, zf, H', ⟨Nat.le_refl _⟩, ⟨zR aa⟩, ⟨zT ac⟩, ⟨zR aN⟩, ⟨zk af⟩, ⟨zk ab⟩, ⟨zk an⟩, ⟨zi12 HI0⟩, ⟨zc12 HK⟩, ⟨zj12 HB⟩⟩
              case round =>
               clear H'
               obtain ⟨cC, aW, rfl, rfl, HA, dw, aa, ac, aN, af, ab, an, HI0, HK, HB⟩ := hrel
               cases gk with
               | zero => exact absurd HA.out (by simp [spec_l05Loop.l2])
               | succ k5 =>
                have H := HA.out; clear HA
                simp only [spec_l05Loop.l2] at H
                by_cases d4 : aW < (ad.length : Int)
                ·rw [if_pos d4] at H
                 have ek : decide (aW < (ad.length : Int)) = true := decide_eq_true d4
                 clear d4
                 by_cases c65 : cC = true
                 ·subst c65
                  have H1 : (spec_l05Loop.l2 k5 (aj.length : Int) aQ aC true (wrap64 (aW + 1)) am aT aU ah ap ad (Int.tmod (wrap64 (aQ + (wrap64 (aC * (wrap64 (1 + (wrap64 (Int.tdiv (aj.length : Int) 4)))))))) (aj.length : Int)) a1 aH) = some (r1, r2, r3, r4, r5, r6) := by rw [if_pos rfl] at H; exact H
                  clear H; have H := H1; clear H1; have H' := zK H; clear H; have hnb66 := a5.out; have hnc66 := aI.out; have hnb67 := ax.out; have hnc67 := aV.out; have hnb68 := aR.out; have hnc68 := ae.out
                  have hcz69_0 : wr.cell? ⟨ai, 0, none⟩ = some (u128000) := (blk_cell ab.out 0).trans rfl
                  have hcz69_1 : wr.cell? ⟨ai, 1, none⟩ = some (.int .i64 ap) := (blk_cell ab.out 1).trans rfl
                  have hcz69_2 : wr.cell? ⟨ai, 2, none⟩ = some (u128002) := (blk_cell ab.out 2).trans rfl
                  have hcz69_3 : wr.cell? ⟨ai, 3, none⟩ = some (.slice none 0 0) := (blk_cell ab.out 3).trans rfl
                  have hfz69_0 := blk_frozen ab.out 0; have hfz69_1 := blk_frozen ab.out 1; have hfz69_2 := blk_frozen ab.out 2; have hfz69_3 := blk_frozen ab.out 3
                  obtain ⟨Ao70, co70, eo70⟩ := Kd.S_slice ac.out
                  subst eo70
                  try go_wp2
                  have aX := zK (Kd.R_drew aa.out)
                  have aY := zK (Kd.S_drew ac.out)
                  have aZ := zK (Kd.R_drew aN.out)
                  have a0 := zK (zD af.out)
                  have a3 := zK (zD ab.out)
                  have a4 := zK (zD an.out)
                  have bb := zK (IsS90.drew HI0.out)
                  have bf := zK (keep_drew HK.out)
                  have bh := zK (zE HB.out)
                  clear aa ac aN af ab an HI0 HK HB; have aa := aX; have ac := aY; have aN := aZ; have af := a0; have ab := a3; have an := a4; have HI0 := bb; have HK := bf; have HB := bh; clear aX aY aZ a0 a3 a4 bb bf bh
                  refine start_ (n := 13) (S := fun w' => True) (ds := []) #[ff, ff, ff, ff, ff, ff, ff, ff, ff, ff, ff, ff, ff] (by kernel_rfl) rfl rfl trivial (fun hHeld => ?_); refine with_tabW spec_l05Loop.tab19 spec_l05Loop.bits19 (fun HT_ HW_ => ?_)
                  generalize wr.drew = w71 at aa ac aN af ab an HI0 HK HB hHeld ⊢
                  refine zu 0 (some 80) #[tt, ff, ff, ff, ff, ff, ff, ff, ff, ff, ff, ff, ff] (any_of HT_.out (by kernel_rfl)) ?_
                  refine zu 1 (some 81) #[tt, tt, ff, ff, ff, ff, ff, ff, ff, ff, ff, ff, ff] (any_of HT_.out (by kernel_rfl)) ?_
                  refine pure_ (i := 2) (N := some 82) (v := undef) (a' := ?_) #[tt, tt, tt, ff, ff, ff, ff, ff, ff, ff, ff, ff, ff] rfl rfl (any_of HT_.out (by kernel_rfl)) (fun _ _ _ h => h) (Or.inr ⟨by rfl, rfl⟩) ?_ ?_
                  rotate_left
                  ·simp only [Act.put, zp, zq, zr, i64_w, i32_w]
                   rfl
                  refine pure_ (i := 3) (N := some 83) (v := undef) (a' := ?_) #[tt, tt, tt, tt, ff, ff, ff, ff, ff, ff, ff, ff, ff] rfl rfl (any_of HT_.out (by kernel_rfl)) (fun _ _ _ h => h) (Or.inr ⟨by rfl, rfl⟩) ?_ ?_
                  rotate_left
                  ·simp only [Act.put, zp, zq, zr, i64_w, i32_w]
                   rfl
                  refine pure_ (i := 4) (N := some 84) (v := undef) (a' := ?_) #[tt, tt, tt, tt, tt, ff, ff, ff, ff, ff, ff, ff, ff] rfl rfl (any_of HT_.out (by kernel_rfl)) (fun _ _ _ h => h) (Or.inr ⟨by rfl, rfl⟩) ?_ ?_
                  rotate_left
                  ·simp only [Act.put, zp, zq, zr, i64_w, i32_w]
                   rfl
                  refine pure_ (i := 5) (N := some 85) (v := undef) (a' := ?_) #[tt, tt, tt, tt, tt, tt, ff, ff, ff, ff, ff, ff, ff] rfl rfl (any_of HT_.out (by kernel_rfl)) (fun _ _ _ h => h) (Or.inr ⟨by rfl, rfl⟩) ?_ ?_
                  rotate_left
                  ·simp only [Act.put, zp, zq, zr, i64_w, i32_w]
                   rfl
                  refine pure_ (i := 6) (N := some 86) (v := undef) (a' := ?_) #[tt, tt, tt, tt, tt, tt, tt, ff, ff, ff, ff, ff, ff] rfl rfl (any_of HT_.out (by kernel_rfl)) (fun _ _ _ h => h) (Or.inr ⟨by rfl, rfl⟩) ?_ ?_
                  rotate_left
                  ·simp only [Act.put, zp, zq, zr, i64_w, i32_w]
                   rfl
                  refine pure_ (i := 7) (N := some 87) (v := undef) (a' := ?_) #[tt, tt, tt, tt, tt, tt, tt, tt, ff, ff, ff, ff, ff] rfl rfl (any_of HT_.out (by kernel_rfl)) (fun _ _ _ h => h) (Or.inr ⟨by rfl, rfl⟩) ?_ ?_
                  rotate_left
                  ·simp only [Act.put, zp, zq, zr, i64_w, i32_w]
                   rfl
                  refine pure_ (i := 8) (N := some 88) (v := undef) (a' := ?_) #[tt, tt, tt, tt, tt, tt, tt, tt, tt, ff, ff, ff, ff] rfl rfl (any_of HT_.out (by kernel_rfl)) (fun _ _ _ h => h) (Or.inr ⟨by rfl, rfl⟩) ?_ ?_
                  rotate_left
                  ·simp only [Act.put, zp, zq, zr, i64_w, i32_w]
                   rfl
                  refine pure_ (i := 9) (N := some 89) (v := undef) (a' := ?_) #[tt, tt, tt, tt, tt, tt, tt, tt, tt, tt, ff, ff, ff] rfl rfl (any_of HT_.out (by kernel_rfl)) (fun _ _ _ h => h) (Or.inr ⟨by rfl, rfl⟩) ?_ ?_
                  rotate_left
                  ·simp only [Act.put, zp, zq, zr, i64_w, i32_w]
                   rfl
                  refine pure_ (i := 10) (N := some 90) (v := undef) (a' := ?_) #[tt, tt, tt, tt, tt, tt, tt, tt, tt, tt, tt, ff, ff] rfl rfl (any_of HT_.out (by kernel_rfl)) (fun _ _ _ h => h) (Or.inr ⟨by rfl, rfl⟩) ?_ ?_
                  rotate_left
                  ·simp only [Act.put, zp, zq, zr, i64_w, i32_w]
                   rfl
                  refine zu 11 (some 91) #[tt, tt, tt, tt, tt, tt, tt, tt, tt, tt, tt, tt, ff] (any_of HT_.out (by kernel_rfl)) ?_
                  refine zu 12 (some 9) #[tt, tt, tt, tt, tt, tt, tt, tt, tt, tt, tt, tt, tt] (any_of HT_.out (by kernel_rfl)) ?_
                  refine done_ (done_of HT_.out (by kernel_rfl)) ?_
                  try go_wp2
                  go_roundg k5
                  case measure => have := bJ.out; have := bL.out; have := bK.out; have := b3.out; have := dw.out; omega
                  case rel => exact ⟨(true), (wrap64 (aW + 1)), zf, zf, H', ⟨by have := bJ.out; have := bL.out; have := bK.out; have := b3.out; have := dw.out; omega⟩, ⟨zR aa⟩, ⟨zT ac⟩, ⟨zR aN⟩, ⟨zk af⟩, ⟨zk ab⟩, ⟨zk an⟩, ⟨zi12 HI0⟩, ⟨zc12 HK⟩, ⟨zj12 HB⟩⟩
                 ·replace c65 := Bool.eq_false_iff.mpr c65
                  subst c65
                  have H1 : (if 0 ≤ aW then (spec_l05Loop.l2 k5 (aj.length : Int) aQ aC (((rd_T69 ad aW).f0) == (Int.tmod (wrap64 (aQ + (wrap64 (aC * (wrap64 (1 + (wrap64 (Int.tdiv (aj.length : Int) 4)))))))) (aj.length : Int))) (wrap64 (aW + 1)) am aT aU ah ap ad (Int.tmod (wrap64 (aQ + (wrap64 (aC * (wrap64 (1 + (wrap64 (Int.tdiv (aj.length : Int) 4)))))))) (aj.length : Int)) a1 aH) else (none)) = some (r1, r2, r3, r4, r5, r6) := by rw [if_neg (show ¬ (false = true) by decide)] at H; exact H
                  clear H; have H := H1; clear H1
                  by_cases c72 : 0 ≤ aW
                  ·rw [if_pos c72] at H
                   have c72b0 : decide (0 ≤ aW) = true := decide_eq_true c72
                   clear c72; have H' := zK H; clear H; have hnb73 := a5.out; have hnc73 := aI.out; have hnb74 := ax.out; have hnc74 := aV.out; have hnb75 := aR.out; have hnc75 := ae.out
                   have hcz76_0 : wr.cell? ⟨ai, 0, none⟩ = some (u128000) := (blk_cell ab.out 0).trans rfl
                   have hcz76_1 : wr.cell? ⟨ai, 1, none⟩ = some (.int .i64 ap) := (blk_cell ab.out 1).trans rfl
                   have hcz76_2 : wr.cell? ⟨ai, 2, none⟩ = some (u128002) := (blk_cell ab.out 2).trans rfl
                   have hcz76_3 : wr.cell? ⟨ai, 3, none⟩ = some (.slice none 0 0) := (blk_cell ab.out 3).trans rfl
                   have hfz76_0 := blk_frozen ab.out 0; have hfz76_1 := blk_frozen ab.out 1; have hfz76_2 := blk_frozen ab.out 2; have hfz76_3 := blk_frozen ab.out 3
                   obtain ⟨Ao77, co77, eo77⟩ := Kd.S_slice ac.out
                   subst eo77
                   try go_wp2
                   have aX := zK (Kd.R_drew aa.out)
                   have aY := zK (Kd.S_drew ac.out)
                   have aZ := zK (Kd.R_drew aN.out)
                   have a0 := zK (zD af.out)
                   have a3 := zK (zD ab.out)
                   have a4 := zK (zD an.out)
                   have bb := zK (IsS90.drew HI0.out)
                   have bf := zK (keep_drew HK.out)
                   have bh := zK (zE HB.out)
                   clear aa ac aN af ab an HI0 HK HB; have aa := aX; have ac := aY; have aN := aZ; have af := a0; have ab := a3; have an := a4; have HI0 := bb; have HK := bf; have HB := bh; clear aX aY aZ a0 a3 a4 bb bf bh
                   have dh : 0 ≤ (aW : Int) := zd
                   have di : aW < (ad.length : Int) := zd
                   obtain ⟨bM, dR, dS, e154, ce, cf, bQ, cg, ch⟩ := at_T69 (Kd.S_reads' ac.out).2.2 aW dh di
                   cases e154
                   obtain ⟨ce154, dT, dU, cD⟩ := Kd.S_get ac.out z69 aW dh (by first | exact di | exact zd | (have e_ := (Kd.S_reads' ac.out).1; omega))
                   obtain ⟨ve154_2, rfl, bR⟩ := k69_openM dU
                   have bv := cD 2 _ rfl
                   rw [add_field _ _ 2 (by omega)] at bv
                   replace bv := Option.some.inj (bv.symm.trans bQ)
                   rw [bv] at bR
                   have dj := zK (show Kd.R (Kd.int .i64) 3 _ _ _ _ ((rd_T69 ad aW).f2) from bR)
                   clear bv bR cD dT; have dk := zK ch; have HC154_2 := zK cg; clear ch cg; replace dh := eq_true dh; replace di := eq_true di
                   refine start_ (n := 13) (S := fun w' => w'.cell? ⟨ai, 0, none⟩ = some (u128000) ∧ w'.cell? ⟨ai, 1, none⟩ = some (.int .i64 ap) ∧ w'.cell? ⟨ai, 2, none⟩ = some (.slice (some bM) ad.length co77) ∧ w'.cell? ⟨ai, 3, none⟩ = some (.slice none 0 0) ∧ w'.cell? ⟨al, 0, none⟩ = some (.int .i64 (Int.tmod (wrap64 (aQ + (wrap64 (aC * (wrap64 (1 + (wrap64 (Int.tdiv (aj.length : Int) 4)))))))) (aj.length : Int))) ∧ w'.cell? ⟨al, 1, none⟩ = some (.int .i64 a1) ∧ w'.cell? ⟨al, 2, none⟩ = some (u148002) ∧ w'.cell? (bM.add ((aW).toNat * 3)) = some (.int .i64 ((rd_T69 ad aW).f0)) ∧ w'.cell? ⟨(bM.add ((aW).toNat * 3)).block, (bM.add ((aW).toNat * 3)).off + 1, none⟩ = some (.int .i64 ((rd_T69 ad aW).f1)) ∧ w'.cell? ⟨(bM.add ((aW).toNat * 3)).block, (bM.add ((aW).toNat * 3)).off + 2, none⟩ = some (.slice dR ((rd_T69 ad aW).f2).length dS)) (ds := []) #[ff, ff, ff, ff, ff, ff, ff, ff, ff, ff, ff, ff, ff] (by kernel_rfl) rfl rfl ⟨(blk_cell ab.out 0).trans rfl, (blk_cell ab.out 1).trans rfl, (blk_cell ab.out 2).trans rfl, (blk_cell ab.out 3).trans rfl, (blk_cell an.out 0).trans rfl, (blk_cell an.out 1).trans rfl, (blk_cell an.out 2).trans rfl, ce, cf, bQ⟩ (fun hHeld => ?_); refine with_tabW spec_l05Loop.tab19 spec_l05Loop.bits19 (fun HT_ HW_ => ?_)
                   generalize wr.drew = w78 at aa ac aN af ab an HI0 HK HB dj dk ce cf bQ hHeld ⊢
                   refine zu 0 (some 80) #[tt, ff, ff, ff, ff, ff, ff, ff, ff, ff, ff, ff, ff] (any_of HT_.out (by kernel_rfl)) ?_
                   refine zu 1 (some 81) #[tt, tt, ff, ff, ff, ff, ff, ff, ff, ff, ff, ff, ff] (any_of HT_.out (by kernel_rfl)) ?_
                   refine zu 2 (some 82) #[tt, tt, tt, ff, ff, ff, ff, ff, ff, ff, ff, ff, ff] (any_of HT_.out (by kernel_rfl)) ?_
                   refine zu 4 (some 84) #[tt, tt, tt, ff, tt, ff, ff, ff, ff, ff, ff, ff, ff] (any_of HT_.out (by kernel_rfl)) ?_
                   refine zu 8 (some 88) #[tt, tt, tt, ff, tt, ff, ff, ff, tt, ff, ff, ff, ff] (any_of HT_.out (by kernel_rfl)) ?_
                   refine zt 3 (some 83) #[tt, tt, tt, tt, tt, ff, ff, ff, tt, ff, ff, ff, ff] (take_ofW HT_.out HW_.out (by kernel_rfl)) hHeld ?_
                   refine zu 5 (some 85) #[tt, tt, tt, tt, tt, tt, ff, ff, tt, ff, ff, ff, ff] (any_of HT_.out (by kernel_rfl)) ?_
                   refine zu 6 (some 86) #[tt, tt, tt, tt, tt, tt, tt, ff, tt, ff, ff, ff, ff] (any_of HT_.out (by kernel_rfl)) ?_
                   refine zt 7 (some 87) #[tt, tt, tt, tt, tt, tt, tt, tt, tt, ff, ff, ff, ff] (take_ofW HT_.out HW_.out (by kernel_rfl)) hHeld ?_
                   refine zt 9 (some 89) #[tt, tt, tt, tt, tt, tt, tt, tt, tt, tt, ff, ff, ff] (take_ofW HT_.out HW_.out (by kernel_rfl)) hHeld ?_
                   refine zu 10 (some 90) #[tt, tt, tt, tt, tt, tt, tt, tt, tt, tt, tt, ff, ff] (any_of HT_.out (by kernel_rfl)) ?_
                   refine zu 11 (some 91) #[tt, tt, tt, tt, tt, tt, tt, tt, tt, tt, tt, tt, ff] (any_of HT_.out (by kernel_rfl)) ?_
                   refine zu 12 (some 9) #[tt, tt, tt, tt, tt, tt, tt, tt, tt, tt, tt, tt, tt] (any_of HT_.out (by kernel_rfl)) ?_
                   refine done_ (done_of HT_.out (by kernel_rfl)) ?_
                   try go_wp2
                   go_roundg k5
                   case measure => have := bJ.out; have := bL.out; have := bK.out; have := b3.out; have := dw.out; omega
                   case rel => exact ⟨((((rd_T69 ad aW).f0) == (Int.tmod (wrap64 (aQ + (wrap64 (aC * (wrap64 (1 + (wrap64 (Int.tdiv (aj.length : Int) 4)))))))) (aj.length : Int)))), (wrap64 (aW + 1)), zf, zf, H', ⟨by have := bJ.out; have := bL.out; have := bK.out; have := b3.out; have := dw.out; omega⟩, ⟨zR aa⟩, ⟨zT ac⟩, ⟨zR aN⟩, ⟨zk af⟩, ⟨zk ab⟩, ⟨zk an⟩, ⟨zi12 HI0⟩, ⟨zc12 HK⟩, ⟨zj12 HB⟩⟩
                  ·rw [if_neg c72] at H
                   exact absurd H (by simp)
                ·rw [if_neg d4] at H
                 have ek : decide (aW < (ad.length : Int)) = false := decide_eq_false d4
                 clear d4
                 by_cases c79 : cC = true
                 ·subst c79
                  have H1 : (spec_l05Loop.l1 k5 (aj.length : Int) aQ (wrap64 (aC - 1)) am aT aU ah ap ad) = some (r1, r2, r3, r4, r5, r6) := by rw [if_pos rfl] at H; exact H
                  clear H; have H := H1; clear H1; have H' := zK H; clear H; have hnb80 := a5.out; have hnc80 := aI.out; have hnb81 := ax.out; have hnc81 := aV.out; have hnb82 := aR.out; have hnc82 := ae.out
                  have hcz83_0 : wr.cell? ⟨ai, 0, none⟩ = some (u128000) := (blk_cell ab.out 0).trans rfl
                  have hcz83_1 : wr.cell? ⟨ai, 1, none⟩ = some (.int .i64 ap) := (blk_cell ab.out 1).trans rfl
                  have hcz83_2 : wr.cell? ⟨ai, 2, none⟩ = some (u128002) := (blk_cell ab.out 2).trans rfl
                  have hcz83_3 : wr.cell? ⟨ai, 3, none⟩ = some (.slice none 0 0) := (blk_cell ab.out 3).trans rfl
                  have hfz83_0 := blk_frozen ab.out 0; have hfz83_1 := blk_frozen ab.out 1; have hfz83_2 := blk_frozen ab.out 2; have hfz83_3 := blk_frozen ab.out 3
                  obtain ⟨Ao84, co84, eo84⟩ := Kd.S_slice ac.out
                  subst eo84
                  go_wp2
                  go_roundg k5
                  case measure => have := bJ.out; have := bL.out; have := bK.out; have := b3.out; have := dw.out; omega
                  case rel => exact ⟨(wrap64 (aC - 1)), (aT), (aU), (ad), (.slice Ao84 ad.length co84), zf, H', ⟨by have := bJ.out; have := bL.out; have := bK.out; have := b3.out; have := dw.out; omega⟩, ⟨by (with_reducible repeat (first | apply Kd.R_alloc | apply Kd.R_drewN | apply Kd.R_drew)); exact Kd.R_mono aa.out (fun _ hk => trivial)⟩, ⟨by (with_reducible repeat (first | apply Kd.S_alloc | apply Kd.S_drewN | apply Kd.S_drew)); exact Kd.S_mono ac.out (fun _ hk => hk.1)⟩, ⟨zk af⟩, ⟨zk ab⟩, ⟨zi12 HI0⟩, ⟨zc12 HK⟩, ⟨zj12 HB⟩⟩
                 ·replace c79 := Bool.eq_false_iff.mpr c79
                  subst c79
                  have H1 : (if ad.length < 3518437208883 then (spec_l05Loop.l1 k5 (aj.length : Int) aQ (wrap64 (aC - 1)) am aT aU ah ap (ad ++ [(⟨(Int.tmod (wrap64 (aQ + (wrap64 (aC * (wrap64 (1 + (wrap64 (Int.tdiv (aj.length : Int) 4)))))))) (aj.length : Int)), a1, aH⟩ : S69)])) else (none)) = some (r1, r2, r3, r4, r5, r6) := by rw [if_neg (show ¬ (false = true) by decide)] at H; exact H
                  clear H; have H := H1; clear H1
                  by_cases c85 : ad.length < 3518437208883
                  ·rw [if_pos c85] at H
                   have el := zK c85; clear c85
                   obtain ⟨cE, b4⟩ : ∃ y_ : List (S69), y_ = (ad ++ [(⟨(Int.tmod (wrap64 (aQ + (wrap64 (aC * (wrap64 (1 + (wrap64 (Int.tdiv (aj.length : Int) 4)))))))) (aj.length : Int)), a1, aH⟩ : S69)]) := ⟨_, rfl⟩
                   replace H : (spec_l05Loop.l1 k5 (aj.length : Int) aQ (wrap64 (aC - 1)) am aT aU ah ap cE) = some (r1, r2, r3, r4, r5, r6) := by first | (rw [b4]; with_reducible exact H) | (have H2_ := (Option.bind_some _ _).symm.trans H; rw [b4]; with_reducible exact H2_) | (have H2_ := (Option.bind_some _ _).symm.trans H; with_reducible exact H2_) | with_reducible exact H | (rw [b4]; exact H) | exact H
                   have Ny155 := zK b4; clear b4; have H' := zK H; clear H; have hnb86 := a5.out; have hnc86 := aI.out; have hnb87 := ax.out; have hnc87 := aV.out; have hnb88 := aR.out; have hnc88 := ae.out
                   have hcz89_0 : wr.cell? ⟨ai, 0, none⟩ = some (u128000) := (blk_cell ab.out 0).trans rfl
                   have hcz89_1 : wr.cell? ⟨ai, 1, none⟩ = some (.int .i64 ap) := (blk_cell ab.out 1).trans rfl
                   have hcz89_2 : wr.cell? ⟨ai, 2, none⟩ = some (u128002) := (blk_cell ab.out 2).trans rfl
                   have hcz89_3 : wr.cell? ⟨ai, 3, none⟩ = some (.slice none 0 0) := (blk_cell ab.out 3).trans rfl
                   have hfz89_0 := blk_frozen ab.out 0; have hfz89_1 := blk_frozen ab.out 1; have hfz89_2 := blk_frozen ab.out 2; have hfz89_3 := blk_frozen ab.out 3
                   obtain ⟨ct, cu, eo90⟩ := Kd.S_slice ac.out
                   subst eo90; have hnb91 := a2.out; have hnc91 := aD.out; have hnb92 := be.out; have hnc92 := aB.out
                   have hcz93_0 : wr.cell? ⟨al, 0, none⟩ = some (.int .i64 (Int.tmod (wrap64 (aQ + (wrap64 (aC * (wrap64 (1 + (wrap64 (Int.tdiv (aj.length : Int) 4)))))))) (aj.length : Int))) := (blk_cell an.out 0).trans rfl
                   have hcz93_1 : wr.cell? ⟨al, 1, none⟩ = some (.int .i64 a1) := (blk_cell an.out 1).trans rfl
                   have hcz93_2 : wr.cell? ⟨al, 2, none⟩ = some (u148002) := (blk_cell an.out 2).trans rfl
                   have hfz93_0 := blk_frozen an.out 0; have hfz93_1 := blk_frozen an.out 1; have hfz93_2 := blk_frozen an.out 2
                   obtain ⟨dl, dm, eo95⟩ := Kd.R_slice aN.out
                   subst eo95
                   go_wp2_with (first | ((with_reducible refine gate_builtin (b := .append) (xs := #[.tmp 95, .tmp 97]) rfl ?_); at_builtin; refine Kd.S_append k69 w.heap.size rfl (.tmp 95) (.tmp 97) 25 69 (.agg #[(.int .i64 0), (.int .i64 0), (.slice none 0 0)]) 40 rfl Try.underlying25 info69 rfl (by decide) (by omega) (.slice ct ad.length cu) ad (⟨(Int.tmod (wrap64 (aQ + (wrap64 (aC * (wrap64 (1 + (wrap64 (Int.tdiv (aj.length : Int) 4)))))))) (aj.length : Int)), a1, aH⟩ : S69) [.int .i64 (Int.tmod (wrap64 (aQ + (wrap64 (aC * (wrap64 (1 + (wrap64 (Int.tdiv (aj.length : Int) 4)))))))) (aj.length : Int)), .int .i64 a1, .slice dl aH.length dm] (fun k_ => some k_ ≠ (u128000 : Value).ownBlock ∧ k_ ≠ al) (fun k_ => some k_ = (.slice dl aH.length dm : Value).ownBlock) rfl rfl ?aP (fun k_ hk_ => ((Kd.R_mono (ok' := fun k_ => ((fun k_ => some k_ ≠ (u128000 : Value).ownBlock ∧ k_ ≠ al)) k_ ∧ some k_ ≠ (.slice ct ad.length cu : Value).ownBlock) (Kd.R_types (Kd.R_apart' (aN.out) (Kd.S_typed ac.out) (by decide)) an.out (by decide)) (fun k_ hk => ⟨⟨hk.1.1, hk.2⟩, hk.1.2⟩))).1 k_ hk_.symm) ?aF ?aO (Below.refl _ _) ?aS ?aL ?_; (case aP => exact k69_mkM _ _ _ (⟨(Int.tmod (wrap64 (aQ + (wrap64 (aC * (wrap64 (1 + (wrap64 (Int.tdiv (aj.length : Int) 4)))))))) (aj.length : Int)), a1, aH⟩ : S69) (Kd.R_mono (Kd.R_tight rfl (Kd.R_mono (ok' := fun k_ => ((fun k_ => some k_ ≠ (u128000 : Value).ownBlock ∧ k_ ≠ al)) k_ ∧ some k_ ≠ (.slice ct ad.length cu : Value).ownBlock) (Kd.R_types (Kd.R_apart' (aN.out) (Kd.S_typed ac.out) (by decide)) an.out (by decide)) (fun k_ hk => ⟨⟨hk.1.1, hk.2⟩, hk.1.2⟩))) (fun _ h_ => h_))); (case aF => exact (fun k_ hk => ⟨Kd.fresh' (Kd.R_lt (zR aa)) k_ hk, Kd.freshB (g := al) (o := .cells #[.int .i64 (Int.tmod (wrap64 (aQ + (wrap64 (aC * (wrap64 (1 + (wrap64 (Int.tdiv (aj.length : Int) 4)))))))) (aj.length : Int)), .int .i64 a1, .slice dl aH.length dm] 69 (0, 0)) (zk an) k_ hk⟩)); (case aO => exact (by (with_reducible repeat (first | apply Kd.S_alloc | apply Kd.S_drewN | apply Kd.S_drew)); exact Kd.S_mono ac.out (fun k_ hk => ⟨⟨hk.1, hk.2.2⟩, fun e_ => hk.2.1 e_⟩))); (case aS => exact (keep_size (w := w) (g := g) (row := none) (zc12 HK))); (case aL => have := el.out; omega); intro v156 w94 ho hb hg hat; rw [← Ny155.out] at ho; have aX := zK (Kd.R_over' (zR aa) (Kd.S_typed (zT ac)) (by decide) hg); have aY := zK (blk_grown (g := ao) (o := .cells #[.slice none 0 0, .int .i64 0, .slice none 0 0, .slice none 0 0] 28 (0, 0)) (zk af) hg (Kd.S_ne ac.out af.out (by decide))); have aZ := zK (blk_grown (g := ai) (o := .cells #[u128000, .int .i64 ap, .slice ct ad.length cu, .slice none 0 0] 28 (0, 0)) (zk ab) hg (Kd.S_ne ac.out ab.out (by decide))); have a0 := zK (blk_grown (g := al) (o := .cells #[.int .i64 (Int.tmod (wrap64 (aQ + (wrap64 (aC * (wrap64 (1 + (wrap64 (Int.tdiv (aj.length : Int) 4)))))))) (aj.length : Int)), .int .i64 a1, .slice dl aH.length dm] 69 (0, 0)) (zk an) hg (Kd.S_away ac.out (fun _ hk => hk.2.2))); have a3 := zK (IsS90.grown (zi12 HI0) hg (IsS90.own_neS HI0.out ac.out (by decide))); have a4 := zK (below_weaken (zj12 HB) HL.out hb); have bb := zK (KeepBut.trans (by repeat (first | (with_reducible first | exact HK.out | apply KeepBut.set_ | apply keep_drewN | apply keep_drew | apply keep_alloc | refine keep_far ?_ au.out _ | refine keep_far ?_ ay.out _ | refine keep_far ?_ a7.out _) | exact HK.out)) (KeepBut.of_grown hg g) (Kd.S_base2 ac.out)); have bf := zK (ho); clear aa; clear af; clear ab; clear an; clear HI0; clear HB; clear HK; clear ac; clear aN; have aa := aX; have af := aY; have ab := aZ; have an := a0; have HI0 := a3; have HB := a4; have HK := bb; have dx := bf; clear aX aY aZ a0 a3 a4 bb bf; clear ho hb hg hat; obtain ⟨dV, dW, eo96⟩ := Kd.S_slice dx.out; subst eo96; have hcz97_0 : w94.cell? ⟨ai, 0, none⟩ = some (u128000) := (blk_cell ab.out 0).trans rfl; have hcz97_1 : w94.cell? ⟨ai, 1, none⟩ = some (.int .i64 ap) := (blk_cell ab.out 1).trans rfl; have hcz97_2 : w94.cell? ⟨ai, 2, none⟩ = some (.slice ct ad.length cu) := (blk_cell ab.out 2).trans rfl; have hcz97_3 : w94.cell? ⟨ai, 3, none⟩ = some (.slice none 0 0) := (blk_cell ab.out 3).trans rfl; have hfz97_0 := blk_frozen ab.out 0; have hfz97_1 := blk_frozen ab.out 1; have hfz97_2 := blk_frozen ab.out 2; have hfz97_3 := blk_frozen ab.out 3))
                   go_roundg k5
                   case measure => have := bJ.out; have := bL.out; have := bK.out; have := b3.out; have := dw.out; omega
                   case rel => exact ⟨(wrap64 (aC - 1)), (aT), (aU), (cE), (.slice dV cE.length dW), zf, H', ⟨by have := bJ.out; have := bL.out; have := bK.out; have := b3.out; have := dw.out; omega⟩, ⟨by (with_reducible repeat (first | apply Kd.R_alloc | apply Kd.R_drewN | apply Kd.R_drew)); exact Kd.R_mono (Kd.R_far (p := ⟨ai, 2, none⟩) (Kd.R_types aa.out ab.out (by decide)) (fun _ hk => hk.2) (.slice dV cE.length dW)) (fun _ hk => trivial)⟩, ⟨by (with_reducible repeat (first | apply Kd.S_alloc | apply Kd.S_drewN | apply Kd.S_drew)); exact Kd.S_mono (Kd.S_far (p := ⟨ai, 2, none⟩) (Kd.S_types dx.out ab.out (by decide)) (fun _ hk => hk.2) (.slice dV cE.length dW)) (fun _ hk => hk.1.1)⟩, ⟨zh af aI⟩, ⟨by (with_reducible repeat (first | refine zN ?_ _ | refine zD ?_ | refine zA ?_ _)); refine blk_put (cs := #[u128000, .int .i64 ap, .slice ct ad.length cu, .slice none 0 0]) ?_ 2 _ rfl; (with_reducible repeat (first | refine zN ?_ _ | refine zD ?_ | refine zA ?_ _)); exact ab.out⟩, ⟨zi12 HI0⟩, ⟨zc12 HK⟩, ⟨zj12 HB⟩⟩
                  ·rw [if_neg c85] at H
                   exact absurd H (by simp)
        ·rw [if_neg d1] at H
         have cB : decide (0 < aC) = false := decide_eq_false d1
         clear d1; have H' := zK H; clear H
         go_wp2
         go_loopg [11] k2 (fun kq v11 w' => ∃ (az : Int) (bp : Int) (bq : Int) (aq : List (S74)) (u128003 : Value), v11 = .int .i64 az ∧ Aside0 (spec_l05Loop.l3 kq az am bp bq ah ap ad aq = some (r1, r2, r3, r4, r5, r6)) ∧ Aside0 (kq ≤ k2) ∧ Aside0 (Kd.R (Kd.int .i64) 3 w' w.heap.size (fun _ => True) u128000 ah) ∧ Aside0 (Kd.S k69 69 w' w.heap.size (fun k_ => some k_ ≠ (u128000 : Value).ownBlock) u128002 ad) ∧ Aside0 (Kd.S k74 74 w' w.heap.size (fun k_ => some k_ ≠ (u128000 : Value).ownBlock) u128003 aq) ∧ Aside0 (w'.heap[ao]? = some (.cells #[(.slice none 0 0), .int .i64 0, (.slice none 0 0), (.slice none 0 0)] 28 (0, 0))) ∧ Aside0 (w'.heap[ai]? = some (.cells #[u128000, .int .i64 ap, u128002, u128003] 28 (0, 0))) ∧ Aside0 (IsS90 w0 w' g am bp bq) ∧ Aside0 (KeepBut w w' g none) ∧ Aside0 (Below w0.heap.size w0 w'))
         case atStart => exact ⟨(1), (a8), (a9), (([] : List (S74))), (.slice none 0 0), zf, H', ⟨Nat.le_refl _⟩, ⟨zR aa⟩, ⟨zT ac⟩, ⟨by first | exact Kd.S_nil _ _ _ _ _ | exact Kd.N_nil _ _ _ _ _ | exact Kd.V_nil _ _ _ _ _ | exact Kd.Q_nil _ _ _ _ _ | exact Kd.R_nil _ _ _ _ _⟩, ⟨zk af⟩, ⟨zk ab⟩, ⟨zi12 HI0⟩, ⟨zc12 HK⟩, ⟨zj12 HB⟩⟩
         case round =>
          clear H' cB
          obtain ⟨az, bp, bq, aq, u128003, rfl, HA, dy, aa, ac, ak, af, ab, HI0, HK, HB⟩ := hrel
          cases gk with
          | zero => exact absurd HA.out (by simp [spec_l05Loop.l3])
          | succ k3 =>
           have H := HA.out; clear HA
           simp only [spec_l05Loop.l3] at H
           by_cases d5 : az < 8
           ·rw [if_pos d5] at H
            have dz : decide (az < 8) = true := decide_eq_true d5
            clear d5; have H' := zK H; clear H
            go_wp2_with (first | ((with_reducible refine gate_dst (N := 12) rfl ?_); refine zX 12 #[.int .i64 0, .slice none 0 0] 74 ?_; intro aG hg w99 hbox hb; have aX := zK (Kd.R_below (zR aa) hb); have aY := zK (Kd.S_below (zT ac) hb); have aZ := zK (Kd.S_below (Kd.S_elderB (zT ak) aG (Nat.le_of_eq hg.symm)) hb); have a0 := zK (blk_below (g := ao) (o := .cells #[.slice none 0 0, .int .i64 0, .slice none 0 0, .slice none 0 0] 28 (0, 0)) (zk af) hb); have a3 := zK (blk_below (g := ai) (o := .cells #[u128000, .int .i64 ap, u128002, u128003] 28 (0, 0)) (zk ab) hb); have a4 := zK (IsS90.below (zi12 HI0) hb); have bb := zK (KeepBut.trans (by repeat (first | (with_reducible first | exact HK.out | apply KeepBut.set_ | apply keep_drewN | apply keep_drew | apply keep_alloc | refine keep_far ?_ au.out _ | refine keep_far ?_ ay.out _) | exact HK.out)) (KeepBut.of_below hb g none) (.inl rfl)); have bf := zK (below_step (zj12 HB) hb); have bh := zK (hbox); have br := zK ((by rw [hg]; exact (keep_size (w := w) (g := g) (row := none) (zc12 HK)) : w.heap.size ≤ aG)); have bs := zK ((Nat.le_trans HW0.out (by rw [hg]; exact (keep_size (w := w) (g := g) (row := none) (zc12 HK)) : w.heap.size ≤ aG) : w0.heap.size ≤ aG)); have bu := zK ((by rw [hg]; exact Nat.ne_of_lt (blk_lt (g := ao) (o := .cells #[.slice none 0 0, .int .i64 0, .slice none 0 0, .slice none 0 0] 28 (0, 0)) (zk af)) : ao ≠ aG)); have bD := zK ((by rw [hg]; exact Nat.ne_of_gt (blk_lt (g := ao) (o := .cells #[.slice none 0 0, .int .i64 0, .slice none 0 0, .slice none 0 0] 28 (0, 0)) (zk af)) : aG ≠ ao)); have bE := zK ((by rw [hg]; exact Nat.ne_of_lt (blk_lt (g := ai) (o := .cells #[u128000, .int .i64 ap, u128002, u128003] 28 (0, 0)) (zk ab)) : ai ≠ aG)); have bF := zK ((by rw [hg]; exact Nat.ne_of_gt (blk_lt (g := ai) (o := .cells #[u128000, .int .i64 ap, u128002, u128003] 28 (0, 0)) (zk ab)) : aG ≠ ai)); have bG := zK ((by rw [hg]; exact Nat.ne_of_lt (IsS90.lt (show IsS90 w0 _ g am bp bq from zi12 HI0)) : g ≠ aG)); have em := zK ((by rw [hg]; exact Nat.ne_of_gt (IsS90.lt (show IsS90 w0 _ g am bp bq from zi12 HI0)) : aG ≠ g)); clear aa; clear ac; clear ak; clear af; clear ab; clear HI0; clear HK; clear HB; have aa := aX; have ac := aY; have ak := aZ; have af := a0; have ab := a3; have HI0 := a4; have HK := bb; have HB := bf; have aA := bh; have bi := br; have bo := bs; have bg := bu; have bx := bD; have ba := bE; have bj := bF; have aw := bG; have bm := em; clear aX aY aZ a0 a3 a4 bb bf bh br bs bu bD bE bF bG em; clear hb hbox hg; have hnb100 := bx.out; have hnc100 := bg.out; have hnb101 := bj.out; have hnc101 := ba.out; have hnb102 := bm.out; have hnc102 := aw.out; have cF : w99.cell? ⟨aG, 0, none⟩ = some (.int .i64 0) := (blk_cell aA.out 0).trans rfl; have cG : w99.cell? ⟨aG, 1, none⟩ = some (.slice none 0 0) := (blk_cell aA.out 1).trans rfl; have cH := blk_frozen aA.out 0; have cI := blk_frozen aA.out 1))
            go_loopg [13] k3 (fun kq v13 w' => ∃ (bd : Int) (aK : Int) (aM : Int) (av : List Int) (u159001 : Value), v13 = .int .i64 bd ∧ Aside0 (spec_l05Loop.l4 kq az bd am aK aM ah ap ad aq az av = some (r1, r2, r3, r4, r5, r6)) ∧ Aside0 (kq ≤ k3) ∧ Aside0 (Kd.R (Kd.int .i64) 3 w' w.heap.size (fun k_ => some k_ ≠ (u159001 : Value).ownBlock) u128000 ah) ∧ Aside0 (Kd.S k69 69 w' w.heap.size (fun k_ => some k_ ≠ (u128000 : Value).ownBlock ∧ some k_ ≠ (u159001 : Value).ownBlock) u128002 ad) ∧ Aside0 (Kd.S k74 74 w' w.heap.size (fun k_ => some k_ ≠ (u128000 : Value).ownBlock ∧ some k_ ≠ (u159001 : Value).ownBlock ∧ k_ ≠ aG) u128003 aq) ∧ Aside0 (Kd.R (Kd.int .i64) 3 w' w.heap.size (fun k_ => some k_ ≠ (u128000 : Value).ownBlock) u159001 av) ∧ Aside0 (w'.heap[ao]? = some (.cells #[(.slice none 0 0), .int .i64 0, (.slice none 0 0), (.slice none 0 0)] 28 (0, 0))) ∧ Aside0 (w'.heap[ai]? = some (.cells #[u128000, .int .i64 ap, u128002, u128003] 28 (0, 0))) ∧ Aside0 (w'.heap[aG]? = some (.cells #[.int .i64 az, u159001] 74 (0, 0))) ∧ Aside0 (IsS90 w0 w' g am aK aM) ∧ Aside0 (KeepBut w w' g none) ∧ Aside0 (Below w0.heap.size w0 w'))
            case atStart => exact ⟨(0), (bp), (bq), (([] : List Int)), (.slice none 0 0), zf, H', ⟨Nat.le_refl _⟩, ⟨by (with_reducible repeat (first | apply Kd.R_alloc | apply Kd.R_drewN | apply Kd.R_drew)); exact Kd.R_mono (Kd.R_far (p := ⟨aG, 1, none⟩) (Kd.R_far (p := ⟨aG, 0, none⟩) (Kd.R_types aa.out aA.out (by decide)) (fun _ hk => hk.2) (.int .i64 az)) (fun _ hk => hk.2) (.slice none 0 0)) (fun _ hk => (by simp [Value.ownBlock]))⟩, ⟨by (with_reducible repeat (first | apply Kd.S_alloc | apply Kd.S_drewN | apply Kd.S_drew)); exact Kd.S_mono (Kd.S_far (p := ⟨aG, 1, none⟩) (Kd.S_far (p := ⟨aG, 0, none⟩) (Kd.S_types ac.out aA.out (by decide)) (fun _ hk => hk.2) (.int .i64 az)) (fun _ hk => hk.2) (.slice none 0 0)) (fun _ hk => ⟨hk.1, (by simp [Value.ownBlock])⟩)⟩, ⟨by (with_reducible repeat (first | apply Kd.S_alloc | apply Kd.S_drewN | apply Kd.S_drew)); exact Kd.S_mono (Kd.S_far (p := ⟨aG, 1, none⟩) (Kd.S_far (p := ⟨aG, 0, none⟩) (Kd.S_mono ak.out (fun k_ hk => (⟨hk, hk.2⟩ : _ ∧ k_ ≠ aG))) (fun _ hk => hk.2) (.int .i64 az)) (fun _ hk => hk.2) (.slice none 0 0)) (fun _ hk => ⟨hk.1.1, ⟨(by simp [Value.ownBlock]), hk.1.2⟩⟩)⟩, ⟨by first | exact Kd.R_nil _ _ _ _ _ | exact Kd.N_nil _ _ _ _ _ | exact Kd.V_nil _ _ _ _ _ | exact Kd.Q_nil _ _ _ _ _ | exact Kd.S_nil _ _ _ _ _⟩, ⟨zh af bg⟩, ⟨zh ab ba⟩, ⟨by (with_reducible repeat (first | refine zN ?_ _ | refine zD ?_ | refine zA ?_ _)); refine blk_put (cs := #[.int .i64 az, .slice none 0 0]) ?_ 1 _ rfl; (with_reducible repeat (first | refine zN ?_ _ | refine zD ?_ | refine zA ?_ _)); refine blk_put (cs := #[.int .i64 0, .slice none 0 0]) ?_ 0 _ rfl; (with_reducible repeat (first | refine zN ?_ _ | refine zD ?_ | refine zA ?_ _)); exact aA.out⟩, ⟨zi12 HI0⟩, ⟨zc12 HK⟩, ⟨zj12 HB⟩⟩
            case round =>
             clear H' dz cF cG cH cI
             obtain ⟨bd, aK, aM, av, u159001, rfl, HA, dA, aa, ac, ak, ar, af, ab, aA, HI0, HK, HB⟩ := hrel
             cases gk with
             | zero => exact absurd HA.out (by simp [spec_l05Loop.l4])
             | succ k4 =>
              have H := HA.out; clear HA
              simp only [spec_l05Loop.l4] at H
              by_cases cv : bd < (ad.length : Int)
              ·rw [if_pos cv] at H
               have dX : decide (bd < (ad.length : Int)) = true := decide_eq_true cv
               clear cv; replace H := Option.bind_eq_some_iff.mp H
               obtain ⟨⟨en, bS, bT⟩, dB, H⟩ := H
               replace H : (if en = true then (spec_l05Loop.l4 k4 az (wrap64 (bd + 1)) am bS bT ah ap ad aq az av) else (if av.length < 17592186044416 then (spec_l05Loop.l4 k4 az (wrap64 (bd + 1)) am bS bT ah ap ad aq az (av ++ [bd])) else (none))) = some (r1, r2, r3, r4, r5, r6) := H
               have eo := zK dB; clear dB
               by_cases dn : en = true
               ·subst dn
                have H1 : (spec_l05Loop.l4 k4 az (wrap64 (bd + 1)) am bS bT ah ap ad aq az av) = some (r1, r2, r3, r4, r5, r6) := by rw [if_pos rfl] at H; exact H
                clear H; have H := H1; clear H1; have H' := zK H; clear H; have hnb107 := a5.out; have hnc107 := aI.out; have hnb108 := ba.out; have hnc108 := bj.out; have hnb109 := aR.out; have hnc109 := ae.out
                have ep : wr.cell? ⟨ai, 0, none⟩ = some (u128000) := (blk_cell ab.out 0).trans rfl
                have er : wr.cell? ⟨ai, 1, none⟩ = some (.int .i64 ap) := (blk_cell ab.out 1).trans rfl
                have es : wr.cell? ⟨ai, 2, none⟩ = some (u128002) := (blk_cell ab.out 2).trans rfl
                have et : wr.cell? ⟨ai, 3, none⟩ = some (u128003) := (blk_cell ab.out 3).trans rfl
                have eu := blk_frozen ab.out 0; have ew := blk_frozen ab.out 1; have ex := blk_frozen ab.out 2; have ey := blk_frozen ab.out 3
                obtain ⟨ez, eA, eB⟩ := Kd.S_slice ac.out
                subst eB
                go_wp2_with (first | ((with_reducible refine gate_callee (f := 88) rfl ?_); refine goesL_ (some 114) rfl rfl Try.func88 (by kernel_rfl) rfl #[.pointer (some ⟨g, 0, none⟩), .int .i64 3] rfl zg ?_; (with_reducible refine (spec_l01Once.calls g am aK aM 3 true bS bT w0 _ ?side1 ?side2 eo.out).mono ?_); (case side1 => exact zi12 HI0); (case side2 => exact zj12 HB); rintro e w112 ⟨rfl, hi, hb, hk⟩; refine ⟨_, rfl, ?_⟩; have aX := zK (Kd.R_mono (Kd.R_keep (IsS90.apart (show IsS90 w0 _ g am aK aM from zi12 HI0) (zR aa) (by decide)) hk (fun _ h => h.2)) (fun _ h => h.1)); have aY := zK (Kd.S_mono (Kd.S_keep (IsS90.apartS (show IsS90 w0 _ g am aK aM from zi12 HI0) (zT ac) (by decide)) hk (fun _ h => h.2)) (fun _ h => h.1)); have aZ := zK (Kd.S_mono (Kd.S_keep (IsS90.apartS (show IsS90 w0 _ g am aK aM from zi12 HI0) (zT ak) (by decide)) hk (fun _ h => h.2)) (fun _ h => h.1)); have a0 := zK (Kd.R_mono (Kd.R_keep (IsS90.apart (show IsS90 w0 _ g am aK aM from zi12 HI0) (zR ar) (by decide)) hk (fun _ h => h.2)) (fun _ h => h.1)); have a3 := zK (KeepBut.blk hk (g' := ao) (o := .cells #[.slice none 0 0, .int .i64 0, .slice none 0 0, .slice none 0 0] 28 (0, 0)) (zk af) a6.out (by simp)); have a4 := zK (KeepBut.blk hk (g' := ai) (o := .cells #[u128000, .int .i64 ap, .slice ez ad.length eA, u128003] 28 (0, 0)) (zk ab) aR.out (by simp)); have bb := zK (KeepBut.blk hk (g' := aG) (o := .cells #[.int .i64 az, u159001] 74 (0, 0)) (zk aA) bm.out (by simp)); have bf := zK (KeepBut.trans (by repeat (first | (with_reducible first | exact HK.out | apply KeepBut.set_ | apply keep_drewN | apply keep_drew | apply keep_alloc | refine keep_far ?_ au.out _ | refine keep_far ?_ ay.out _ | refine keep_far ?_ bi.out _) | exact HK.out)) hk (.inl rfl)); have bh := zK (hb); have br := zK (hi); clear aa; clear ac; clear ak; clear ar; clear af; clear ab; clear aA; clear HK; clear HB; clear HI0; have aa := aX; have ac := aY; have ak := aZ; have ar := a0; have af := a3; have ab := a4; have aA := bb; have HK := bf; have HB := bh; have HI0 := br; clear aX aY aZ a0 a3 a4 bb bf bh br; (try clear hb); (try clear hk); (try clear hi)))
                go_roundg k4
                case measure => have := bJ.out; have := bL.out; have := dy.out; have := dA.out; omega
                case rel => exact ⟨(wrap64 (bd + 1)), (bS), (bT), (av), (u159001), zf, H', ⟨by have := bJ.out; have := bL.out; have := dy.out; have := dA.out; omega⟩, ⟨zR aa⟩, ⟨zT ac⟩, ⟨zT ak⟩, ⟨zR ar⟩, ⟨zk af⟩, ⟨zk ab⟩, ⟨zk aA⟩, ⟨zi12 HI0⟩, ⟨zc12 HK⟩, ⟨zj12 HB⟩⟩
               ·replace dn := Bool.eq_false_iff.mpr dn
                subst dn
                have H1 : (if av.length < 17592186044416 then (spec_l05Loop.l4 k4 az (wrap64 (bd + 1)) am bS bT ah ap ad aq az (av ++ [bd])) else (none)) = some (r1, r2, r3, r4, r5, r6) := by rw [if_neg (show ¬ (false = true) by decide)] at H; exact H
                clear H; have H := H1; clear H1
                by_cases dp : av.length < 17592186044416
                ·rw [if_pos dp] at H
                 have dY := zK dp; clear dp
                 obtain ⟨cd, b5⟩ : ∃ y_ : List Int, y_ = (av ++ [bd]) := ⟨_, rfl⟩
                 replace H : (spec_l05Loop.l4 k4 az (wrap64 (bd + 1)) am bS bT ah ap ad aq az cd) = some (r1, r2, r3, r4, r5, r6) := by first | (rw [b5]; with_reducible exact H) | (have H2_ := (Option.bind_some _ _).symm.trans H; rw [b5]; with_reducible exact H2_) | (have H2_ := (Option.bind_some _ _).symm.trans H; with_reducible exact H2_) | with_reducible exact H | (rw [b5]; exact H) | exact H
                 have Ny162 := zK b5; clear b5; have H' := zK H; clear H; have hnb114 := a5.out; have hnc114 := aI.out; have hnb115 := ba.out; have hnc115 := bj.out; have hnb116 := aR.out; have hnc116 := ae.out
                 have eC : wr.cell? ⟨ai, 0, none⟩ = some (u128000) := (blk_cell ab.out 0).trans rfl
                 have eD : wr.cell? ⟨ai, 1, none⟩ = some (.int .i64 ap) := (blk_cell ab.out 1).trans rfl
                 have eE : wr.cell? ⟨ai, 2, none⟩ = some (u128002) := (blk_cell ab.out 2).trans rfl
                 have eF : wr.cell? ⟨ai, 3, none⟩ = some (u128003) := (blk_cell ab.out 3).trans rfl
                 have eG := blk_frozen ab.out 0; have eH := blk_frozen ab.out 1; have eI := blk_frozen ab.out 2; have eJ := blk_frozen ab.out 3
                 obtain ⟨dC, dD, eK⟩ := Kd.S_slice ac.out
                 subst eK
                 go_wp2_with (first | ((with_reducible refine gate_callee (f := 88) rfl ?_); refine goesL_ (some 114) rfl rfl Try.func88 (by kernel_rfl) rfl #[.pointer (some ⟨g, 0, none⟩), .int .i64 3] rfl zg ?_; (with_reducible refine (spec_l01Once.calls g am aK aM 3 false bS bT w0 _ ?side1 ?side2 eo.out).mono ?_); (case side1 => exact zi12 HI0); (case side2 => exact zj12 HB); rintro e eL ⟨rfl, hi, hb, hk⟩; refine ⟨_, rfl, ?_⟩; have aX := zK (Kd.R_mono (Kd.R_keep (IsS90.apart (show IsS90 w0 _ g am aK aM from zi12 HI0) (zR aa) (by decide)) hk (fun _ h => h.2)) (fun _ h => h.1)); have aY := zK (Kd.S_mono (Kd.S_keep (IsS90.apartS (show IsS90 w0 _ g am aK aM from zi12 HI0) (zT ac) (by decide)) hk (fun _ h => h.2)) (fun _ h => h.1)); have aZ := zK (Kd.S_mono (Kd.S_keep (IsS90.apartS (show IsS90 w0 _ g am aK aM from zi12 HI0) (zT ak) (by decide)) hk (fun _ h => h.2)) (fun _ h => h.1)); have a0 := zK (Kd.R_mono (Kd.R_keep (IsS90.apart (show IsS90 w0 _ g am aK aM from zi12 HI0) (zR ar) (by decide)) hk (fun _ h => h.2)) (fun _ h => h.1)); have a3 := zK (KeepBut.blk hk (g' := ao) (o := .cells #[.slice none 0 0, .int .i64 0, .slice none 0 0, .slice none 0 0] 28 (0, 0)) (zk af) a6.out (by simp)); have a4 := zK (KeepBut.blk hk (g' := ai) (o := .cells #[u128000, .int .i64 ap, .slice dC ad.length dD, u128003] 28 (0, 0)) (zk ab) aR.out (by simp)); have bb := zK (KeepBut.blk hk (g' := aG) (o := .cells #[.int .i64 az, u159001] 74 (0, 0)) (zk aA) bm.out (by simp)); have bf := zK (KeepBut.trans (by repeat (first | (with_reducible first | exact HK.out | apply KeepBut.set_ | apply keep_drewN | apply keep_drew | apply keep_alloc | refine keep_far ?_ au.out _ | refine keep_far ?_ ay.out _ | refine keep_far ?_ bi.out _) | exact HK.out)) hk (.inl rfl)); have bh := zK (hb); have br := zK (hi); clear aa; clear ac; clear ak; clear ar; clear af; clear ab; clear aA; clear HK; clear HB; clear HI0; have aa := aX; have ac := aY; have ak := aZ; have ar := a0; have af := a3; have ab := a4; have aA := bb; have HK := bf; have HB := bh; have HI0 := br; clear aX aY aZ a0 a3 a4 bb bf bh br; (try clear hb); (try clear hk); (try clear hi); have hnb120 := bx.out; have hnc120 := bg.out; have hnb121 := bm.out; have hnc121 := aw.out; have eM : eL.cell? ⟨aG, 0, none⟩ = some (.int .i64 az) := (blk_cell aA.out 0).trans rfl; have eN : eL.cell? ⟨aG, 1, none⟩ = some (u159001) := (blk_cell aA.out 1).trans rfl; have eO := blk_frozen aA.out 0; have eP := blk_frozen aA.out 1) | ((with_reducible refine gate_builtin (b := .append) (xs := #[.tmp 117, .tmp 119]) rfl ?_); at_builtin; refine Kd.R_append (Kd.int .i64) w.heap.size rfl (.tmp 117) (.tmp 119) 24 3 (.int .i64 0) 8 rfl Try.underlying24 info3 rfl (by decide) (by omega) u159001 av bd [.int .i64 bd] (fun k_ => some k_ ≠ (u128000 : Value).ownBlock) (fun _ => False) rfl rfl ?aP (fun _ hk => hk.elim) ?aF ?aO (Below.refl _ _) ?aS ?aL ?_; (case aP => exact rfl); (case aF => exact (fun k_ hk => Kd.fresh' (Kd.R_lt (zR aa)) k_ hk)); (case aO => exact (zR ar)); (case aS => exact (keep_size (w := w) (g := g) (row := none) (zc12 HK))); (case aL => have := dY.out; omega); intro v163 eQ ho hb hg hat; rw [← Ny162.out] at ho; have aX := zK (Kd.R_after (ok := (fun _ => True)) (by (with_reducible repeat (first | apply Kd.R_alloc | apply Kd.R_drewN | apply Kd.R_drew)); exact Kd.R_mono aa.out (fun _ hk => ⟨trivial, hk⟩)) hg hat); have aY := zK (Kd.S_after (ok := (fun k_ => some k_ ≠ (u128000 : Value).ownBlock)) (zT ac) hg hat); have aZ := zK (Kd.S_after (ok := (fun k_ => some k_ ≠ (u128000 : Value).ownBlock ∧ k_ ≠ aG)) (by (with_reducible repeat (first | apply Kd.S_alloc | apply Kd.S_drewN | apply Kd.S_drew)); exact Kd.S_mono ak.out (fun _ hk => ⟨⟨hk.1, hk.2.2⟩, hk.2.1⟩)) hg hat); have a0 := zK (blk_grown (g := ao) (o := .cells #[.slice none 0 0, .int .i64 0, .slice none 0 0, .slice none 0 0] 28 (0, 0)) (zk af) hg (Kd.R_ne ar.out af.out (by decide))); have a3 := zK (blk_grown (g := ai) (o := .cells #[u128000, .int .i64 ap, .slice dC ad.length dD, u128003] 28 (0, 0)) (zk ab) hg (Kd.R_ne ar.out ab.out (by decide))); have a4 := zK (blk_grown (g := aG) (o := .cells #[.int .i64 az, u159001] 74 (0, 0)) (zk aA) hg (Kd.R_ne ar.out aA.out (by decide))); have bb := zK (IsS90.grown (zi12 HI0) hg (IsS90.own_ne HI0.out ar.out (by decide))); have bf := zK (below_weaken (zj12 HB) HL.out hb); have bh := zK (KeepBut.trans (by repeat (first | (with_reducible first | exact HK.out | apply KeepBut.set_ | apply keep_drewN | apply keep_drew | apply keep_alloc | refine keep_far ?_ au.out _ | refine keep_far ?_ ay.out _ | refine keep_far ?_ bi.out _) | exact HK.out)) (KeepBut.of_grown hg g) (Kd.R_base2 ar.out)); have br := zK (ho); clear aa; clear ac; clear ak; clear af; clear ab; clear aA; clear HI0; clear HB; clear HK; clear ar; have aa := aX; have ac := aY; have ak := aZ; have af := a0; have ab := a3; have aA := a4; have HI0 := bb; have HB := bf; have HK := bh; have dE := br; clear aX aY aZ a0 a3 a4 bb bf bh br; clear ho hb hg hat; obtain ⟨b6, b7, eR⟩ := Kd.R_slice dE.out; subst eR; have eS : eQ.cell? ⟨aG, 0, none⟩ = some (.int .i64 az) := (blk_cell aA.out 0).trans rfl; have eT : eQ.cell? ⟨aG, 1, none⟩ = some (u159001) := (blk_cell aA.out 1).trans rfl; have eU := blk_frozen aA.out 0; have eV := blk_frozen aA.out 1))
                 go_roundg k4
                 case measure => have := bJ.out; have := bL.out; have := dy.out; have := dA.out; omega
                 case rel => exact ⟨(wrap64 (bd + 1)), (bS), (bT), (cd), (.slice b6 cd.length b7), zf, H', ⟨by have := bJ.out; have := bL.out; have := dy.out; have := dA.out; omega⟩, ⟨by (with_reducible repeat (first | apply Kd.R_alloc | apply Kd.R_drewN | apply Kd.R_drew)); exact Kd.R_mono (Kd.R_far (p := ⟨aG, 1, none⟩) (Kd.R_types aa.out aA.out (by decide)) (fun _ hk => hk.2) (.slice b6 cd.length b7)) (fun _ hk => hk.1.2)⟩, ⟨by (with_reducible repeat (first | apply Kd.S_alloc | apply Kd.S_drewN | apply Kd.S_drew)); exact Kd.S_mono (Kd.S_far (p := ⟨aG, 1, none⟩) (Kd.S_types ac.out aA.out (by decide)) (fun _ hk => hk.2) (.slice b6 cd.length b7)) (fun _ hk => ⟨hk.1.1, hk.1.2⟩)⟩, ⟨by (with_reducible repeat (first | apply Kd.S_alloc | apply Kd.S_drewN | apply Kd.S_drew)); exact Kd.S_mono (Kd.S_far (p := ⟨aG, 1, none⟩) (Kd.S_mono ak.out (fun k_ hk => (⟨hk, hk.1.2⟩ : _ ∧ k_ ≠ aG))) (fun _ hk => hk.2) (.slice b6 cd.length b7)) (fun _ hk => ⟨hk.1.1.1, ⟨hk.1.2, hk.1.1.2⟩⟩)⟩, ⟨by (with_reducible repeat (first | apply Kd.R_alloc | apply Kd.R_drewN | apply Kd.R_drew)); exact Kd.R_mono (Kd.R_far (p := ⟨aG, 1, none⟩) (Kd.R_types dE.out aA.out (by decide)) (fun _ hk => hk.2) (.slice b6 cd.length b7)) (fun _ hk => hk.1)⟩, ⟨zh af bg⟩, ⟨zh ab ba⟩, ⟨by (with_reducible repeat (first | refine zN ?_ _ | refine zD ?_ | refine zA ?_ _)); refine blk_put (cs := #[.int .i64 az, u159001]) ?_ 1 _ rfl; (with_reducible repeat (first | refine zN ?_ _ | refine zD ?_ | refine zA ?_ _)); exact aA.out⟩, ⟨zi12 HI0⟩, ⟨zc12 HK⟩, ⟨zj12 HB⟩⟩
                ·rw [if_neg dp] at H
                 exact absurd H (by simp)
              ·rw [if_neg cv] at H
               have dX : decide (bd < (ad.length : Int)) = false := decide_eq_false cv
               clear cv; replace H := Option.bind_eq_some_iff.mp H
               obtain ⟨⟨eW, bU, bV⟩, dF, H⟩ := H
               replace H : (if eW = true then (spec_l05Loop.l3 k4 (wrap64 (az + 1)) am bU bV ah ap ad aq) else (if aq.length < 4398046511104 then (spec_l05Loop.l3 k4 (wrap64 (az + 1)) am bU bV ah ap ad (aq ++ [(⟨az, av⟩ : S74)])) else (none))) = some (r1, r2, r3, r4, r5, r6) := H
               have eX := zK dF; clear dF
               by_cases dq : eW = true
               ·subst dq
                have H1 : (spec_l05Loop.l3 k4 (wrap64 (az + 1)) am bU bV ah ap ad aq) = some (r1, r2, r3, r4, r5, r6) := by rw [if_pos rfl] at H; exact H
                clear H; have H := H1; clear H1; have H' := zK H; clear H; have hnb128 := a5.out; have hnc128 := aI.out; have hnb129 := ba.out; have hnc129 := bj.out; have hnb130 := aR.out; have hnc130 := ae.out
                have eY : wr.cell? ⟨ai, 0, none⟩ = some (u128000) := (blk_cell ab.out 0).trans rfl
                have eZ : wr.cell? ⟨ai, 1, none⟩ = some (.int .i64 ap) := (blk_cell ab.out 1).trans rfl
                have e0 : wr.cell? ⟨ai, 2, none⟩ = some (u128002) := (blk_cell ab.out 2).trans rfl
                have e1 : wr.cell? ⟨ai, 3, none⟩ = some (u128003) := (blk_cell ab.out 3).trans rfl
                have e2 := blk_frozen ab.out 0; have e3 := blk_frozen ab.out 1; have e4 := blk_frozen ab.out 2; have e5 := blk_frozen ab.out 3
                obtain ⟨e6, e7, e8⟩ := Kd.S_slice ac.out
                subst e8
                go_wp2_with (first | ((with_reducible refine gate_callee (f := 88) rfl ?_); refine goesL_ (some 123) rfl rfl Try.func88 (by kernel_rfl) rfl #[.pointer (some ⟨g, 0, none⟩), .int .i64 6] rfl zg ?_; (with_reducible refine (spec_l01Once.calls g am aK aM 6 true bU bV w0 _ ?side1 ?side2 eX.out).mono ?_); (case side1 => exact zi12 HI0); (case side2 => exact zj12 HB); rintro e w133 ⟨rfl, hi, hb, hk⟩; refine ⟨_, rfl, ?_⟩; have aX := zK (Kd.R_mono (Kd.R_keep (IsS90.apart (show IsS90 w0 _ g am aK aM from zi12 HI0) (zR aa) (by decide)) hk (fun _ h => h.2)) (fun _ h => h.1)); have aY := zK (Kd.S_mono (Kd.S_keep (IsS90.apartS (show IsS90 w0 _ g am aK aM from zi12 HI0) (zT ac) (by decide)) hk (fun _ h => h.2)) (fun _ h => h.1)); have aZ := zK (Kd.S_mono (Kd.S_keep (IsS90.apartS (show IsS90 w0 _ g am aK aM from zi12 HI0) (zT ak) (by decide)) hk (fun _ h => h.2)) (fun _ h => h.1)); have a0 := zK (Kd.R_mono (Kd.R_keep (IsS90.apart (show IsS90 w0 _ g am aK aM from zi12 HI0) (zR ar) (by decide)) hk (fun _ h => h.2)) (fun _ h => h.1)); have a3 := zK (KeepBut.blk hk (g' := ao) (o := .cells #[.slice none 0 0, .int .i64 0, .slice none 0 0, .slice none 0 0] 28 (0, 0)) (zk af) a6.out (by simp)); have a4 := zK (KeepBut.blk hk (g' := ai) (o := .cells #[u128000, .int .i64 ap, .slice e6 ad.length e7, u128003] 28 (0, 0)) (zk ab) aR.out (by simp)); have bb := zK (KeepBut.blk hk (g' := aG) (o := .cells #[.int .i64 az, u159001] 74 (0, 0)) (zk aA) bm.out (by simp)); have bf := zK (KeepBut.trans (by repeat (first | (with_reducible first | exact HK.out | apply KeepBut.set_ | apply keep_drewN | apply keep_drew | apply keep_alloc | refine keep_far ?_ au.out _ | refine keep_far ?_ ay.out _ | refine keep_far ?_ bi.out _) | exact HK.out)) hk (.inl rfl)); have bh := zK (hb); have br := zK (hi); clear aa; clear ac; clear ak; clear ar; clear af; clear ab; clear aA; clear HK; clear HB; clear HI0; have aa := aX; have ac := aY; have ak := aZ; have ar := a0; have af := a3; have ab := a4; have aA := bb; have HK := bf; have HB := bh; have HI0 := br; clear aX aY aZ a0 a3 a4 bb bf bh br; (try clear hb); (try clear hk); (try clear hi)))
                go_roundg k4
                case measure => have := bJ.out; have := bL.out; have := dy.out; have := dA.out; omega
                case rel => exact ⟨(wrap64 (az + 1)), (bU), (bV), (aq), (u128003), zf, H', ⟨by have := bJ.out; have := bL.out; have := dy.out; have := dA.out; omega⟩, ⟨by (with_reducible repeat (first | apply Kd.R_alloc | apply Kd.R_drewN | apply Kd.R_drew)); exact Kd.R_mono aa.out (fun _ hk => trivial)⟩, ⟨by (with_reducible repeat (first | apply Kd.S_alloc | apply Kd.S_drewN | apply Kd.S_drew)); exact Kd.S_mono ac.out (fun _ hk => hk.1)⟩, ⟨by (with_reducible repeat (first | apply Kd.S_alloc | apply Kd.S_drewN | apply Kd.S_drew)); exact Kd.S_mono ak.out (fun _ hk => hk.1)⟩, ⟨zk af⟩, ⟨zk ab⟩, ⟨zi12 HI0⟩, ⟨zc12 HK⟩, ⟨zj12 HB⟩⟩
               ·replace dq := Bool.eq_false_iff.mpr dq
                subst dq
                have H1 : (if aq.length < 4398046511104 then (spec_l05Loop.l3 k4 (wrap64 (az + 1)) am bU bV ah ap ad (aq ++ [(⟨az, av⟩ : S74)])) else (none)) = some (r1, r2, r3, r4, r5, r6) := by rw [if_neg (show ¬ (false = true) by decide)] at H; exact H
                clear H; have H := H1; clear H1
                by_cases dr : aq.length < 4398046511104
                ·rw [if_pos dr] at H
                 have dZ := zK dr; clear dr
                 obtain ⟨cw, b8⟩ : ∃ y_ : List (S74), y_ = (aq ++ [(⟨az, av⟩ : S74)]) := ⟨_, rfl⟩
                 replace H : (spec_l05Loop.l3 k4 (wrap64 (az + 1)) am bU bV ah ap ad cw) = some (r1, r2, r3, r4, r5, r6) := by first | (rw [b8]; with_reducible exact H) | (have H2_ := (Option.bind_some _ _).symm.trans H; rw [b8]; with_reducible exact H2_) | (have H2_ := (Option.bind_some _ _).symm.trans H; with_reducible exact H2_) | with_reducible exact H | (rw [b8]; exact H) | exact H
                 have Ny168 := zK b8; clear b8; have H' := zK H; clear H; have hnb135 := a5.out; have hnc135 := aI.out; have hnb136 := ba.out; have hnc136 := bj.out; have hnb137 := aR.out; have hnc137 := ae.out
                 have e9 : wr.cell? ⟨ai, 0, none⟩ = some (u128000) := (blk_cell ab.out 0).trans rfl
                 have fa : wr.cell? ⟨ai, 1, none⟩ = some (.int .i64 ap) := (blk_cell ab.out 1).trans rfl
                 have fb : wr.cell? ⟨ai, 2, none⟩ = some (u128002) := (blk_cell ab.out 2).trans rfl
                 have fc : wr.cell? ⟨ai, 3, none⟩ = some (u128003) := (blk_cell ab.out 3).trans rfl
                 have fd := blk_frozen ab.out 0; have fe := blk_frozen ab.out 1; have fg := blk_frozen ab.out 2; have fh := blk_frozen ab.out 3
                 obtain ⟨b9, ca, fi⟩ := Kd.S_slice ac.out
                 subst fi
                 go_wp2_with (first | ((with_reducible refine gate_callee (f := 88) rfl ?_); refine goesL_ (some 123) rfl rfl Try.func88 (by kernel_rfl) rfl #[.pointer (some ⟨g, 0, none⟩), .int .i64 6] rfl zg ?_; (with_reducible refine (spec_l01Once.calls g am aK aM 6 false bU bV w0 _ ?side1 ?side2 eX.out).mono ?_); (case side1 => exact zi12 HI0); (case side2 => exact zj12 HB); rintro e cx ⟨rfl, hi, hb, hk⟩; refine ⟨_, rfl, ?_⟩; have aX := zK (Kd.R_mono (Kd.R_keep (IsS90.apart (show IsS90 w0 _ g am aK aM from zi12 HI0) (zR aa) (by decide)) hk (fun _ h => h.2)) (fun _ h => h.1)); have aY := zK (Kd.S_mono (Kd.S_keep (IsS90.apartS (show IsS90 w0 _ g am aK aM from zi12 HI0) (zT ac) (by decide)) hk (fun _ h => h.2)) (fun _ h => h.1)); have aZ := zK (Kd.S_mono (Kd.S_keep (IsS90.apartS (show IsS90 w0 _ g am aK aM from zi12 HI0) (zT ak) (by decide)) hk (fun _ h => h.2)) (fun _ h => h.1)); have a0 := zK (Kd.R_mono (Kd.R_keep (IsS90.apart (show IsS90 w0 _ g am aK aM from zi12 HI0) (zR ar) (by decide)) hk (fun _ h => h.2)) (fun _ h => h.1)); have a3 := zK (KeepBut.blk hk (g' := ao) (o := .cells #[.slice none 0 0, .int .i64 0, .slice none 0 0, .slice none 0 0] 28 (0, 0)) (zk af) a6.out (by simp)); have a4 := zK (KeepBut.blk hk (g' := ai) (o := .cells #[u128000, .int .i64 ap, .slice b9 ad.length ca, u128003] 28 (0, 0)) (zk ab) aR.out (by simp)); have bb := zK (KeepBut.blk hk (g' := aG) (o := .cells #[.int .i64 az, u159001] 74 (0, 0)) (zk aA) bm.out (by simp)); have bf := zK (KeepBut.trans (by repeat (first | (with_reducible first | exact HK.out | apply KeepBut.set_ | apply keep_drewN | apply keep_drew | apply keep_alloc | refine keep_far ?_ au.out _ | refine keep_far ?_ ay.out _ | refine keep_far ?_ bi.out _) | exact HK.out)) hk (.inl rfl)); have bh := zK (hb); have br := zK (hi); clear aa; clear ac; clear ak; clear ar; clear af; clear ab; clear aA; clear HK; clear HB; clear HI0; have aa := aX; have ac := aY; have ak := aZ; have ar := a0; have af := a3; have ab := a4; have aA := bb; have HK := bf; have HB := bh; have HI0 := br; clear aX aY aZ a0 a3 a4 bb bf bh br; (try clear hb); (try clear hk); (try clear hi); have fj : cx.cell? ⟨ai, 0, none⟩ = some (u128000) := (blk_cell ab.out 0).trans rfl; have fk : cx.cell? ⟨ai, 1, none⟩ = some (.int .i64 ap) := (blk_cell ab.out 1).trans rfl; have fl : cx.cell? ⟨ai, 2, none⟩ = some (.slice b9 ad.length ca) := (blk_cell ab.out 2).trans rfl; have fm : cx.cell? ⟨ai, 3, none⟩ = some (u128003) := (blk_cell ab.out 3).trans rfl; have fn := blk_frozen ab.out 0; have fo := blk_frozen ab.out 1; have fp := blk_frozen ab.out 2; have fq := blk_frozen ab.out 3; have hnb142 := bx.out; have hnc142 := bg.out; have hnb143 := bm.out; have hnc143 := aw.out; have fr : cx.cell? ⟨aG, 0, none⟩ = some (.int .i64 az) := (blk_cell aA.out 0).trans rfl; have fs : cx.cell? ⟨aG, 1, none⟩ = some (u159001) := (blk_cell aA.out 1).trans rfl; have ft := blk_frozen aA.out 0; have fu := blk_frozen aA.out 1; obtain ⟨ci, cj, fv⟩ := Kd.R_slice ar.out; subst fv) | ((with_reducible refine gate_builtin (b := .append) (xs := #[.tmp 126, .tmp 128]) rfl ?_); at_builtin; refine Kd.S_append k74 w.heap.size rfl (.tmp 126) (.tmp 128) 26 74 (.agg #[(.int .i64 0), (.slice none 0 0)]) 32 rfl Try.underlying26 info74 rfl (by decide) (by omega) u128003 aq (⟨az, av⟩ : S74) [.int .i64 az, .slice ci av.length cj] (fun k_ => some k_ ≠ (u128000 : Value).ownBlock ∧ k_ ≠ aG) (fun k_ => some k_ = (.slice ci av.length cj : Value).ownBlock) rfl rfl ?aP (fun k_ hk_ => ((Kd.R_mono (ok' := fun k_ => ((fun k_ => some k_ ≠ (u128000 : Value).ownBlock ∧ k_ ≠ aG)) k_ ∧ some k_ ≠ (u128003 : Value).ownBlock) (Kd.R_types (Kd.R_apart' (ar.out) (Kd.S_typed ak.out) (by decide)) aA.out (by decide)) (fun k_ hk => ⟨⟨hk.1.1, hk.2⟩, hk.1.2⟩))).1 k_ hk_.symm) ?aF ?aO (Below.refl _ _) ?aS ?aL ?_; (case aP => exact k74_mkM _ _ _ (⟨az, av⟩ : S74) (Kd.R_mono (Kd.R_tight rfl (Kd.R_mono (ok' := fun k_ => ((fun k_ => some k_ ≠ (u128000 : Value).ownBlock ∧ k_ ≠ aG)) k_ ∧ some k_ ≠ (u128003 : Value).ownBlock) (Kd.R_types (Kd.R_apart' (ar.out) (Kd.S_typed ak.out) (by decide)) aA.out (by decide)) (fun k_ hk => ⟨⟨hk.1.1, hk.2⟩, hk.1.2⟩))) (fun _ h_ => h_))); (case aF => exact (fun k_ hk => ⟨Kd.fresh' (Kd.R_lt (zR aa)) k_ hk, Kd.freshB (g := aG) (o := .cells #[.int .i64 az, .slice ci av.length cj] 74 (0, 0)) (zk aA) k_ hk⟩)); (case aO => exact (by (with_reducible repeat (first | apply Kd.S_alloc | apply Kd.S_drewN | apply Kd.S_drew)); exact Kd.S_mono ak.out (fun k_ hk => ⟨⟨hk.1, hk.2.2⟩, fun e_ => hk.2.1 e_⟩))); (case aS => exact (keep_size (w := w) (g := g) (row := none) (zc12 HK))); (case aL => have := dZ.out; omega); intro v169 dt ho hb hg hat; rw [← Ny168.out] at ho; have aX := zK (Kd.R_over' (zR aa) (Kd.S_typed (zT ak)) (by decide) hg); have aY := zK (Kd.S_over' (zT ac) (Kd.S_typed (zT ak)) (by decide) hg); have aZ := zK (blk_grown (g := ao) (o := .cells #[.slice none 0 0, .int .i64 0, .slice none 0 0, .slice none 0 0] 28 (0, 0)) (zk af) hg (Kd.S_ne ak.out af.out (by decide))); have a0 := zK (blk_grown (g := ai) (o := .cells #[u128000, .int .i64 ap, .slice b9 ad.length ca, u128003] 28 (0, 0)) (zk ab) hg (Kd.S_ne ak.out ab.out (by decide))); have a3 := zK (blk_grown (g := aG) (o := .cells #[.int .i64 az, .slice ci av.length cj] 74 (0, 0)) (zk aA) hg (Kd.S_away ak.out (fun _ hk => hk.2.2))); have a4 := zK (IsS90.grown (zi12 HI0) hg (IsS90.own_neS HI0.out ak.out (by decide))); have bb := zK (below_weaken (zj12 HB) HL.out hb); have bf := zK (KeepBut.trans (by repeat (first | (with_reducible first | exact HK.out | apply KeepBut.set_ | apply keep_drewN | apply keep_drew | apply keep_alloc | refine keep_far ?_ au.out _ | refine keep_far ?_ ay.out _ | refine keep_far ?_ bi.out _) | exact HK.out)) (KeepBut.of_grown hg g) (Kd.S_base2 ak.out)); have bh := zK (ho); clear aa; clear ac; clear af; clear ab; clear aA; clear HI0; clear HB; clear HK; clear ak; clear ar; have aa := aX; have ac := aY; have af := aZ; have ab := a0; have aA := a3; have HI0 := a4; have HB := bb; have HK := bf; have dG := bh; clear aX aY aZ a0 a3 a4 bb bf bh; clear ho hb hg hat; obtain ⟨ck, cl, fw⟩ := Kd.S_slice dG.out; subst fw; have fx : dt.cell? ⟨ai, 0, none⟩ = some (u128000) := (blk_cell ab.out 0).trans rfl; have fy : dt.cell? ⟨ai, 1, none⟩ = some (.int .i64 ap) := (blk_cell ab.out 1).trans rfl; have fz : dt.cell? ⟨ai, 2, none⟩ = some (.slice b9 ad.length ca) := (blk_cell ab.out 2).trans rfl; have fA : dt.cell? ⟨ai, 3, none⟩ = some (u128003) := (blk_cell ab.out 3).trans rfl; have fB := blk_frozen ab.out 0; have fC := blk_frozen ab.out 1; have fD := blk_frozen ab.out 2; have fE := blk_frozen ab.out 3))
                 go_roundg k4
                 case measure => have := bJ.out; have := bL.out; have := dy.out; have := dA.out; omega
                 case rel => exact ⟨(wrap64 (az + 1)), (bU), (bV), (cw), (.slice ck cw.length cl), zf, H', ⟨by have := bJ.out; have := bL.out; have := dy.out; have := dA.out; omega⟩, ⟨by (with_reducible repeat (first | apply Kd.R_alloc | apply Kd.R_drewN | apply Kd.R_drew)); exact Kd.R_mono (Kd.R_far (p := ⟨ai, 3, none⟩) (Kd.R_types aa.out ab.out (by decide)) (fun _ hk => hk.2) (.slice ck cw.length cl)) (fun _ hk => trivial)⟩, ⟨by (with_reducible repeat (first | apply Kd.S_alloc | apply Kd.S_drewN | apply Kd.S_drew)); exact Kd.S_mono (Kd.S_far (p := ⟨ai, 3, none⟩) (Kd.S_types ac.out ab.out (by decide)) (fun _ hk => hk.2) (.slice ck cw.length cl)) (fun _ hk => hk.1.1)⟩, ⟨by (with_reducible repeat (first | apply Kd.S_alloc | apply Kd.S_drewN | apply Kd.S_drew)); exact Kd.S_mono (Kd.S_far (p := ⟨ai, 3, none⟩) (Kd.S_types dG.out ab.out (by decide)) (fun _ hk => hk.2) (.slice ck cw.length cl)) (fun _ hk => hk.1.1)⟩, ⟨zh af aI⟩, ⟨by (with_reducible repeat (first | refine zN ?_ _ | refine zD ?_ | refine zA ?_ _)); refine blk_put (cs := #[u128000, .int .i64 ap, .slice b9 ad.length ca, u128003]) ?_ 3 _ rfl; (with_reducible repeat (first | refine zN ?_ _ | refine zD ?_ | refine zA ?_ _)); exact ab.out⟩, ⟨zi12 HI0⟩, ⟨zc12 HK⟩, ⟨zj12 HB⟩⟩
                ·rw [if_neg dr] at H
                 exact absurd H (by simp)
           ·rw [if_neg d5] at H
            have dz : decide (az < 8) = false := decide_eq_false d5
            clear d5
            simp only [Option.some.injEq, Prod.mk.injEq] at H
            obtain ⟨rfl, rfl, rfl, rfl, rfl, rfl⟩ := H
            have hnb149 := a5.out; have hnc149 := aI.out; have hnb150 := aR.out; have hnc150 := ae.out
            have fF : wr.cell? ⟨ai, 0, none⟩ = some (u128000) := (blk_cell ab.out 0).trans rfl
            have fG : wr.cell? ⟨ai, 1, none⟩ = some (.int .i64 ap) := (blk_cell ab.out 1).trans rfl
            have fH : wr.cell? ⟨ai, 2, none⟩ = some (u128002) := (blk_cell ab.out 2).trans rfl
            have fI : wr.cell? ⟨ai, 3, none⟩ = some (u128003) := (blk_cell ab.out 3).trans rfl
            have fJ := blk_frozen ab.out 0; have fK := blk_frozen ab.out 1; have fL := blk_frozen ab.out 2; have fM := blk_frozen ab.out 3
            obtain ⟨bH, bI, fN⟩ := Kd.R_slice aa.out
            subst fN; have hnb153 := a6.out; have hnc153 := ag.out
            have fO : wr.cell? ⟨ao, 0, none⟩ = some (.slice none 0 0) := (blk_cell af.out 0).trans rfl
            have fP : wr.cell? ⟨ao, 1, none⟩ = some (.int .i64 0) := (blk_cell af.out 1).trans rfl
            have fQ : wr.cell? ⟨ao, 2, none⟩ = some (.slice none 0 0) := (blk_cell af.out 2).trans rfl
            have fR : wr.cell? ⟨ao, 3, none⟩ = some (.slice none 0 0) := (blk_cell af.out 3).trans rfl
            have fS := blk_frozen af.out 0; have fT := blk_frozen af.out 1; have fU := blk_frozen af.out 2; have fV := blk_frozen af.out 3
            obtain ⟨cb, cc, fW⟩ := Kd.S_slice ac.out
            subst fW
            obtain ⟨cm, cn, fX⟩ := Kd.S_slice ak.out
            subst fX
            go_wp2
            refine bodyPost_ret (results_cell_row rfl _ _ ao 28 #[.slice bH ah.length bI, .int .i64 ap, .slice cb ad.length cc, .slice cm aq.length cn] (0, 0) _ rfl (by (with_reducible repeat (first | refine zN ?_ _ | refine zD ?_ | refine zA ?_ _)); refine blk_put (cs := #[.slice bH ah.length bI, .int .i64 ap, .slice cb ad.length cc, .slice none 0 0]) ?_ 3 _ rfl; (with_reducible repeat (first | refine zN ?_ _ | refine zD ?_ | refine zA ?_ _)); refine blk_put (cs := #[.slice bH ah.length bI, .int .i64 ap, .slice none 0 0, .slice none 0 0]) ?_ 2 _ rfl; (with_reducible repeat (first | refine zN ?_ _ | refine zD ?_ | refine zA ?_ _)); refine blk_put (cs := #[.slice bH ah.length bI, .int .i64 0, .slice none 0 0, .slice none 0 0]) ?_ 1 _ rfl; (with_reducible repeat (first | refine zN ?_ _ | refine zD ?_ | refine zA ?_ _)); refine blk_put (cs := #[.slice none 0 0, .int .i64 0, .slice none 0 0, .slice none 0 0]) ?_ 0 _ rfl; (with_reducible repeat (first | refine zN ?_ _ | refine zD ?_ | refine zA ?_ _)); exact af.out) Try.underlying28 rfl (by kernel_rfl)) rfl ?_
            exact ⟨_, _, _, by first | rfl | (simp [errW_none, errW_some] <;> rfl) | (simp only [← cz, ← bC]; first | rfl | (simp [errW_none, errW_some] <;> rfl)) | (simp [*, errW_none, errW_some] <;> rfl), by (with_reducible repeat (first | apply Kd.R_alloc | apply Kd.R_drewN | apply Kd.R_drew)); exact Kd.R_mono (Kd.R_far (p := ⟨ao, 3, none⟩) (Kd.R_far (p := ⟨ao, 2, none⟩) (Kd.R_far (p := ⟨ao, 1, none⟩) (Kd.R_far (p := ⟨ao, 0, none⟩) (Kd.R_types aa.out af.out (by decide)) (fun _ hk => hk.2) (.slice bH ah.length bI)) (fun _ hk => hk.2) (.int .i64 ap)) (fun _ hk => hk.2) (.slice cb ad.length cc)) (fun _ hk => hk.2) (.slice cm aq.length cn)) (fun _ hk => trivial), by (with_reducible repeat (first | apply Kd.S_alloc | apply Kd.S_drewN | apply Kd.S_drew)); exact Kd.S_mono (Kd.S_far (p := ⟨ao, 3, none⟩) (Kd.S_far (p := ⟨ao, 2, none⟩) (Kd.S_far (p := ⟨ao, 1, none⟩) (Kd.S_far (p := ⟨ao, 0, none⟩) (Kd.S_types ac.out af.out (by decide)) (fun _ hk => hk.2) (.slice bH ah.length bI)) (fun _ hk => hk.2) (.int .i64 ap)) (fun _ hk => hk.2) (.slice cb ad.length cc)) (fun _ hk => hk.2) (.slice cm aq.length cn)) (fun _ hk => hk.1), by (with_reducible repeat (first | apply Kd.S_alloc | apply Kd.S_drewN | apply Kd.S_drew)); exact Kd.S_mono (Kd.S_far (p := ⟨ao, 3, none⟩) (Kd.S_far (p := ⟨ao, 2, none⟩) (Kd.S_far (p := ⟨ao, 1, none⟩) (Kd.S_far (p := ⟨ao, 0, none⟩) (Kd.S_types ak.out af.out (by decide)) (fun _ hk => hk.2) (.slice bH ah.length bI)) (fun _ hk => hk.2) (.int .i64 ap)) (fun _ hk => hk.2) (.slice cb ad.length cc)) (fun _ hk => hk.2) (.slice cm aq.length cn)) (fun _ hk => hk.1), zi12 HI0, zj12 HB, zc12 HK⟩
  ·rw [if_neg c5] at H
   exact absurd H (by simp)
 ·rw [if_neg c4] at H
  exact absurd H (by simp)
end Go.Proofs.Ytmjhbdmicejppaa.Px
