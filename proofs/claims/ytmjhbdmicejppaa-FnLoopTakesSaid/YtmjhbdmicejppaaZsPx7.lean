import Derived.Test.YtmjhbdmicejppaaZsPx0
import Derived.Test.YtmjhbdmicejppaaZsPx6
namespace Go.Proofs.Ytmjhbdmicejppaa.Px
open Go.RowKit Go.Proofs.YtmjhbdmicejppaaW.PrintWords Go.Proofs.YtmjhbdmicejppaaW.PrintLast Go.Proofs.YtmjhbdmicejppaaW.PrintMore
attribute [local go_sem] max2_int min2_int max_two min_two max_three min_three max_four min_four   
set_option linter.unusedVariables false
set_option linter.unusedSimpArgs false
mutual
def spec_l05Loop.l0 : Nat → Int → Int → List Int → Int → Int → List Int → Int → Option (List Int × Int × (List (S69)) × (List (S74)) × Int × Int)
 | 0, _, _, _, _, _, _, _ => none
 | k + 1, a, b, c, d, e, f, g => if b > 0 then ((spec_l01Below.f c d e a).bind fun i => (if 0 ≤ i.1 then (if i.1 < (f.length : Int) then (spec_l05Loop.l0 k a (wrap64 (b - 1)) c i.2.1 i.2.2 (f.set (i.1 : Int).toNat b) g) else (none)) else (none))) else ((spec_l01Below.f c d e a).bind fun j => ((spec_l01Below.f c j.2.1 j.2.2 4).bind fun l => (spec_l05Loop.l1 k a j.1 (mn a l.1) c l.2.1 l.2.2 f g ([] : List (S69)))))
def spec_l05Loop.l1 : Nat → Int → Int → Int → List Int → Int → Int → List Int → Int → List (S69) → Option (List Int × Int × (List (S69)) × (List (S74)) × Int × Int)
 | 0, _, _, _, _, _, _, _, _, _ => none
 | k + 1, a, b, c, d, e, f, g, i, j => if c > 0 then (if a = 0 then (none) else ((spec_l01Below.f d e f 4).bind fun l => (if l.1 > 0 then ((spec_l01Once.f d l.2.1 l.2.2 3).bind fun m => (spec_l05Loop.j2 k a b c m.1 d m.2.1 m.2.2 g i j (Int.tmod (wrap64 (b + (wrap64 (c * (wrap64 (1 + (wrap64 (Int.tdiv a 4)))))))) a) l.1)) else (spec_l05Loop.j2 k a b c false d l.2.1 l.2.2 g i j (Int.tmod (wrap64 (b + (wrap64 (c * (wrap64 (1 + (wrap64 (Int.tdiv a 4)))))))) a) l.1)))) else (spec_l05Loop.l3 k 1 d e f g i j ([] : List (S74)))
def spec_l05Loop.j2 : Nat → Int → Int → Int → Bool → List Int → Int → Int → List Int → Int → List (S69) → Int → Int → Option (List Int × Int × (List (S69)) × (List (S74)) × Int × Int)
 | 0, _, _, _, _, _, _, _, _, _, _, _, _ => none
 | k + 1, a, b, c, d, e, f, g, i, j, l, m, n => if d = true then (spec_l05Loop.j3 k a b c e f g i j l m n (([wrap64 (100 + c)] : List Int))) else (spec_l05Loop.j3 k a b c e f g i j l m n ([] : List Int))
def spec_l05Loop.j3 : Nat → Int → Int → Int → List Int → Int → Int → List Int → Int → List (S69) → Int → Int → List Int → Option (List Int × Int × (List (S69)) × (List (S74)) × Int × Int)
 | 0, _, _, _, _, _, _, _, _, _, _, _, _ => none
 | k + 1, a, b, c, d, e, f, g, i, j, l, m, n => spec_l05Loop.l2 k a b c false 0 d e f g i j l m n
def spec_l05Loop.l2 : Nat → Int → Int → Int → Bool → Int → List Int → Int → Int → List Int → Int → List (S69) → Int → Int → List Int → Option (List Int × Int × (List (S69)) × (List (S74)) × Int × Int)
 | 0, _, _, _, _, _, _, _, _, _, _, _, _, _, _ => none
 | k + 1, a, b, c, d, e, f, g, i, j, l, m, n, o, p => if e < (m.length : Int) then (if d = true then (spec_l05Loop.l2 k a b c true (wrap64 (e + 1)) f g i j l m n o p) else (if 0 ≤ e then (spec_l05Loop.l2 k a b c (((rd_T69 m e).f0) == n) (wrap64 (e + 1)) f g i j l m n o p) else (none))) else (if d = true then (spec_l05Loop.l1 k a b (wrap64 (c - 1)) f g i j l m) else (if m.length < 3518437208883 then (spec_l05Loop.l1 k a b (wrap64 (c - 1)) f g i j l (m ++ [(⟨n, o, p⟩ : S69)])) else (none)))
def spec_l05Loop.l3 : Nat → Int → List Int → Int → Int → List Int → Int → List (S69) → List (S74) → Option (List Int × Int × (List (S69)) × (List (S74)) × Int × Int)
 | 0, _, _, _, _, _, _, _, _ => none
 | k + 1, a, b, c, d, e, f, g, i => if a < 8 then (spec_l05Loop.l4 k a 0 b c d e f g i a ([] : List Int)) else (some (e, f, g, i, c, d))
def spec_l05Loop.l4 : Nat → Int → Int → List Int → Int → Int → List Int → Int → List (S69) → List (S74) → Int → List Int → Option (List Int × Int × (List (S69)) × (List (S74)) × Int × Int)
 | 0, _, _, _, _, _, _, _, _, _, _, _ => none
 | k + 1, a, b, c, d, e, f, g, i, j, l, m => if b < (i.length : Int) then ((spec_l01Once.f c d e 3).bind fun n => (if n.1 = true then (spec_l05Loop.l4 k a (wrap64 (b + 1)) c n.2.1 n.2.2 f g i j l m) else (if m.length < 17592186044416 then (spec_l05Loop.l4 k a (wrap64 (b + 1)) c n.2.1 n.2.2 f g i j l (m ++ [b])) else (none)))) else ((spec_l01Once.f c d e 6).bind fun o => (if o.1 = true then (spec_l05Loop.l3 k (wrap64 (a + 1)) c o.2.1 o.2.2 f g i j) else (if j.length < 4398046511104 then (spec_l05Loop.l3 k (wrap64 (a + 1)) c o.2.1 o.2.2 f g i (j ++ [(⟨l, m⟩ : S74)])) else (none))))
end
def spec_l05Loop.f (k : Nat) (s0_0 : List Int) (s0_1 : Int) (s0_2 : Int) : Option (List Int × Int × (List (S69)) × (List (S74)) × Int × Int) := (spec_l01Below.f s0_0 s0_1 s0_2 9).bind fun a => (if 0 ≤ (wrap64 (2 + a.1)) then (if (wrap64 (2 + a.1) : Int).toNat ≤ 35184372088832 then ((some (List.replicate (wrap64 (2 + a.1) : Int).toNat 0 : List Int)).bind fun y290 => ((spec_l01Below.f s0_0 a.2.1 a.2.2 (y290.length : Int)).bind fun b => ((spec_l01Below.f s0_0 b.2.1 b.2.2 7).bind fun c => (spec_l05Loop.l0 k (y290.length : Int) c.1 s0_0 c.2.1 c.2.2 y290 b.1)))) else (none)) else (none))
def spec_l05Loop.T7 : Bool × List (List Nat × List Nat) := (true, [([], []), ([0], [0]), ([], []), ([], []), ([2, 3], [2, 3]), ([], []), ([1, 4, 0, 1, 2, 3, 4, 5], [1, 4]), ([6, 5, 4, 0, 1, 2, 3, 4, 5], [5, 6])])
def spec_l05Loop.B7 : List Nat := [0, 1, 0, 0, 12, 0, 63, 127]
theorem spec_l05Loop.tab7 : rtab .any (opsOf Try.f50 7) = spec_l05Loop.T7 := by kernel_rfl
theorem spec_l05Loop.bits7 : waitsOk spec_l05Loop.T7.2 spec_l05Loop.B7 = true := by kernel_rfl
def spec_l05Loop.T12 : Bool × List (List Nat × List Nat) := (true, [([], []), ([], []), ([], []), ([2], [2]), ([3], [3]), ([1, 4], [1, 4]), ([0, 5], [0, 5]), ([], []), ([6, 7], [6, 7]), ([], []), ([9], [9]), ([8, 10], [8, 10]), ([], []), ([12, 11, 10, 0, 1, 2, 3, 4, 5, 6, 7, 8, 9, 10, 11, 12], [11, 12])])
def spec_l05Loop.B12 : List Nat := [0, 0, 0, 4, 12, 30, 63, 0, 255, 0, 512, 2047, 0, 8191]
theorem spec_l05Loop.tab12 : rtab .any (opsOf Try.f50 12) = spec_l05Loop.T12 := by kernel_rfl
theorem spec_l05Loop.bits12 : waitsOk spec_l05Loop.T12.2 spec_l05Loop.B12 = true := by kernel_rfl
def spec_l05Loop.T19 : Bool × List (List Nat × List Nat) := (true, [([], []), ([0], [0]), ([1], [1]), ([2, 1], [1, 2]), ([1], [1]), ([3, 4, 1], [1, 3, 4]), ([5, 1], [1, 5]), ([6, 1], [1, 6]), ([1], [1]), ([8, 1], [1, 8]), ([7, 9, 1], [1, 7, 9]), ([1, 10], [1, 10]), ([11, 1, 0, 1, 2, 3, 4, 5, 6, 7, 8, 9, 10, 11], [0, 11])])
def spec_l05Loop.B19 : List Nat := [0, 1, 3, 7, 3, 31, 63, 127, 3, 259, 1023, 2047, 4095]
theorem spec_l05Loop.tab19 : rtab .any (opsOf Try.f50 19) = spec_l05Loop.T19 := by kernel_rfl
theorem spec_l05Loop.bits19 : waitsOk spec_l05Loop.T19.2 spec_l05Loop.B19 = true := by kernel_rfl
theorem zc8 {p q : Prop} (h : Aside0 p) (s : p → q := by intro h_; repeat (first | (with_reducible first | exact h_ | apply KeepBut.set_ | apply keep_drewN | apply keep_drew | apply keep_alloc | refine keep_far ?_ (Aside0.out (by assumption)) _) | exact h_)) : q := s h.out
theorem zi8 {p q : Prop} (h : Aside0 p) (s : p → q := by intro h_; repeat (first | (with_reducible first | exact h_ | apply IsS90.alloc | apply IsS90.drewN | apply IsS90.drew | apply IsS90.set_1 | apply IsS90.set_2 | refine IsS90.far ?_ (Aside0.out (by assumption)) _) | exact h_)) : q := s h.out
theorem zj8 {p q : Prop} (h : Aside0 p) (s : p → q := by intro h_; repeat (first | (with_reducible first | exact h_ | apply zB | apply zC | apply zE | refine zS ?_ (Aside0.out (by assumption)) | refine zS ?_ (IsS90.ge (Aside0.out (by assumption)))) | exact h_)) : q := s h.out
set_option maxHeartbeats 8000000 in
set_option maxRecDepth 100000 in
theorem spec_l05Loop.calls (k : Nat) (g : Nat) (am : List Int) (ci : Int) (cj : Int) (r1 : List Int) (r2 : Int) (r3 : List (S69)) (r4 : List (S74)) (r5 : Int) (r6 : Int) (w0 w : World) (hI : IsS90 w0 w g am ci cj) (hB : Below w0.heap.size w0 w) (h : spec_l05Loop.f k am ci cj = some (r1, r2, r3, r4, r5, r6)) :
  Calls Try.prog 50 #[.pointer (some ⟨g, 0, none⟩)] w fun e w' => ∃ v0_ v2_ v3_ : Value, e = .returned (.agg #[v0_, .int .i64 r2, v2_, v3_]) ∧ Kd.R (Kd.int .i64) 3 w' w.heap.size (fun _ => True) v0_ r1 ∧ Kd.S k69 69 w' w.heap.size (fun k_ => some k_ ≠ (v0_ : Value).ownBlock) v2_ r3 ∧ Kd.S k74 74 w' w.heap.size (fun k_ => some k_ ≠ (v0_ : Value).ownBlock) v3_ r4 ∧ IsS90 w0 w' g am r5 r6 ∧ Below w0.heap.size w0 w' ∧ KeepBut w w' g none := by
 have hu28 := Try.underlying28; have hu69 := Try.underlying69; have hu74 := Try.underlying74; have HI0 := zK hI
 have HK := zK (KeepBut.refl w g none)
 have HL := zK hB.size; clear hI; have HW0 := zK hB.size; have HB := zK hB; clear hB
 have H := h; unfold spec_l05Loop.f at H
 clear h; replace H := Option.bind_eq_some_iff.mp H
 obtain ⟨⟨ck, bW, bX⟩, A20, H⟩ := H
 (try dsimp only at H)
 have A2 := zK A20; clear A20
 obtain ⟨cr, dG⟩ : ∃ j_ : Int, (wrap64 (2 + ck)) = j_ := ⟨_, rfl⟩
 replace H : (if 0 ≤ (cr) then (if (cr : Int).toNat ≤ 35184372088832 then ((some (List.replicate (cr : Int).toNat 0 : List Int)).bind fun aj => ((spec_l01Below.f am bW bX (aj.length : Int)).bind fun bt294 => ((spec_l01Below.f am bt294.2.1 bt294.2.2 7).bind fun bt297 => (spec_l05Loop.l0 k (aj.length : Int) bt297.1 am bt297.2.1 bt297.2.2 aj bt294.1)))) else (none)) else (none)) = some (r1, r2, r3, r4, r5, r6) := by rw [dG] at H; exact H
 have hji3w : (IntKind.i64.wrap (2 + ck)) = cr := (i64_w _).trans dG
 by_cases c4 : 0 ≤ (cr)
 ·rw [if_pos c4] at H
  have c4b0 := eq_true c4
  have c4b1 : decide (0 ≤ (cr)) = true := decide_eq_true c4
  clear c4
  by_cases c5 : (cr : Int).toNat ≤ 35184372088832
  ·rw [if_pos c5] at H
   have c5b0 := eq_true c5
   have c5b1 : decide ((cr : Int).toNat ≤ 35184372088832) = true := decide_eq_true c5
   clear c5
   obtain ⟨aj, ct⟩ : ∃ y_ : List Int, y_ = (List.replicate (cr : Int).toNat 0) := ⟨_, rfl⟩
   replace H : ((spec_l01Below.f am bW bX (aj.length : Int)).bind fun bt294 => ((spec_l01Below.f am bt294.2.1 bt294.2.2 7).bind fun bt297 => (spec_l05Loop.l0 k (aj.length : Int) bt297.1 am bt297.2.1 bt297.2.2 aj bt294.1))) = some (r1, r2, r3, r4, r5, r6) := by have H2_ := (Option.bind_some _ _).symm.trans H; rw [ct]; with_reducible exact H2_
   have Ny290 := zK ct; clear ct; replace H := Option.bind_eq_some_iff.mp H
   obtain ⟨⟨ap, cI, cJ⟩, A60, H⟩ := H
   (try dsimp only at H)
   have A6 := zK A60; clear A60; replace H := Option.bind_eq_some_iff.mp H
   obtain ⟨⟨dH, dI, dJ⟩, A70, H⟩ := H
   (try dsimp only at H)
   have A7 := zK A70; clear A70; have H' := zK H; clear H
   go_enter Try.func50, Try.ntmps50
   go_wp2_with (first | ((with_reducible refine gate_dst (N := 2) rfl ?_); refine zX 2 #[.slice none 0 0, .int .i64 0, .slice none 0 0, .slice none 0 0] 28 ?_; intro ao hg w8 hbox hb; replace HB := zK (below_step (zj8 HB) hb); have af := zK (hbox); have au := zK ((by rw [hg]; exact (keep_size (w := w) (g := g) (row := none) (zc8 HK)) : w.heap.size ≤ ao)); have aE := zK ((Nat.le_trans HW0.out (by rw [hg]; exact (keep_size (w := w) (g := g) (row := none) (zc8 HK)) : w.heap.size ≤ ao) : w0.heap.size ≤ ao)); replace HK := zK (KeepBut.trans (by repeat (first | (with_reducible first | exact HK.out | apply KeepBut.set_ | apply keep_drewN | apply keep_drew | apply keep_alloc) | exact HK.out)) (KeepBut.of_below hb g none) (.inl rfl)); have ag := zK ((by rw [hg]; exact Nat.ne_of_lt (IsS90.lt (show IsS90 w0 _ g am ci cj from zi8 HI0)) : g ≠ ao)); have a6 := zK ((by rw [hg]; exact Nat.ne_of_gt (IsS90.lt (show IsS90 w0 _ g am ci cj from zi8 HI0)) : ao ≠ g)); replace HI0 := zK (IsS90.below (zi8 HI0) hb); clear hb hbox hg) | ((with_reducible refine gate_callee (f := 89) rfl ?_); refine goesL_ (some 15) rfl rfl Try.func89 (by kernel_rfl) rfl #[.pointer (some ⟨g, 0, none⟩), .int .i64 9] rfl zg ?_; (with_reducible refine (spec_l01Below.calls g am ci cj 9 ck bW bX w0 _ ?side1 ?side2 A2.out).mono ?_); (case side1 => exact zi8 HI0); (case side2 => exact zj8 HB); rintro e w9 ⟨rfl, hi, hb, hk⟩; refine ⟨_, rfl, ?_⟩; replace af := zK (KeepBut.blk hk (g' := ao) (o := .cells #[.slice none 0 0, .int .i64 0, .slice none 0 0, .slice none 0 0] 28 (0, 0)) (zk af) a6.out (by simp)); replace HK := zK (KeepBut.trans (by repeat (first | (with_reducible first | exact HK.out | apply KeepBut.set_ | apply keep_drewN | apply keep_drew | apply keep_alloc | refine keep_far ?_ au.out _) | exact HK.out)) hk (.inl rfl)); replace HB := zK (hb); replace HI0 := zK (hi); (try clear hb); (try clear hk); (try clear hi)) | ((with_reducible refine gate_dst (N := 17) rfl ?_); refine Kd.R_make (Kd.int .i64) _ 3 rfl (N := 17) rfl 24 _ _ rfl cr rfl rfl Try.underlying24 (.int .i64 0) 8 info3 rfl (by decide) (by omega) 0 (ok := fun _ => True) (okp := fun _ => True) rfl (fun _ hk => hk) trivial (zd) (Nat.le_trans (Nat.mul_le_mul_right _ (zd : cr.toNat ≤ 35184372088832)) (by omega)) (Below.refl _ _) (Nat.le_refl _) ?_; intro v291 w10 ho11 hb hg_ hnew_; clear hg_ hnew_; (first | rw [← Ny290.out] at ho11); have bo := zK (Kd.R_lower ho11 (keep_size (w := w) (g := g) (row := none) (zc8 HK))); replace HI0 := zK (IsS90.below (zi8 HI0) hb); replace af := zK (blk_below (g := ao) (o := .cells #[.slice none 0 0, .int .i64 0, .slice none 0 0, .slice none 0 0] 28 (0, 0)) (zk af) hb); replace HK := zK (KeepBut.trans (by repeat (first | (with_reducible first | exact HK.out | apply KeepBut.set_ | apply keep_drewN | apply keep_drew | apply keep_alloc | refine keep_far ?_ au.out _) | exact HK.out)) (KeepBut.of_below hb g none) (.inl rfl)); replace HB := zK (below_step (zj8 HB) hb); clear hb ho11; obtain ⟨bN, bO, eo12⟩ := Kd.R_slice bo.out; subst eo12) | ((with_reducible refine gate_dst (N := 3) rfl ?_); refine zX 3 #[.slice none 0 0, .int .i64 0, .slice none 0 0, .slice none 0 0] 28 ?_; intro ai hg w13 hbox hb; replace bo := zK (Kd.R_below (zR bo) hb); replace HB := zK (below_step (zj8 HB) hb); have ab := zK (hbox); have ay := zK ((by rw [hg]; exact (keep_size (w := w) (g := g) (row := none) (zc8 HK)) : w.heap.size ≤ ai)); have aJ := zK ((Nat.le_trans HW0.out (by rw [hg]; exact (keep_size (w := w) (g := g) (row := none) (zc8 HK)) : w.heap.size ≤ ai) : w0.heap.size ≤ ai)); replace HK := zK (KeepBut.trans (by repeat (first | (with_reducible first | exact HK.out | apply KeepBut.set_ | apply keep_drewN | apply keep_drew | apply keep_alloc | refine keep_far ?_ au.out _) | exact HK.out)) (KeepBut.of_below hb g none) (.inl rfl)); have aI := zK ((by rw [hg]; exact Nat.ne_of_lt (blk_lt (g := ao) (o := .cells #[.slice none 0 0, .int .i64 0, .slice none 0 0, .slice none 0 0] 28 (0, 0)) (zk af)) : ao ≠ ai)); have a5 := zK ((by rw [hg]; exact Nat.ne_of_gt (blk_lt (g := ao) (o := .cells #[.slice none 0 0, .int .i64 0, .slice none 0 0, .slice none 0 0] 28 (0, 0)) (zk af)) : ai ≠ ao)); replace af := zK (blk_below (g := ao) (o := .cells #[.slice none 0 0, .int .i64 0, .slice none 0 0, .slice none 0 0] 28 (0, 0)) (zk af) hb); have ae := zK ((by rw [hg]; exact Nat.ne_of_lt (IsS90.lt (show IsS90 w0 _ g am bW bX from zi8 HI0)) : g ≠ ai)); have aR := zK ((by rw [hg]; exact Nat.ne_of_gt (IsS90.lt (show IsS90 w0 _ g am bW bX from zi8 HI0)) : ai ≠ g)); replace HI0 := zK (IsS90.below (zi8 HI0) hb); clear hb hbox hg; have hnb14 := a5.out; have hnc14 := aI.out; have hnb15 := aR.out; have hnc15 := ae.out; obtain ⟨cK, cL, cM, cN⟩ := zL4 ab; obtain ⟨cO, cP, cQ, cR⟩ := zF4 ab) | ((with_reducible refine gate_callee (f := 89) rfl ?_); refine goesL_ (some 24) rfl rfl Try.func89 (by kernel_rfl) rfl #[.pointer (some ⟨g, 0, none⟩), .int .i64 (aj.length : Int)] rfl zg ?_; (with_reducible refine (spec_l01Below.calls g am bW bX (aj.length : Int) ap cI cJ w0 _ ?side1 ?side2 A6.out).mono ?_); (case side1 => exact zi8 HI0); (case side2 => exact zj8 HB); rintro e w17 ⟨rfl, hi, hb, hk⟩; refine ⟨_, rfl, ?_⟩; replace af := zK (KeepBut.blk hk (g' := ao) (o := .cells #[.slice none 0 0, .int .i64 0, .slice none 0 0, .slice none 0 0] 28 (0, 0)) (zh af aI) a6.out (by simp)); replace bo := zK (Kd.R_mono (Kd.R_keep (IsS90.apart (show IsS90 w0 _ g am bW bX from zi8 HI0) (by (with_reducible repeat (first | apply Kd.R_alloc | apply Kd.R_drewN | apply Kd.R_drew)); exact (Kd.R_mono (Kd.R_far (p := ⟨ai, 3, none⟩) (Kd.R_far (p := ⟨ai, 2, none⟩) (Kd.R_far (p := ⟨ai, 1, none⟩) (Kd.R_far (p := ⟨ai, 0, none⟩) (Kd.R_types bo.out ab.out (by decide)) (fun _ hk => hk.2) (.slice bN aj.length bO)) (fun _ hk => hk.2) (.int .i64 0)) (fun _ hk => hk.2) (.slice none 0 0)) (fun _ hk => hk.2) (.slice none 0 0)) (fun _ h_ => h_.1))) (by decide)) hk (fun _ h => h.2)) (fun _ h => h.1)); replace ab := zK (KeepBut.blk hk (g' := ai) (o := .cells #[.slice bN aj.length bO, .int .i64 0, .slice none 0 0, .slice none 0 0] 28 (0, 0)) (by (with_reducible repeat (first | refine zN ?_ _ | refine zD ?_ | refine zA ?_ _)); refine blk_put (cs := #[.slice bN aj.length bO, .int .i64 0, .slice none 0 0, .slice none 0 0]) ?_ 3 _ rfl; (with_reducible repeat (first | refine zN ?_ _ | refine zD ?_ | refine zA ?_ _)); refine blk_put (cs := #[.slice bN aj.length bO, .int .i64 0, .slice none 0 0, .slice none 0 0]) ?_ 2 _ rfl; (with_reducible repeat (first | refine zN ?_ _ | refine zD ?_ | refine zA ?_ _)); refine blk_put (cs := #[.slice bN aj.length bO, .int .i64 0, .slice none 0 0, .slice none 0 0]) ?_ 1 _ rfl; (with_reducible repeat (first | refine zN ?_ _ | refine zD ?_ | refine zA ?_ _)); refine blk_put (cs := #[.slice none 0 0, .int .i64 0, .slice none 0 0, .slice none 0 0]) ?_ 0 _ rfl; (with_reducible repeat (first | refine zN ?_ _ | refine zD ?_ | refine zA ?_ _)); exact ab.out) aR.out (by simp)); replace HK := zK (KeepBut.trans (by repeat (first | (with_reducible first | exact HK.out | apply KeepBut.set_ | apply keep_drewN | apply keep_drew | apply keep_alloc | refine keep_far ?_ au.out _ | refine keep_far ?_ ay.out _) | exact HK.out)) hk (.inl rfl)); replace HB := zK (hb); replace HI0 := zK (hi); (try clear hb); (try clear hk); (try clear hi); obtain ⟨cS, cT, cU, cV⟩ := zL4 ab; obtain ⟨cW, cX, cY, cZ⟩ := zF4 ab) | ((with_reducible refine gate_callee (f := 89) rfl ?_); refine goesL_ (some 27) rfl rfl Try.func89 (by kernel_rfl) rfl #[.pointer (some ⟨g, 0, none⟩), .int .i64 7] rfl zg ?_; (with_reducible refine (spec_l01Below.calls g am cI cJ 7 dH dI dJ w0 _ ?side1 ?side2 A7.out).mono ?_); (case side1 => exact zi8 HI0); (case side2 => exact zj8 HB); rintro e w19 ⟨rfl, hi, hb, hk⟩; refine ⟨_, rfl, ?_⟩; replace af := zK (KeepBut.blk hk (g' := ao) (o := .cells #[.slice none 0 0, .int .i64 0, .slice none 0 0, .slice none 0 0] 28 (0, 0)) (zh af aI) a6.out (by simp)); replace bo := zK (Kd.R_mono (Kd.R_keep (IsS90.apart (show IsS90 w0 _ g am cI cJ from zi8 HI0) (by (with_reducible repeat (first | apply Kd.R_alloc | apply Kd.R_drewN | apply Kd.R_drew)); exact (Kd.R_mono (Kd.R_far (p := ⟨ai, 1, none⟩) (Kd.R_types bo.out ab.out (by decide)) (fun _ hk => hk.2) (.int .i64 ap)) (fun _ h_ => h_.1))) (by decide)) hk (fun _ h => h.2)) (fun _ h => h.1)); replace ab := zK (KeepBut.blk hk (g' := ai) (o := .cells #[.slice bN aj.length bO, .int .i64 ap, .slice none 0 0, .slice none 0 0] 28 (0, 0)) (by (with_reducible repeat (first | refine zN ?_ _ | refine zD ?_ | refine zA ?_ _)); refine blk_put (cs := #[.slice bN aj.length bO, .int .i64 0, .slice none 0 0, .slice none 0 0]) ?_ 1 _ rfl; (with_reducible repeat (first | refine zN ?_ _ | refine zD ?_ | refine zA ?_ _)); exact ab.out) aR.out (by simp)); replace HK := zK (KeepBut.trans (by repeat (first | (with_reducible first | exact HK.out | apply KeepBut.set_ | apply keep_drewN | apply keep_drew | apply keep_alloc | refine keep_far ?_ au.out _ | refine keep_far ?_ ay.out _) | exact HK.out)) hk (.inl rfl)); replace HB := zK (hb); replace HI0 := zK (hi); (try clear hb); (try clear hk); (try clear hi)))
   go_loopg [5] k (fun kq v5 w' => ∃ (bA : Int) (bl : Int) (bm : Int) (ah : List Int) (u294000 : Value), v5 = .int .i64 bA ∧ Aside0 (spec_l05Loop.l0 kq (aj.length : Int) bA am bl bm ah ap = some (r1, r2, r3, r4, r5, r6)) ∧ Aside0 (kq ≤ k) ∧ Aside0 (Kd.R (Kd.int .i64) 3 w' w.heap.size (fun _ => True) u294000 ah) ∧ Aside0 (w'.heap[ao]? = some (.cells #[(.slice none 0 0), .int .i64 0, (.slice none 0 0), (.slice none 0 0)] 28 (0, 0))) ∧ Aside0 (w'.heap[ai]? = some (.cells #[u294000, .int .i64 ap, (.slice none 0 0), (.slice none 0 0)] 28 (0, 0))) ∧ Aside0 (IsS90 w0 w' g am bl bm) ∧ Aside0 (KeepBut w w' g none) ∧ Aside0 (Below w0.heap.size w0 w'))
   case atStart => exact ⟨(dH), (dI), (dJ), (aj), (.slice bN aj.length bO), zf, H', ⟨Nat.le_refl _⟩, ⟨zR bo⟩, ⟨zk af⟩, ⟨zk ab⟩, ⟨zi8 HI0⟩, ⟨zc8 HK⟩, ⟨zj8 HB⟩⟩
   case round =>
    clear H' c4b0 c4b1 c5b0 c5b1 cK cL cM cN cS cT cU cV cO cP cQ cR cW cX cY cZ
    obtain ⟨bA, bl, bm, ah, u294000, rfl, HA, bJ, aa, af, ab, HI0, HK, HB⟩ := hrel
    cases gk with
    | zero => exact absurd HA.out (by simp [spec_l05Loop.l0])
    | succ k1 =>
     have H := HA.out; clear HA
     simp only [spec_l05Loop.l0] at H
     by_cases d0 : bA > 0
     ·rw [if_pos d0] at H
      have dt : decide (0 < bA) = true := decide_eq_true d0
      clear d0; replace H := Option.bind_eq_some_iff.mp H
      obtain ⟨⟨bx, c0, c1⟩, d6, H⟩ := H
      (try dsimp only at H)
      have A21 := zK d6; clear d6
      by_cases c22 : 0 ≤ bx
      ·rw [if_pos c22] at H
       have c22b0 : decide (0 ≤ bx) = true := decide_eq_true c22
       clear c22
       by_cases c23 : bx < (ah.length : Int)
       ·rw [if_pos c23] at H
        have c23b0 : decide (bx < (ah.length : Int)) = true := decide_eq_true c23
        clear c23
        obtain ⟨d7, cu⟩ : ∃ y_ : List Int, y_ = (ah.set (bx : Int).toNat bA) := ⟨_, rfl⟩
        replace H : (spec_l05Loop.l0 k1 (aj.length : Int) (wrap64 (bA - 1)) am c0 c1 d7 ap) = some (r1, r2, r3, r4, r5, r6) := by rw [cu]; with_reducible exact H
        have Ny303 := zK cu; clear cu; have H' := zK H; clear H
        try go_wp2
        replace aa := zK (Kd.R_drew aa.out); replace af := zK (zD af.out); replace ab := zK (zD ab.out); replace HI0 := zK (IsS90.drew HI0.out); replace HK := zK (keep_drew HK.out); replace HB := zK (zE HB.out)
        refine start_ (n := 8) (S := fun w' => w'.cell? ⟨ai, 0, none⟩ = some (u294000) ∧ w'.cell? ⟨ai, 1, none⟩ = some (.int .i64 ap) ∧ w'.cell? ⟨ai, 2, none⟩ = some (.slice none 0 0) ∧ w'.cell? ⟨ai, 3, none⟩ = some (.slice none 0 0)) (ds := [7]) (zv 8 0) (by kernel_rfl) rfl rfl ⟨(blk_cell ab.out 0).trans rfl, (blk_cell ab.out 1).trans rfl, (blk_cell ab.out 2).trans rfl, (blk_cell ab.out 3).trans rfl⟩ (fun hHeld => ?_); refine with_tabW spec_l05Loop.tab7 spec_l05Loop.bits7 (fun HT_ HW_ => ?_)
        generalize wr.drew = w25 at aa af ab HI0 HK HB hHeld ⊢
        refine zu 0 (some 32) (zv 8 1) (any_of HT_.out (by kernel_rfl)) ?_
        refine zu 2 (some 34) (zv 8 5) (any_of HT_.out (by kernel_rfl)) ?_
        refine zu 3 (some 35) (zv 8 13) (any_of HT_.out (by kernel_rfl)) ?_
        refine zu 5 (some 37) (zv 8 45) (any_of HT_.out (by kernel_rfl)) ?_
        refine zt 1 (some 33) (zv 8 47) (take_ofW HT_.out HW_.out (by kernel_rfl)) hHeld ?_
        refine one_ (i := 4) (N := some 36) (zv 8 63) rfl rfl (one_of HT_.out (by kernel_rfl)) (by decide) (fun K hK => ?_)
        refine goes_ Try.func89 (by kernel_rfl) rfl #[.pointer (some ⟨g, 0, none⟩), .int .i64 (aj.length : Int)] (by rfl) rfl rfl zg ?_
        with_reducible refine (spec_l01Below.calls g am bl bm (aj.length : Int) bx c0 c1 w0 _ ?side1 ?side2 A21.out).mono ?_
        (case side1 => exact zi8 HI0)
        (case side2 => exact zj8 HB)
        rintro e w26 ⟨rfl, hi, hb, hk⟩
        refine ⟨_, rfl, ?_⟩
        replace aa := zK (Kd.R_mono (Kd.R_keep (IsS90.apart (show IsS90 w0 _ g am bl bm from zi8 HI0) (zR aa) (by decide)) hk (fun _ h => h.2)) (fun _ h => h.1)); replace af := zK (KeepBut.blk hk (g' := ao) (o := .cells #[.slice none 0 0, .int .i64 0, .slice none 0 0, .slice none 0 0] 28 (0, 0)) (zk af) a6.out (by simp)); replace ab := zK (KeepBut.blk hk (g' := ai) (o := .cells #[u294000, .int .i64 ap, .slice none 0 0, .slice none 0 0] 28 (0, 0)) (zk ab) aR.out (by simp)); replace HK := zK (KeepBut.trans (by repeat (first | (with_reducible first | exact HK.out | apply KeepBut.set_ | apply keep_drewN | apply keep_drew | apply keep_alloc | refine keep_far ?_ au.out _ | refine keep_far ?_ ay.out _) | exact HK.out)) hk (.inl rfl)); replace HB := zK (hb); replace HI0 := zK (hi); (try clear hb); (try clear hb2); (try clear hk); (try clear hi)
        have p24 : 0 ≤ (bx : Int) := zd
        have q24 : (bx : Int) < ((ah.length : Int) : Int) := zd
        obtain ⟨d8, co24, eo24, d9, gl24, cl24, ea⟩ := Kd.R_form aa.out (by omega)
        (first | cases eo24)
        have eb := zK d9; have GG24 := zK ea; clear d9 gl24 ea
        obtain ⟨hx24_0, hf24_0⟩ := Kd.R_celln 0 aa.out (bx : Int) p24 q24
        replace p24 := eq_true p24; replace q24 := eq_true q24
        have HN0_go24 := zK (show g ≠ d8 from by have h_ := IsS90.own_ne HI0.out aa.out (by decide); intro e_; exact h_ (by rw [e_]; rfl))
        have dK := Kd.R_putn aa.out (bx : Int) bA
        rw [← Ny303.out] at dK
        have HQ27 := zK dK; clear dK
        refine hK.out _ _ ⟨(blk_cell ab.out 0).trans rfl, (blk_cell ab.out 1).trans rfl, (blk_cell ab.out 2).trans rfl, (blk_cell ab.out 3).trans rfl⟩ (fun hHeld => ?_)
        clear hK K
        refine norm_ (a' := ?_) ?_ ?_
        rotate_left
        ·show Act.put _ (some 36) _ = _
         simp only [Act.put, zp, zq, zr, i64_w, i32_w]
         rfl
        refine zu 6 (some 38) (zv 8 127) (any_of HT_.out (by kernel_rfl)) ?_
        refine last_ (i := 7) (N := none) (zv 8 255) rfl rfl (one_of HT_.out (by kernel_rfl)) (by decide) (fun K hK => ?_)
        refine skip_ (w1 := ?_) (by rfl) rfl ?_ ?_
        rotate_left
        ·go_simp
         rfl
        refine hK.out _ _ ?_
        clear hK K
        refine done_ (done_of HT_.out (by kernel_rfl)) ?_
        try go_wp2
        go_roundg k1
        case measure => have := bJ.out; omega
        case rel => exact ⟨(wrap64 (bA - 1)), (c0), (c1), (d7), (.slice (some ⟨d8, 0, none⟩) ah.length co24), zf, H', ⟨by have := bJ.out; omega⟩, ⟨zR HQ27⟩, ⟨by (with_reducible repeat (first | refine zN ?_ _ | refine zD ?_ | refine zA ?_ _)); refine blk_far ?_ (by have h_ := Kd.R_ne aa.out af.out (by decide); intro e_; exact h_ (by rw [e_]; rfl)) _; (with_reducible repeat (first | refine zN ?_ _ | refine zD ?_ | refine zA ?_ _)); exact af.out⟩, ⟨by (with_reducible repeat (first | refine zN ?_ _ | refine zD ?_ | refine zA ?_ _)); refine blk_far ?_ (by have h_ := Kd.R_ne aa.out ab.out (by decide); intro e_; exact h_ (by rw [e_]; rfl)) _; (with_reducible repeat (first | refine zN ?_ _ | refine zD ?_ | refine zA ?_ _)); exact ab.out⟩, ⟨zi8 HI0⟩, ⟨zc8 HK⟩, ⟨by repeat (first | (with_reducible first | exact HB.out | apply zB | apply zC | apply zE | refine zS ?_ (Nat.le_trans HL.out eb.out) | refine zS ?_ (IsS90.ge HI0.out) | refine zS ?_ aE.out | refine zS ?_ aJ.out) | exact HB.out)⟩⟩
       ·rw [if_neg c23] at H
        exact absurd H (by simp)
      ·rw [if_neg c22] at H
       exact absurd H (by simp)
     ·rw [if_neg d0] at H
      have dt : decide (0 < bA) = false := decide_eq_false d0
      clear d0; replace H := Option.bind_eq_some_iff.mp H
      obtain ⟨⟨aQ, da, db⟩, ec, H⟩ := H
      (try dsimp only at H)
      have A28 := zK ec; clear ec; replace H := Option.bind_eq_some_iff.mp H
      obtain ⟨⟨cv, dc, dd⟩, ed, H⟩ := H
      (try dsimp only at H)
      have A29 := zK ed; clear ed
      obtain ⟨dL, b7⟩ : ∃ j_ : Int, (mn (aj.length : Int) cv) = j_ := ⟨_, rfl⟩
      replace H : (spec_l05Loop.l1 k1 (aj.length : Int) aQ dL am dc dd ah ap ([] : List (S69))) = some (r1, r2, r3, r4, r5, r6) := by rw [b7] at H; exact H
      have hji30_ : (if cv < (aj.length : Int) then cv else (aj.length : Int)) = dL := b7
      have H' := zK H; clear H
      go_wp2_with (first | ((with_reducible refine gate_callee (f := 89) rfl ?_); refine goesL_ (some 41) rfl rfl Try.func89 (by kernel_rfl) rfl #[.pointer (some ⟨g, 0, none⟩), .int .i64 (aj.length : Int)] rfl zg ?_; (with_reducible refine (spec_l01Below.calls g am bl bm (aj.length : Int) aQ da db w0 _ ?side1 ?side2 A28.out).mono ?_); (case side1 => exact zi8 HI0); (case side2 => exact zj8 HB); rintro e w31 ⟨rfl, hi, hb, hk⟩; refine ⟨_, rfl, ?_⟩; replace aa := zK (Kd.R_mono (Kd.R_keep (IsS90.apart (show IsS90 w0 _ g am bl bm from zi8 HI0) (zR aa) (by decide)) hk (fun _ h => h.2)) (fun _ h => h.1)); replace af := zK (KeepBut.blk hk (g' := ao) (o := .cells #[.slice none 0 0, .int .i64 0, .slice none 0 0, .slice none 0 0] 28 (0, 0)) (zk af) a6.out (by simp)); replace ab := zK (KeepBut.blk hk (g' := ai) (o := .cells #[u294000, .int .i64 ap, .slice none 0 0, .slice none 0 0] 28 (0, 0)) (zk ab) aR.out (by simp)); replace HK := zK (KeepBut.trans (by repeat (first | (with_reducible first | exact HK.out | apply KeepBut.set_ | apply keep_drewN | apply keep_drew | apply keep_alloc | refine keep_far ?_ au.out _ | refine keep_far ?_ ay.out _) | exact HK.out)) hk (.inl rfl)); replace HB := zK (hb); replace HI0 := zK (hi); (try clear hb); (try clear hk); (try clear hi)) | ((with_reducible refine gate_callee (f := 89) rfl ?_); refine goesL_ (some 44) rfl rfl Try.func89 (by kernel_rfl) rfl #[.pointer (some ⟨g, 0, none⟩), .int .i64 4] rfl zg ?_; (with_reducible refine (spec_l01Below.calls g am da db 4 cv dc dd w0 _ ?side1 ?side2 A29.out).mono ?_); (case side1 => exact zi8 HI0); (case side2 => exact zj8 HB); rintro e w32 ⟨rfl, hi, hb, hk⟩; refine ⟨_, rfl, ?_⟩; replace aa := zK (Kd.R_mono (Kd.R_keep (IsS90.apart (show IsS90 w0 _ g am da db from zi8 HI0) (zR aa) (by decide)) hk (fun _ h => h.2)) (fun _ h => h.1)); replace af := zK (KeepBut.blk hk (g' := ao) (o := .cells #[.slice none 0 0, .int .i64 0, .slice none 0 0, .slice none 0 0] 28 (0, 0)) (zk af) a6.out (by simp)); replace ab := zK (KeepBut.blk hk (g' := ai) (o := .cells #[u294000, .int .i64 ap, .slice none 0 0, .slice none 0 0] 28 (0, 0)) (zk ab) aR.out (by simp)); replace HK := zK (KeepBut.trans (by repeat (first | (with_reducible first | exact HK.out | apply KeepBut.set_ | apply keep_drewN | apply keep_drew | apply keep_alloc | refine keep_far ?_ au.out _ | refine keep_far ?_ ay.out _) | exact HK.out)) hk (.inl rfl)); replace HB := zK (hb); replace HI0 := zK (hi); (try clear hb); (try clear hk); (try clear hi)))
      go_loopg [7] k1 (fun kq v7 w' => ∃ (aC : Int) (a8 : Int) (a9 : Int) (ad : List (S69)) (u294002 : Value), v7 = .int .i64 aC ∧ Aside0 (spec_l05Loop.l1 kq (aj.length : Int) aQ aC am a8 a9 ah ap ad = some (r1, r2, r3, r4, r5, r6)) ∧ Aside0 (kq ≤ k1) ∧ Aside0 (Kd.R (Kd.int .i64) 3 w' w.heap.size (fun _ => True) u294000 ah) ∧ Aside0 (Kd.S k69 69 w' w.heap.size (fun k_ => some k_ ≠ (u294000 : Value).ownBlock) u294002 ad) ∧ Aside0 (w'.heap[ao]? = some (.cells #[(.slice none 0 0), .int .i64 0, (.slice none 0 0), (.slice none 0 0)] 28 (0, 0))) ∧ Aside0 (w'.heap[ai]? = some (.cells #[u294000, .int .i64 ap, u294002, (.slice none 0 0)] 28 (0, 0))) ∧ Aside0 (IsS90 w0 w' g am a8 a9) ∧ Aside0 (KeepBut w w' g none) ∧ Aside0 (Below w0.heap.size w0 w'))
      case atStart => exact ⟨(dL), (dc), (dd), (([] : List (S69))), (.slice none 0 0), (by first | rfl | (simp; done) | (simp only [← b7] <;> (fail)) | (simp [*]; done)), H', ⟨Nat.le_refl _⟩, ⟨zR aa⟩, ⟨by first | exact Kd.S_nil _ _ _ _ _ | exact Kd.N_nil _ _ _ _ _ | exact Kd.V_nil _ _ _ _ _ | exact Kd.Q_nil _ _ _ _ _ | exact Kd.R_nil _ _ _ _ _⟩, ⟨zk af⟩, ⟨zk ab⟩, ⟨zi8 HI0⟩, ⟨zc8 HK⟩, ⟨zj8 HB⟩⟩
      case round =>
       clear H' dt
       obtain ⟨aC, a8, a9, ad, u294002, rfl, HA, bL, aa, ac, af, ab, HI0, HK, HB⟩ := hrel
       cases gk with
       | zero => exact absurd HA.out (by simp [spec_l05Loop.l1])
       | succ k2 =>
        have H := HA.out; clear HA
        simp only [spec_l05Loop.l1] at H
        by_cases d1 : aC > 0
        ·rw [if_pos d1] at H
         have cw : decide (0 < aC) = true := decide_eq_true d1
         clear d1
         by_cases d2 : (aj.length : Int) = 0
         ·rw [if_pos d2] at H
          exact absurd H (by simp)
         ·rw [if_neg d2] at H
          have ee : ((aj.length : Int) == 0) = false := beq_eq_false_iff_ne.mpr d2
          have ef : ((aj.length : Int) != 0) = true := bne_iff_ne.mpr d2
          have eg : ¬ (aj = []) := fun h_ => d2 (by rw [h_]; rfl)
          replace H := Option.bind_eq_some_iff.mp H
          obtain ⟨⟨a1, bB, bC⟩, eh, H⟩ := H
          (try dsimp only at H)
          have A35 := zK eh; clear eh; have dM := zK H; clear H
          try go_wp2
          replace aa := zK (Kd.R_drew aa.out); replace ac := zK (Kd.S_drew ac.out); replace af := zK (zD af.out); replace ab := zK (zD ab.out); replace HI0 := zK (IsS90.drew HI0.out); replace HK := zK (keep_drew HK.out); replace HB := zK (zE HB.out)
          refine start_ (n := 14) (S := fun w' => True) (ds := []) (zv 14 0) (by kernel_rfl) rfl rfl trivial (fun hHeld => ?_); refine with_tabW spec_l05Loop.tab12 spec_l05Loop.bits12 (fun HT_ HW_ => ?_)
          generalize wr.drew = w37 at aa ac af ab HI0 HK HB hHeld ⊢
          refine zu 0 (some 50) (zv 14 1) (any_of HT_.out (by kernel_rfl)) ?_
          refine zu 1 (some 51) (zv 14 3) (any_of HT_.out (by kernel_rfl)) ?_
          refine zu 2 (some 52) (zv 14 7) (any_of HT_.out (by kernel_rfl)) ?_
          refine zu 3 (some 53) (zv 14 15) (any_of HT_.out (by kernel_rfl)) ?_
          refine zu 4 (some 54) (zv 14 31) (any_of HT_.out (by kernel_rfl)) ?_
          refine zu 5 (some 55) (zv 14 63) (any_of HT_.out (by kernel_rfl)) ?_
          refine zu 6 (some 56) (zv 14 127) (any_of HT_.out (by kernel_rfl)) ?_
          refine zu 7 (some 57) (zv 14 255) (any_of HT_.out (by kernel_rfl)) ?_
          refine zu 8 (some 58) (zv 14 511) (any_of HT_.out (by kernel_rfl)) ?_
          refine zu 9 (some 59) (zv 14 1023) (any_of HT_.out (by kernel_rfl)) ?_
          refine join_ (σ := Nat) 1 (zv 14 8191) (fun s_ => [(60, .int .i64 a1), (8, .pointer (some ⟨s_, 0, none⟩)), (61, .agg #[.int .i64 (Int.tmod (wrap64 (aQ + (wrap64 (aC * (wrap64 (1 + (wrap64 (Int.tdiv (aj.length : Int) 4)))))))) (aj.length : Int)), .int .i64 a1, .slice none 0 0])]) (fun s_ w' => (Kd.R (Kd.int .i64) 3 w' w.heap.size (fun _ => True) u294000 ah) ∧ (Kd.S k69 69 w' w.heap.size (fun k_ => some k_ ≠ (u294000 : Value).ownBlock ∧ k_ ≠ s_) u294002 ad) ∧ (w'.heap[ao]? = some (.cells #[.slice none 0 0, .int .i64 0, .slice none 0 0, .slice none 0 0] 28 (0, 0))) ∧ (w'.heap[ai]? = some (.cells #[u294000, .int .i64 ap, u294002, .slice none 0 0] 28 (0, 0))) ∧ (w'.heap[s_]? = some (.cells #[.int .i64 0, .int .i64 0, .slice none 0 0] 69 (0, 0))) ∧ (w.heap.size ≤ s_) ∧ (w0.heap.size ≤ s_) ∧ (g ≠ s_) ∧ (s_ ≠ g) ∧ (ao ≠ s_) ∧ (s_ ≠ ao) ∧ (ai ≠ s_) ∧ (s_ ≠ ai) ∧ (IsS90 w0 w' g am bB bC) ∧ (KeepBut w w' g none) ∧ (Below w0.heap.size w0 w')) ?_ ?_
          rotate_left
          ·intro hCont
           refine two_ (i := 10) (j := 12) (Ni := some 60) (Nj := some 8) (zv 14 2047) (zv 14 5119) rfl rfl rfl rfl (two_of HT_.out (by kernel_rfl)) (by decide) (by decide) (fun K hK => ?_) (fun K hK => ?_)
           ·skip
            refine goes_ Try.func89 (by kernel_rfl) rfl #[.pointer (some ⟨g, 0, none⟩), .int .i64 4] (by rfl) rfl rfl zg ?_
            with_reducible refine (spec_l01Below.calls g am a8 a9 4 a1 bB bC w0 _ ?side1 ?side2 A35.out).mono ?_
            (case side1 => exact zi8 HI0)
            (case side2 => exact zj8 HB)
            rintro e w38 ⟨rfl, hi, hb, hk⟩
            refine ⟨_, rfl, ?_⟩
            replace aa := zK (Kd.R_mono (Kd.R_keep (IsS90.apart (show IsS90 w0 _ g am a8 a9 from zi8 HI0) (zR aa) (by decide)) hk (fun _ h => h.2)) (fun _ h => h.1)); replace ac := zK (Kd.S_mono (Kd.S_keep (IsS90.apartS (show IsS90 w0 _ g am a8 a9 from zi8 HI0) (zT ac) (by decide)) hk (fun _ h => h.2)) (fun _ h => h.1)); replace af := zK (KeepBut.blk hk (g' := ao) (o := .cells #[.slice none 0 0, .int .i64 0, .slice none 0 0, .slice none 0 0] 28 (0, 0)) (zk af) a6.out (by simp)); replace ab := zK (KeepBut.blk hk (g' := ai) (o := .cells #[u294000, .int .i64 ap, u294002, .slice none 0 0] 28 (0, 0)) (zk ab) aR.out (by simp)); replace HK := zK (KeepBut.trans (by repeat (first | (with_reducible first | exact HK.out | apply KeepBut.set_ | apply keep_drewN | apply keep_drew | apply keep_alloc | refine keep_far ?_ au.out _ | refine keep_far ?_ ay.out _) | exact HK.out)) hk (.inl rfl)); replace HB := zK (hb); replace HI0 := zK (hi); (try clear hb); (try clear hb2); (try clear hk); (try clear hi)
            refine hK.out _ _ trivial (fun hHeld => ?_)
            clear hK K
            refine norm_ (a' := ?_) ?_ ?_
            rotate_left
            ·show Act.put _ (some 60) _ = _
             simp only [Act.put, zp, zq, zr, i64_w, i32_w]
             rfl
            refine zu 11 (some 61) (zv 14 4095) (any_of HT_.out (by kernel_rfl)) ?_
            refine one_ (i := 12) (N := some 8) (zv 14 8191) rfl rfl (one_of HT_.out (by kernel_rfl)) (by decide) (fun K hK => ?_)
            refine box_step ?hg (N := 8) ?hd (cs := #[.int .i64 0, .int .i64 0, .slice none 0 0]) (t := 69) ?hr ?_; (case hd => rfl); (case hg => rfl); (case hr => first | (go_simp; done) | (go_simp; rfl))
            intro al hg w39 hbox hb
            replace aa := zK (Kd.R_below (zR aa) hb); replace ac := zK (Kd.S_below (Kd.S_elderB (zT ac) al (Nat.le_of_eq hg.symm)) hb); replace HB := zK (below_step (zj8 HB) hb); have an := zK (hbox); have a7 := zK ((by rw [hg]; exact (keep_size (w := w) (g := g) (row := none) (zc8 HK)) : w.heap.size ≤ al)); have bc := zK ((Nat.le_trans HW0.out (by rw [hg]; exact (keep_size (w := w) (g := g) (row := none) (zc8 HK)) : w.heap.size ≤ al) : w0.heap.size ≤ al)); replace HK := zK (KeepBut.trans (by repeat (first | (with_reducible first | exact HK.out | apply KeepBut.set_ | apply keep_drewN | apply keep_drew | apply keep_alloc | refine keep_far ?_ au.out _ | refine keep_far ?_ ay.out _) | exact HK.out)) (KeepBut.of_below hb g none) (.inl rfl)); have aD := zK ((by rw [hg]; exact Nat.ne_of_lt (blk_lt (g := ao) (o := .cells #[.slice none 0 0, .int .i64 0, .slice none 0 0, .slice none 0 0] 28 (0, 0)) (zk af)) : ao ≠ al)); have a2 := zK ((by rw [hg]; exact Nat.ne_of_gt (blk_lt (g := ao) (o := .cells #[.slice none 0 0, .int .i64 0, .slice none 0 0, .slice none 0 0] 28 (0, 0)) (zk af)) : al ≠ ao)); replace af := zK (blk_below (g := ao) (o := .cells #[.slice none 0 0, .int .i64 0, .slice none 0 0, .slice none 0 0] 28 (0, 0)) (zk af) hb); have ax := zK ((by rw [hg]; exact Nat.ne_of_lt (blk_lt (g := ai) (o := .cells #[u294000, .int .i64 ap, u294002, .slice none 0 0] 28 (0, 0)) (zk ab)) : ai ≠ al)); have aV := zK ((by rw [hg]; exact Nat.ne_of_gt (blk_lt (g := ai) (o := .cells #[u294000, .int .i64 ap, u294002, .slice none 0 0] 28 (0, 0)) (zk ab)) : al ≠ ai)); replace ab := zK (blk_below (g := ai) (o := .cells #[u294000, .int .i64 ap, u294002, .slice none 0 0] 28 (0, 0)) (zk ab) hb); have aB := zK ((by rw [hg]; exact Nat.ne_of_lt (IsS90.lt (show IsS90 w0 _ g am bB bC from zi8 HI0)) : g ≠ al)); have bf := zK ((by rw [hg]; exact Nat.ne_of_gt (IsS90.lt (show IsS90 w0 _ g am bB bC from zi8 HI0)) : al ≠ g)); replace HI0 := zK (IsS90.below (zi8 HI0) hb); clear hb hbox hg
            refine hK.out _ _ trivial (fun hHeld => ?_)
            clear hK K
            refine norm_ (a' := ?_) ?_ ?_
            rotate_left
            ·show Act.put _ (some 8) _ = _
             simp only [Act.put, zp, zq, zr, i64_w, i32_w]
             rfl
            exact norm_ (by simp only [putAll, Act.put, List.setIfInBounds_toArray, List.set_cons_zero, List.set_cons_succ] <;> first | rfl | (simp only [i64_w, i32_w]; done) | (simp only [i64_w, i32_w]; rfl)) (hCont (al) _ ⟨(zR aa), (zT ac), (zk af), (zk ab), (zk an), a7.out, bc.out, aB.out, bf.out, aD.out, a2.out, ax.out, aV.out, (zi8 HI0), (zc8 HK), (zj8 HB)⟩)
           ·skip
            refine box_step ?hg (N := 8) ?hd (cs := #[.int .i64 0, .int .i64 0, .slice none 0 0]) (t := 69) ?hr ?_; (case hd => rfl); (case hg => rfl); (case hr => first | (go_simp; done) | (go_simp; rfl))
            intro al hg w38 hbox hb
            replace aa := zK (Kd.R_below (zR aa) hb); replace ac := zK (Kd.S_below (Kd.S_elderB (zT ac) al (Nat.le_of_eq hg.symm)) hb); replace HB := zK (below_step (zj8 HB) hb); have an := zK (hbox); have a7 := zK ((by rw [hg]; exact (keep_size (w := w) (g := g) (row := none) (zc8 HK)) : w.heap.size ≤ al)); have bc := zK ((Nat.le_trans HW0.out (by rw [hg]; exact (keep_size (w := w) (g := g) (row := none) (zc8 HK)) : w.heap.size ≤ al) : w0.heap.size ≤ al)); replace HK := zK (KeepBut.trans (by repeat (first | (with_reducible first | exact HK.out | apply KeepBut.set_ | apply keep_drewN | apply keep_drew | apply keep_alloc | refine keep_far ?_ au.out _ | refine keep_far ?_ ay.out _) | exact HK.out)) (KeepBut.of_below hb g none) (.inl rfl)); have aD := zK ((by rw [hg]; exact Nat.ne_of_lt (blk_lt (g := ao) (o := .cells #[.slice none 0 0, .int .i64 0, .slice none 0 0, .slice none 0 0] 28 (0, 0)) (zk af)) : ao ≠ al)); have a2 := zK ((by rw [hg]; exact Nat.ne_of_gt (blk_lt (g := ao) (o := .cells #[.slice none 0 0, .int .i64 0, .slice none 0 0, .slice none 0 0] 28 (0, 0)) (zk af)) : al ≠ ao)); replace af := zK (blk_below (g := ao) (o := .cells #[.slice none 0 0, .int .i64 0, .slice none 0 0, .slice none 0 0] 28 (0, 0)) (zk af) hb); have ax := zK ((by rw [hg]; exact Nat.ne_of_lt (blk_lt (g := ai) (o := .cells #[u294000, .int .i64 ap, u294002, .slice none 0 0] 28 (0, 0)) (zk ab)) : ai ≠ al)); have aV := zK ((by rw [hg]; exact Nat.ne_of_gt (blk_lt (g := ai) (o := .cells #[u294000, .int .i64 ap, u294002, .slice none 0 0] 28 (0, 0)) (zk ab)) : al ≠ ai)); replace ab := zK (blk_below (g := ai) (o := .cells #[u294000, .int .i64 ap, u294002, .slice none 0 0] 28 (0, 0)) (zk ab) hb); have aB := zK ((by rw [hg]; exact Nat.ne_of_lt (IsS90.lt (show IsS90 w0 _ g am a8 a9 from zi8 HI0)) : g ≠ al)); have bf := zK ((by rw [hg]; exact Nat.ne_of_gt (IsS90.lt (show IsS90 w0 _ g am a8 a9 from zi8 HI0)) : al ≠ g)); replace HI0 := zK (IsS90.below (zi8 HI0) hb); clear hb hbox hg
            refine hK.out _ _ trivial (fun hHeld => ?_)
            clear hK K
            refine norm_ (a' := ?_) ?_ ?_
            rotate_left
            ·show Act.put _ (some 8) _ = _
             simp only [Act.put, zp, zq, zr, i64_w, i32_w]
             rfl
            refine one_ (i := 10) (N := some 60) (zv 14 6143) rfl rfl (one_of HT_.out (by kernel_rfl)) (by decide) (fun K hK => ?_)
            refine goes_ Try.func89 (by kernel_rfl) rfl #[.pointer (some ⟨g, 0, none⟩), .int .i64 4] (by rfl) rfl rfl zg ?_
            with_reducible refine (spec_l01Below.calls g am a8 a9 4 a1 bB bC w0 _ ?side1 ?side2 A35.out).mono ?_
            (case side1 => exact zi8 HI0)
            (case side2 => exact zj8 HB)
            rintro e w39 ⟨rfl, hi, hb, hk⟩
            refine ⟨_, rfl, ?_⟩
            replace aa := zK (Kd.R_mono (Kd.R_keep (IsS90.apart (show IsS90 w0 _ g am a8 a9 from zi8 HI0) (zR aa) (by decide)) hk (fun _ h => h.2)) (fun _ h => h.1)); replace ac := zK (Kd.S_mono (Kd.S_keep (IsS90.apartS (show IsS90 w0 _ g am a8 a9 from zi8 HI0) (zT ac) (by decide)) hk (fun _ h => h.2)) (fun _ h => h.1)); replace af := zK (KeepBut.blk hk (g' := ao) (o := .cells #[.slice none 0 0, .int .i64 0, .slice none 0 0, .slice none 0 0] 28 (0, 0)) (zk af) a6.out (by simp)); replace ab := zK (KeepBut.blk hk (g' := ai) (o := .cells #[u294000, .int .i64 ap, u294002, .slice none 0 0] 28 (0, 0)) (zk ab) aR.out (by simp)); replace an := zK (KeepBut.blk hk (g' := al) (o := .cells #[.int .i64 0, .int .i64 0, .slice none 0 0] 69 (0, 0)) (zk an) bf.out (by simp)); replace HK := zK (KeepBut.trans (by repeat (first | (with_reducible first | exact HK.out | apply KeepBut.set_ | apply keep_drewN | apply keep_drew | apply keep_alloc | refine keep_far ?_ au.out _ | refine keep_far ?_ ay.out _ | refine keep_far ?_ a7.out _) | exact HK.out)) hk (.inl rfl)); replace HB := zK (hb); replace HI0 := zK (hi); (try clear hb); (try clear hb2); (try clear hk); (try clear hi)
            refine hK.out _ _ trivial (fun hHeld => ?_)
            clear hK K
            refine norm_ (a' := ?_) ?_ ?_
            rotate_left
            ·show Act.put _ (some 60) _ = _
             simp only [Act.put, zp, zq, zr, i64_w, i32_w]
             rfl
            refine zu 11 (some 61) (zv 14 8191) (any_of HT_.out (by kernel_rfl)) ?_
            exact norm_ (by simp only [putAll, Act.put, List.setIfInBounds_toArray, List.set_cons_zero, List.set_cons_succ] <;> first | rfl | (simp only [i64_w, i32_w]; done) | (simp only [i64_w, i32_w]; rfl)) (hCont (al) _ ⟨(zR aa), (zT ac), (zk af), (zk ab), (zk an), a7.out, bc.out, aB.out, bf.out, aD.out, a2.out, ax.out, aV.out, (zi8 HI0), (zc8 HK), (zj8 HB)⟩)
          rintro al bY ⟨h0_, h1_, h2_, h3_, h4_, h5_, h6_, h7_, h8_, h9_, h10_, h11_, h12_, h13_, h14_, h15_⟩
          have aX : Aside0 (Kd.R (Kd.int .i64) 3 bY w.heap.size (fun _ => True) u294000 ah) := ⟨h0_⟩
          have aY : Aside0 (Kd.S k69 69 bY w.heap.size (fun k_ => some k_ ≠ (u294000 : Value).ownBlock ∧ k_ ≠ al) u294002 ad) := ⟨h1_⟩
          have aZ : Aside0 (bY.heap[ao]? = some (.cells #[.slice none 0 0, .int .i64 0, .slice none 0 0, .slice none 0 0] 28 (0, 0))) := ⟨h2_⟩
          have a0 : Aside0 (bY.heap[ai]? = some (.cells #[u294000, .int .i64 ap, u294002, .slice none 0 0] 28 (0, 0))) := ⟨h3_⟩
          have a3 : Aside0 (bY.heap[al]? = some (.cells #[.int .i64 0, .int .i64 0, .slice none 0 0] 69 (0, 0))) := ⟨h4_⟩
          have a4 : Aside0 (w.heap.size ≤ al) := ⟨h5_⟩
          have bb : Aside0 (w0.heap.size ≤ al) := ⟨h6_⟩
          have bg : Aside0 (g ≠ al) := ⟨h7_⟩
          have bi : Aside0 (al ≠ g) := ⟨h8_⟩
          have bs : Aside0 (ao ≠ al) := ⟨h9_⟩
          have bu : Aside0 (al ≠ ao) := ⟨h10_⟩
          have bv : Aside0 (ai ≠ al) := ⟨h11_⟩
          have bD : Aside0 (al ≠ ai) := ⟨h12_⟩
          have bE : Aside0 (IsS90 w0 bY g am bB bC) := ⟨h13_⟩
          have bF : Aside0 (KeepBut w bY g none) := ⟨h14_⟩
          have bG : Aside0 (Below w0.heap.size w0 bY) := ⟨h15_⟩
          clear aa ac af ab HI0 HK HB h0_ h1_ h2_ h3_ h4_ h5_ h6_ h7_ h8_ h9_ h10_ h11_ h12_ h13_ h14_ h15_; have aa := aX; have ac := aY; have af := aZ; have ab := a0; have an := a3; have a7 := a4; have bc := bb; have aB := bg; have bf := bi; have aD := bs; have a2 := bu; have ax := bv; have aV := bD; have HI0 := bE; have HK := bF; have HB := bG; clear aX aY aZ a0 a3 a4 bb bg bi bs bu bv bD bE bF bG; have hHeld := trivial
          refine norm_ (a' := ?_) ?_ ?_
          rotate_left
          ·simp only [putAll, Act.put, List.setIfInBounds_toArray, List.set_cons_zero, List.set_cons_succ]
           rfl
          refine one_ (i := 13) (N := none) (zv 14 16383) rfl rfl (one_of HT_.out (by kernel_rfl)) (by decide) (fun K hK => ?_)
          have hs41 : bY.cell? ⟨al, 0, none⟩ = some (.int .i64 0) := (blk_cell an.out 0).trans rfl
          have hfs41 := blk_frozen an.out 0; have hns41_0 := aD.out; have hns41_1 := ax.out; have hms41_0 := a2.out; have hms41_1 := aV.out
          have hs42 : bY.cell? ⟨al, 1, none⟩ = some (.int .i64 0) := (blk_cell an.out 1).trans rfl
          have hfs42 := blk_frozen an.out 1; have hns42_0 := aD.out; have hns42_1 := ax.out; have hms42_0 := a2.out; have hms42_1 := aV.out
          have hs43 : bY.cell? ⟨al, 2, none⟩ = some (.slice none 0 0) := (blk_cell an.out 2).trans rfl
          have hfs43 := blk_frozen an.out 2; have hns43_0 := aD.out; have hns43_1 := ax.out; have hms43_0 := a2.out; have hms43_1 := aV.out
          refine skip_ (w1 := ?_) (by rfl) rfl ?_ ?_
          rotate_left
          ·go_simp
           rfl
          refine hK.out _ _ trivial (fun hHeld => ?_)
          clear hK K
          refine done_ (done_of HT_.out (by kernel_rfl)) ?_
          go_upto_region 13 with (fail)
          go_cut [68] (fun v68 wc => ∃ (kq : Nat) (bP : Bool) (aT : Int) (aU : Int), v68 = .bool bP ∧ Aside0 (spec_l05Loop.j2 kq (aj.length : Int) aQ aC bP am aT aU ah ap ad (Int.tmod (wrap64 (aQ + (wrap64 (aC * (wrap64 (1 + (wrap64 (Int.tdiv (aj.length : Int) 4)))))))) (aj.length : Int)) a1 = some (r1, r2, r3, r4, r5, r6)) ∧ Aside0 (kq ≤ k2) ∧ Aside0 (Kd.R (Kd.int .i64) 3 wc w.heap.size (fun _ => True) u294000 ah) ∧ Aside0 (Kd.S k69 69 wc w.heap.size (fun k_ => some k_ ≠ (u294000 : Value).ownBlock ∧ k_ ≠ al) u294002 ad) ∧ Aside0 (wc.heap[ao]? = some (.cells #[(.slice none 0 0), .int .i64 0, (.slice none 0 0), (.slice none 0 0)] 28 (0, 0))) ∧ Aside0 (wc.heap[ai]? = some (.cells #[u294000, .int .i64 ap, u294002, (.slice none 0 0)] 28 (0, 0))) ∧ Aside0 (wc.heap[al]? = some (.cells #[.int .i64 (Int.tmod (wrap64 (aQ + (wrap64 (aC * (wrap64 (1 + (wrap64 (Int.tdiv (aj.length : Int) 4)))))))) (aj.length : Int)), .int .i64 a1, (.slice none 0 0)] 69 (0, 0))) ∧ Aside0 (IsS90 w0 wc g am aT aU) ∧ Aside0 (KeepBut w wc g none) ∧ Aside0 (Below w0.heap.size w0 wc))
          case first =>
           have H := dM.out; clear dM
           by_cases d3 : a1 > 0
           ·rw [if_pos d3] at H
            have ei : decide (0 < a1) = true := decide_eq_true d3
            clear d3; replace H := Option.bind_eq_some_iff.mp H
            obtain ⟨⟨dN, dO, dP⟩, ej, H⟩ := H
            (try dsimp only at H)
            have A45 := zK ej; clear ej; have H' := zK H; clear H; have hnb46 := a2.out; have hnc46 := aD.out; have hnb47 := aV.out; have hnc47 := ax.out; have hnb48 := bf.out; have hnc48 := aB.out
            obtain ⟨hcz49_0, hcz49_1, hcz49_2⟩ := zL3 an
            obtain ⟨hfz49_0, hfz49_1, hfz49_2⟩ := zF3 an
            go_wp2_with (go_at_call 88; (with_reducible refine (spec_l01Once.calls g am bB bC 3 dN dO dP w0 _ ?side1 ?side2 A45.out).mono ?_); (case side1 => exact zi8 HI0); (case side2 => exact zj8 HB); rintro e w50 ⟨rfl, hi, hb, hk⟩; replace aa := zK (Kd.R_mono (Kd.R_keep (IsS90.apart (show IsS90 w0 _ g am bB bC from zi8 HI0) (by (with_reducible repeat (first | apply Kd.R_alloc | apply Kd.R_drewN | apply Kd.R_drew)); exact (Kd.R_mono (Kd.R_far (p := ⟨al, 2, none⟩) (Kd.R_far (p := ⟨al, 1, none⟩) (Kd.R_far (p := ⟨al, 0, none⟩) (Kd.R_types aa.out an.out (by decide)) (fun _ hk => hk.2) (.int .i64 (Int.tmod (wrap64 (aQ + (wrap64 (aC * (wrap64 (1 + (wrap64 (Int.tdiv (aj.length : Int) 4)))))))) (aj.length : Int)))) (fun _ hk => hk.2) (.int .i64 a1)) (fun _ hk => hk.2) (.slice none 0 0)) (fun _ h_ => h_.1))) (by decide)) hk (fun _ h => h.2)) (fun _ h => h.1)); replace ac := zK (Kd.S_mono (Kd.S_keep (IsS90.apartS (show IsS90 w0 _ g am bB bC from zi8 HI0) (by (with_reducible repeat (first | apply Kd.S_alloc | apply Kd.S_drewN | apply Kd.S_drew)); exact (Kd.S_mono (Kd.S_far (p := ⟨al, 2, none⟩) (Kd.S_far (p := ⟨al, 1, none⟩) (Kd.S_far (p := ⟨al, 0, none⟩) (Kd.S_mono ac.out (fun k_ hk => (⟨hk, hk.2⟩ : _ ∧ k_ ≠ al))) (fun _ hk => hk.2) (.int .i64 (Int.tmod (wrap64 (aQ + (wrap64 (aC * (wrap64 (1 + (wrap64 (Int.tdiv (aj.length : Int) 4)))))))) (aj.length : Int)))) (fun _ hk => hk.2) (.int .i64 a1)) (fun _ hk => hk.2) (.slice none 0 0)) (fun _ h_ => h_.1))) (by decide)) hk (fun _ h => h.2)) (fun _ h => h.1)); replace af := zK (KeepBut.blk hk (g' := ao) (o := .cells #[.slice none 0 0, .int .i64 0, .slice none 0 0, .slice none 0 0] 28 (0, 0)) (zh af aD) a6.out (by simp)); replace ab := zK (KeepBut.blk hk (g' := ai) (o := .cells #[u294000, .int .i64 ap, u294002, .slice none 0 0] 28 (0, 0)) (zh ab ax) aR.out (by simp)); replace an := zK (KeepBut.blk hk (g' := al) (o := .cells #[.int .i64 (Int.tmod (wrap64 (aQ + (wrap64 (aC * (wrap64 (1 + (wrap64 (Int.tdiv (aj.length : Int) 4)))))))) (aj.length : Int)), .int .i64 a1, .slice none 0 0] 69 (0, 0)) (by (with_reducible repeat (first | refine zN ?_ _ | refine zD ?_ | refine zA ?_ _)); refine blk_put (cs := #[.int .i64 (Int.tmod (wrap64 (aQ + (wrap64 (aC * (wrap64 (1 + (wrap64 (Int.tdiv (aj.length : Int) 4)))))))) (aj.length : Int)), .int .i64 a1, .slice none 0 0]) ?_ 2 _ rfl; (with_reducible repeat (first | refine zN ?_ _ | refine zD ?_ | refine zA ?_ _)); refine blk_put (cs := #[.int .i64 (Int.tmod (wrap64 (aQ + (wrap64 (aC * (wrap64 (1 + (wrap64 (Int.tdiv (aj.length : Int) 4)))))))) (aj.length : Int)), .int .i64 0, .slice none 0 0]) ?_ 1 _ rfl; (with_reducible repeat (first | refine zN ?_ _ | refine zD ?_ | refine zA ?_ _)); refine blk_put (cs := #[.int .i64 0, .int .i64 0, .slice none 0 0]) ?_ 0 _ rfl; (with_reducible repeat (first | refine zN ?_ _ | refine zD ?_ | refine zA ?_ _)); exact an.out) bf.out (by simp)); replace HK := zK (KeepBut.trans (by repeat (first | (with_reducible first | exact HK.out | apply KeepBut.set_ | apply keep_drewN | apply keep_drew | apply keep_alloc | refine keep_far ?_ au.out _ | refine keep_far ?_ ay.out _ | refine keep_far ?_ a7.out _) | exact HK.out)) hk (.inl rfl)); replace HB := zK (hb); replace HI0 := zK (hi); (try clear hb); (try clear hk); (try clear hi))
            go_meet
            case rel => exact ⟨_, (dN), (dO), (dP), zf, H', ⟨by have := bJ.out; have := bL.out; first | omega | exact Nat.le_refl _⟩, ⟨zR aa⟩, ⟨zT ac⟩, ⟨zk af⟩, ⟨zk ab⟩, ⟨zk an⟩, ⟨zi8 HI0⟩, ⟨zc8 HK⟩, ⟨zj8 HB⟩⟩
           ·rw [if_neg d3] at H
            have ei : decide (0 < a1) = false := decide_eq_false d3
            clear d3; have H' := zK H; clear H; have hnb51 := a2.out; have hnc51 := aD.out; have hnb52 := aV.out; have hnc52 := ax.out; have hnb53 := bf.out; have hnc53 := aB.out
            obtain ⟨hcz54_0, hcz54_1, hcz54_2⟩ := zL3 an
            obtain ⟨hfz54_0, hfz54_1, hfz54_2⟩ := zF3 an
            go_wp2
            go_meet
            case rel => exact ⟨_, (false), (bB), (bC), zf, H', ⟨by have := bJ.out; have := bL.out; first | omega | exact Nat.le_refl _⟩, ⟨by (with_reducible repeat (first | apply Kd.R_alloc | apply Kd.R_drewN | apply Kd.R_drew)); exact Kd.R_mono (Kd.R_far (p := ⟨al, 2, none⟩) (Kd.R_far (p := ⟨al, 1, none⟩) (Kd.R_far (p := ⟨al, 0, none⟩) (Kd.R_types aa.out an.out (by decide)) (fun _ hk => hk.2) (.int .i64 (Int.tmod (wrap64 (aQ + (wrap64 (aC * (wrap64 (1 + (wrap64 (Int.tdiv (aj.length : Int) 4)))))))) (aj.length : Int)))) (fun _ hk => hk.2) (.int .i64 a1)) (fun _ hk => hk.2) (.slice none 0 0)) (fun _ hk => trivial)⟩, ⟨by (with_reducible repeat (first | apply Kd.S_alloc | apply Kd.S_drewN | apply Kd.S_drew)); exact Kd.S_mono (Kd.S_far (p := ⟨al, 2, none⟩) (Kd.S_far (p := ⟨al, 1, none⟩) (Kd.S_far (p := ⟨al, 0, none⟩) (Kd.S_mono ac.out (fun k_ hk => (⟨hk, hk.2⟩ : _ ∧ k_ ≠ al))) (fun _ hk => hk.2) (.int .i64 (Int.tmod (wrap64 (aQ + (wrap64 (aC * (wrap64 (1 + (wrap64 (Int.tdiv (aj.length : Int) 4)))))))) (aj.length : Int)))) (fun _ hk => hk.2) (.int .i64 a1)) (fun _ hk => hk.2) (.slice none 0 0)) (fun _ hk => ⟨hk.1.1, hk.1.2⟩)⟩, ⟨zh af aD⟩, ⟨zh ab ax⟩, ⟨by (with_reducible repeat (first | refine zN ?_ _ | refine zD ?_ | refine zA ?_ _)); refine blk_put (cs := #[.int .i64 (Int.tmod (wrap64 (aQ + (wrap64 (aC * (wrap64 (1 + (wrap64 (Int.tdiv (aj.length : Int) 4)))))))) (aj.length : Int)), .int .i64 a1, .slice none 0 0]) ?_ 2 _ rfl; (with_reducible repeat (first | refine zN ?_ _ | refine zD ?_ | refine zA ?_ _)); refine blk_put (cs := #[.int .i64 (Int.tmod (wrap64 (aQ + (wrap64 (aC * (wrap64 (1 + (wrap64 (Int.tdiv (aj.length : Int) 4)))))))) (aj.length : Int)), .int .i64 0, .slice none 0 0]) ?_ 1 _ rfl; (with_reducible repeat (first | refine zN ?_ _ | refine zD ?_ | refine zA ?_ _)); refine blk_put (cs := #[.int .i64 0, .int .i64 0, .slice none 0 0]) ?_ 0 _ rfl; (with_reducible repeat (first | refine zN ?_ _ | refine zD ?_ | refine zA ?_ _)); exact an.out⟩, ⟨zi8 HI0⟩, ⟨zc8 HK⟩, ⟨zj8 HB⟩⟩
          case rest =>
           clear dM cw d2 ee ef eg
           obtain ⟨kq, bP, aT, aU, rfl, HA, bK, aa, ac, af, ab, an, HI0, HK, HB⟩ := hcut
           cases kq with
           | zero => exact absurd HA.out (by simp [spec_l05Loop.j2])
           | succ kj35 =>
            have H := HA.out; clear HA
            simp only [spec_l05Loop.j2] at H
            have dQ := zK H; clear H
            go_upto_if 68 with (fail)
            go_cut [] (fun wc => ∃ (kq : Nat) (aH : List Int) (u314002 : Value), Aside0 (spec_l05Loop.j3 kq (aj.length : Int) aQ aC am aT aU ah ap ad (Int.tmod (wrap64 (aQ + (wrap64 (aC * (wrap64 (1 + (wrap64 (Int.tdiv (aj.length : Int) 4)))))))) (aj.length : Int)) a1 aH = some (r1, r2, r3, r4, r5, r6)) ∧ Aside0 (kq ≤ kj35) ∧ Aside0 (Kd.R (Kd.int .i64) 3 wc w.heap.size (fun k_ => some k_ ≠ (u314002 : Value).ownBlock) u294000 ah) ∧ Aside0 (Kd.S k69 69 wc w.heap.size (fun k_ => some k_ ≠ (u294000 : Value).ownBlock ∧ some k_ ≠ (u314002 : Value).ownBlock ∧ k_ ≠ al) u294002 ad) ∧ Aside0 (Kd.R (Kd.int .i64) 3 wc w.heap.size (fun k_ => some k_ ≠ (u294000 : Value).ownBlock) u314002 aH) ∧ Aside0 (wc.heap[ao]? = some (.cells #[(.slice none 0 0), .int .i64 0, (.slice none 0 0), (.slice none 0 0)] 28 (0, 0))) ∧ Aside0 (wc.heap[ai]? = some (.cells #[u294000, .int .i64 ap, u294002, (.slice none 0 0)] 28 (0, 0))) ∧ Aside0 (wc.heap[al]? = some (.cells #[.int .i64 (Int.tmod (wrap64 (aQ + (wrap64 (aC * (wrap64 (1 + (wrap64 (Int.tdiv (aj.length : Int) 4)))))))) (aj.length : Int)), .int .i64 a1, u314002] 69 (0, 0))) ∧ Aside0 (IsS90 w0 wc g am aT aU) ∧ Aside0 (KeepBut w wc g none) ∧ Aside0 (Below w0.heap.size w0 wc))
            case first =>
             have H := dQ.out; clear dQ
             by_cases c56 : bP = true
             ·subst c56
              rw [if_pos rfl] at H
              obtain ⟨cl, cx⟩ : ∃ y_ : List Int, y_ = (([wrap64 (100 + aC)] : List Int)) := ⟨_, rfl⟩
              replace H : (spec_l05Loop.j3 kj35 (aj.length : Int) aQ aC am aT aU ah ap ad (Int.tmod (wrap64 (aQ + (wrap64 (aC * (wrap64 (1 + (wrap64 (Int.tdiv (aj.length : Int) 4)))))))) (aj.length : Int)) a1 cl) = some (r1, r2, r3, r4, r5, r6) := by rw [cx]; with_reducible exact H
              have Ny317 := zK cx; clear cx; have H' := zK H; clear H
              go_wp2_with ((with_reducible refine gate_dst (N := 71) rfl ?_); refine Kd.R_lit (Kd.int .i64) _ 3 ?hg (N := 71) ?hd (xs := ([wrap64 (100 + aC)] : List Int)) (inner := [.int .i64 (wrap64 (100 + aC))]) (ok := fun _ => True) (okp := fun _ => True) ?hr ?hp (fun _ hk => hk) trivial (Below.refl _ _) (Nat.le_refl _) (by simp) ?_; (case hd => rfl); (case hg => rfl); (case hr => first | (go_simp; done) | (go_simp; rfl)); (case hp => exact (Reps.one (show Kd.M (Kd.int .i64) _ _ _ (wrap64 (100 + aC)) [.int .i64 (wrap64 (100 + aC))] from rfl) (Reps.none _ _))); intro v318 w57 ho58 hb hg_ hnew_; clear hg_ hnew_; (first | rw [← Ny317.out] at ho58); replace ac := zK (Kd.S_elder' (zT ac) (Kd.R_base ho58) hb); have du := zK (Kd.R_lower (Kd.R_new' ho58 (Kd.R_lt (zR aa))) (keep_size (w := w) (g := g) (row := none) (zc8 HK))); replace aa := zK (Kd.R_elder' (zR aa) (Kd.R_base ho58) hb); replace af := zK (blk_below (g := ao) (o := .cells #[.slice none 0 0, .int .i64 0, .slice none 0 0, .slice none 0 0] 28 (0, 0)) (zk af) hb); replace ab := zK (blk_below (g := ai) (o := .cells #[u294000, .int .i64 ap, u294002, .slice none 0 0] 28 (0, 0)) (zk ab) hb); replace an := zK (blk_below (g := al) (o := .cells #[.int .i64 (Int.tmod (wrap64 (aQ + (wrap64 (aC * (wrap64 (1 + (wrap64 (Int.tdiv (aj.length : Int) 4)))))))) (aj.length : Int)), .int .i64 a1, .slice none 0 0] 69 (0, 0)) (zk an) hb); replace HI0 := zK (IsS90.below (zi8 HI0) hb); replace HK := zK (KeepBut.trans (by repeat (first | (with_reducible first | exact HK.out | apply KeepBut.set_ | apply keep_drewN | apply keep_drew | apply keep_alloc | refine keep_far ?_ au.out _ | refine keep_far ?_ ay.out _ | refine keep_far ?_ a7.out _) | exact HK.out)) (KeepBut.of_below hb g none) (.inl rfl)); replace HB := zK (below_step (zj8 HB) hb); clear hb ho58; obtain ⟨de, df, eo59⟩ := Kd.R_slice du.out; subst eo59; have hnb60 := a2.out; have hnc60 := aD.out; have hnb61 := aV.out; have hnc61 := ax.out; have hnb62 := bf.out; have hnc62 := aB.out; obtain ⟨hcz63_0, hcz63_1, hcz63_2⟩ := zL3 an; obtain ⟨hfz63_0, hfz63_1, hfz63_2⟩ := zF3 an)
              go_meet
              case rel => exact ⟨_, (cl), (.slice de cl.length df), H', ⟨by have := bJ.out; have := bL.out; have := bK.out; first | omega | exact Nat.le_refl _⟩, ⟨by (with_reducible repeat (first | apply Kd.R_alloc | apply Kd.R_drewN | apply Kd.R_drew)); exact Kd.R_mono (Kd.R_far (p := ⟨al, 2, none⟩) (Kd.R_types aa.out an.out (by decide)) (fun _ hk => hk.2) (.slice de cl.length df)) (fun _ hk => hk.1.2)⟩, ⟨by (with_reducible repeat (first | apply Kd.S_alloc | apply Kd.S_drewN | apply Kd.S_drew)); exact Kd.S_mono (Kd.S_far (p := ⟨al, 2, none⟩) (Kd.S_mono ac.out (fun k_ hk => (⟨hk, hk.1.2⟩ : _ ∧ k_ ≠ al))) (fun _ hk => hk.2) (.slice de cl.length df)) (fun _ hk => ⟨hk.1.1.1, ⟨hk.1.2, hk.1.1.2⟩⟩)⟩, ⟨by (with_reducible repeat (first | apply Kd.R_alloc | apply Kd.R_drewN | apply Kd.R_drew)); exact Kd.R_mono (Kd.R_far (p := ⟨al, 2, none⟩) (Kd.R_types du.out an.out (by decide)) (fun _ hk => hk.2) (.slice de cl.length df)) (fun _ hk => hk.1.2)⟩, ⟨zh af aD⟩, ⟨zh ab ax⟩, ⟨by (with_reducible repeat (first | refine zN ?_ _ | refine zD ?_ | refine zA ?_ _)); refine blk_put (cs := #[.int .i64 (Int.tmod (wrap64 (aQ + (wrap64 (aC * (wrap64 (1 + (wrap64 (Int.tdiv (aj.length : Int) 4)))))))) (aj.length : Int)), .int .i64 a1, .slice none 0 0]) ?_ 2 _ rfl; (with_reducible repeat (first | refine zN ?_ _ | refine zD ?_ | refine zA ?_ _)); exact an.out⟩, ⟨zi8 HI0⟩, ⟨zc8 HK⟩, ⟨zj8 HB⟩⟩
             ·replace c56 := Bool.eq_false_iff.mpr c56
              subst c56
              rw [if_neg (show ¬ (false = true) by decide)] at H; have H' := zK H; clear H
              go_wp2
              go_meet
              case rel => exact ⟨_, (([] : List Int)), (.slice none 0 0), H', ⟨by have := bJ.out; have := bL.out; have := bK.out; first | omega | exact Nat.le_refl _⟩, ⟨by (with_reducible repeat (first | apply Kd.R_alloc | apply Kd.R_drewN | apply Kd.R_drew)); exact Kd.R_mono aa.out (fun _ hk => (by simp [Value.ownBlock]))⟩, ⟨by (with_reducible repeat (first | apply Kd.S_alloc | apply Kd.S_drewN | apply Kd.S_drew)); exact Kd.S_mono ac.out (fun _ hk => ⟨hk.1, ⟨(by simp [Value.ownBlock]), hk.2⟩⟩)⟩, ⟨by first | exact Kd.R_nil _ _ _ _ _ | exact Kd.N_nil _ _ _ _ _ | exact Kd.V_nil _ _ _ _ _ | exact Kd.Q_nil _ _ _ _ _ | exact Kd.S_nil _ _ _ _ _⟩, ⟨zk af⟩, ⟨zk ab⟩, ⟨zk an⟩, ⟨zi8 HI0⟩, ⟨zc8 HK⟩, ⟨zj8 HB⟩⟩
            case rest =>
             clear dQ
             obtain ⟨kq, aH, u314002, HA, bZ, aa, ac, aN, af, ab, an, HI0, HK, HB⟩ := hcut
             cases kq with
             | zero => exact absurd HA.out (by simp [spec_l05Loop.j3])
             | succ kj54 =>
              have H := HA.out; clear HA
              simp only [spec_l05Loop.j3] at H
              have H' := zK H; clear H
              go_wp2
              go_loopg [9, 10] kj54 (fun kq v9 v10 w' => ∃ (cy : Bool) (aW : Int), v9 = .bool cy ∧ v10 = .int .i64 aW ∧ Aside0 (spec_l05Loop.l2 kq (aj.length : Int) aQ aC cy aW am aT aU ah ap ad (Int.tmod (wrap64 (aQ + (wrap64 (aC * (wrap64 (1 + (wrap64 (Int.tdiv (aj.length : Int) 4)))))))) (aj.length : Int)) a1 aH = some (r1, r2, r3, r4, r5, r6)) ∧ Aside0 (kq ≤ kj54) ∧ Aside0 (Kd.R (Kd.int .i64) 3 w' w.heap.size (fun k_ => some k_ ≠ (u314002 : Value).ownBlock) u294000 ah) ∧ Aside0 (Kd.S k69 69 w' w.heap.size (fun k_ => some k_ ≠ (u294000 : Value).ownBlock ∧ some k_ ≠ (u314002 : Value).ownBlock ∧ k_ ≠ al) u294002 ad) ∧ Aside0 (Kd.R (Kd.int .i64) 3 w' w.heap.size (fun k_ => some k_ ≠ (u294000 : Value).ownBlock) u314002 aH) ∧ Aside0 (w'.heap[ao]? = some (.cells #[(.slice none 0 0), .int .i64 0, (.slice none 0 0), (.slice none 0 0)] 28 (0, 0))) ∧ Aside0 (w'.heap[ai]? = some (.cells #[u294000, .int .i64 ap, u294002, (.slice none 0 0)] 28 (0, 0))) ∧ Aside0 (w'.heap[al]? = some (.cells #[.int .i64 (Int.tmod (wrap64 (aQ + (wrap64 (aC * (wrap64 (1 + (wrap64 (Int.tdiv (aj.length : Int) 4)))))))) (aj.length : Int)), .int .i64 a1, u314002] 69 (0, 0))) ∧ Aside0 (IsS90 w0 w' g am aT aU) ∧ Aside0 (KeepBut w w' g none) ∧ Aside0 (Below w0.heap.size w0 w'))
              case atStart => exact ⟨(false), (0), zf, zf, H', ⟨Nat.le_refl _⟩, ⟨zR aa⟩, ⟨zT ac⟩, ⟨zR aN⟩, ⟨zk af⟩, ⟨zk ab⟩, ⟨zk an⟩, ⟨zi8 HI0⟩, ⟨zc8 HK⟩, ⟨zj8 HB⟩⟩
              case round =>
               clear H'
               obtain ⟨cy, aW, rfl, rfl, HA, dv, aa, ac, aN, af, ab, an, HI0, HK, HB⟩ := hrel
               cases gk with
               | zero => exact absurd HA.out (by simp [spec_l05Loop.l2])
               | succ k5 =>
                have H := HA.out; clear HA
                simp only [spec_l05Loop.l2] at H
                by_cases d4 : aW < (ad.length : Int)
                ·rw [if_pos d4] at H
                 have ek : decide (aW < (ad.length : Int)) = true := decide_eq_true d4
                 clear d4
                 by_cases c65 : cy = true
                 ·subst c65
                  rw [if_pos rfl] at H; have H' := zK H; clear H; have hnb66 := a5.out; have hnc66 := aI.out; have hnb67 := ax.out; have hnc67 := aV.out; have hnb68 := aR.out; have hnc68 := ae.out
                  obtain ⟨hcz69_0, hcz69_1, hcz69_2, hcz69_3⟩ := zL4 ab
                  obtain ⟨hfz69_0, hfz69_1, hfz69_2, hfz69_3⟩ := zF4 ab
                  obtain ⟨Ao70, co70, eo70⟩ := Kd.S_slice ac.out
                  subst eo70
                  try go_wp2
                  replace aa := zK (Kd.R_drew aa.out); replace ac := zK (Kd.S_drew ac.out); replace aN := zK (Kd.R_drew aN.out); replace af := zK (zD af.out); replace ab := zK (zD ab.out); replace an := zK (zD an.out); replace HI0 := zK (IsS90.drew HI0.out); replace HK := zK (keep_drew HK.out); replace HB := zK (zE HB.out)
                  refine start_ (n := 13) (S := fun w' => True) (ds := []) (zv 13 0) (by kernel_rfl) rfl rfl trivial (fun hHeld => ?_); refine with_tabW spec_l05Loop.tab19 spec_l05Loop.bits19 (fun HT_ HW_ => ?_)
                  generalize wr.drew = w71 at aa ac aN af ab an HI0 HK HB hHeld ⊢
                  refine zu 0 (some 80) (zv 13 1) (any_of HT_.out (by kernel_rfl)) ?_
                  refine zu 1 (some 81) (zv 13 3) (any_of HT_.out (by kernel_rfl)) ?_
                  refine pure_ (i := 2) (N := some 82) (v := undef) (a' := ?_) (zv 13 7) rfl rfl (any_of HT_.out (by kernel_rfl)) (fun _ _ _ h => h) (Or.inr ⟨by rfl, rfl⟩) ?_ ?_
                  rotate_left
                  ·simp only [Act.put, zp, zq, zr, i64_w, i32_w]
                   rfl
                  refine pure_ (i := 3) (N := some 83) (v := undef) (a' := ?_) (zv 13 15) rfl rfl (any_of HT_.out (by kernel_rfl)) (fun _ _ _ h => h) (Or.inr ⟨by rfl, rfl⟩) ?_ ?_
                  rotate_left
                  ·simp only [Act.put, zp, zq, zr, i64_w, i32_w]
                   rfl
                  refine pure_ (i := 4) (N := some 84) (v := undef) (a' := ?_) (zv 13 31) rfl rfl (any_of HT_.out (by kernel_rfl)) (fun _ _ _ h => h) (Or.inr ⟨by rfl, rfl⟩) ?_ ?_
                  rotate_left
                  ·simp only [Act.put, zp, zq, zr, i64_w, i32_w]
                   rfl
                  refine pure_ (i := 5) (N := some 85) (v := undef) (a' := ?_) (zv 13 63) rfl rfl (any_of HT_.out (by kernel_rfl)) (fun _ _ _ h => h) (Or.inr ⟨by rfl, rfl⟩) ?_ ?_
                  rotate_left
                  ·simp only [Act.put, zp, zq, zr, i64_w, i32_w]
                   rfl
                  refine pure_ (i := 6) (N := some 86) (v := undef) (a' := ?_) (zv 13 127) rfl rfl (any_of HT_.out (by kernel_rfl)) (fun _ _ _ h => h) (Or.inr ⟨by rfl, rfl⟩) ?_ ?_
                  rotate_left
                  ·simp only [Act.put, zp, zq, zr, i64_w, i32_w]
                   rfl
                  refine pure_ (i := 7) (N := some 87) (v := undef) (a' := ?_) (zv 13 255) rfl rfl (any_of HT_.out (by kernel_rfl)) (fun _ _ _ h => h) (Or.inr ⟨by rfl, rfl⟩) ?_ ?_
                  rotate_left
                  ·simp only [Act.put, zp, zq, zr, i64_w, i32_w]
                   rfl
                  refine pure_ (i := 8) (N := some 88) (v := undef) (a' := ?_) (zv 13 511) rfl rfl (any_of HT_.out (by kernel_rfl)) (fun _ _ _ h => h) (Or.inr ⟨by rfl, rfl⟩) ?_ ?_
                  rotate_left
                  ·simp only [Act.put, zp, zq, zr, i64_w, i32_w]
                   rfl
                  refine pure_ (i := 9) (N := some 89) (v := undef) (a' := ?_) (zv 13 1023) rfl rfl (any_of HT_.out (by kernel_rfl)) (fun _ _ _ h => h) (Or.inr ⟨by rfl, rfl⟩) ?_ ?_
                  rotate_left
                  ·simp only [Act.put, zp, zq, zr, i64_w, i32_w]
                   rfl
                  refine pure_ (i := 10) (N := some 90) (v := undef) (a' := ?_) (zv 13 2047) rfl rfl (any_of HT_.out (by kernel_rfl)) (fun _ _ _ h => h) (Or.inr ⟨by rfl, rfl⟩) ?_ ?_
                  rotate_left
                  ·simp only [Act.put, zp, zq, zr, i64_w, i32_w]
                   rfl
                  refine zu 11 (some 91) (zv 13 4095) (any_of HT_.out (by kernel_rfl)) ?_
                  refine zu 12 (some 9) (zv 13 8191) (any_of HT_.out (by kernel_rfl)) ?_
                  refine done_ (done_of HT_.out (by kernel_rfl)) ?_
                  try go_wp2
                  go_roundg k5
                  case measure => have := bJ.out; have := bL.out; have := bK.out; have := bZ.out; have := dv.out; omega
                  case rel => exact ⟨(true), (wrap64 (aW + 1)), zf, zf, H', ⟨by have := bJ.out; have := bL.out; have := bK.out; have := bZ.out; have := dv.out; omega⟩, ⟨zR aa⟩, ⟨zT ac⟩, ⟨zR aN⟩, ⟨zk af⟩, ⟨zk ab⟩, ⟨zk an⟩, ⟨zi8 HI0⟩, ⟨zc8 HK⟩, ⟨zj8 HB⟩⟩
                 ·replace c65 := Bool.eq_false_iff.mpr c65
                  subst c65
                  rw [if_neg (show ¬ (false = true) by decide)] at H
                  by_cases c72 : 0 ≤ aW
                  ·rw [if_pos c72] at H
                   have c72b0 : decide (0 ≤ aW) = true := decide_eq_true c72
                   clear c72; have H' := zK H; clear H; have hnb73 := a5.out; have hnc73 := aI.out; have hnb74 := ax.out; have hnc74 := aV.out; have hnb75 := aR.out; have hnc75 := ae.out
                   obtain ⟨hcz76_0, hcz76_1, hcz76_2, hcz76_3⟩ := zL4 ab
                   obtain ⟨hfz76_0, hfz76_1, hfz76_2, hfz76_3⟩ := zF4 ab
                   obtain ⟨Ao77, co77, eo77⟩ := Kd.S_slice ac.out
                   subst eo77
                   try go_wp2
                   replace aa := zK (Kd.R_drew aa.out); replace ac := zK (Kd.S_drew ac.out); replace aN := zK (Kd.R_drew aN.out); replace af := zK (zD af.out); replace ab := zK (zD ab.out); replace an := zK (zD an.out); replace HI0 := zK (IsS90.drew HI0.out); replace HK := zK (keep_drew HK.out); replace HB := zK (zE HB.out)
                   have dg : 0 ≤ (aW : Int) := zd
                   have dh : aW < (ad.length : Int) := zd
                   obtain ⟨bM, dR, dS, e320, b8, b9, bQ, ca, cb⟩ := at_T69 (Kd.S_reads' ac.out).2.2 aW dg dh
                   cases e320
                   obtain ⟨ce320, dT, dU, cz⟩ := Kd.S_get ac.out z69 aW dg (by first | exact dh | exact zd | (have e_ := (Kd.S_reads' ac.out).1; omega))
                   obtain ⟨ve320_2, rfl, bR⟩ := k69_openM dU
                   have bw := cz 2 _ rfl
                   rw [add_field _ _ 2 (by omega)] at bw
                   replace bw := Option.some.inj (bw.symm.trans bQ)
                   rw [bw] at bR
                   have di := zK (show Kd.R (Kd.int .i64) 3 _ _ _ _ ((rd_T69 ad aW).f2) from bR)
                   clear bw bR cz dT; have dj := zK cb; have HC320_2 := zK ca; clear cb ca; replace dg := eq_true dg; replace dh := eq_true dh
                   refine start_ (n := 13) (S := fun w' => w'.cell? ⟨ai, 0, none⟩ = some (u294000) ∧ w'.cell? ⟨ai, 1, none⟩ = some (.int .i64 ap) ∧ w'.cell? ⟨ai, 2, none⟩ = some (.slice (some bM) ad.length co77) ∧ w'.cell? ⟨ai, 3, none⟩ = some (.slice none 0 0) ∧ w'.cell? ⟨al, 0, none⟩ = some (.int .i64 (Int.tmod (wrap64 (aQ + (wrap64 (aC * (wrap64 (1 + (wrap64 (Int.tdiv (aj.length : Int) 4)))))))) (aj.length : Int))) ∧ w'.cell? ⟨al, 1, none⟩ = some (.int .i64 a1) ∧ w'.cell? ⟨al, 2, none⟩ = some (u314002) ∧ w'.cell? (bM.add ((aW).toNat * 3)) = some (.int .i64 ((rd_T69 ad aW).f0)) ∧ w'.cell? ⟨(bM.add ((aW).toNat * 3)).block, (bM.add ((aW).toNat * 3)).off + 1, none⟩ = some (.int .i64 ((rd_T69 ad aW).f1)) ∧ w'.cell? ⟨(bM.add ((aW).toNat * 3)).block, (bM.add ((aW).toNat * 3)).off + 2, none⟩ = some (.slice dR ((rd_T69 ad aW).f2).length dS)) (ds := []) (zv 13 0) (by kernel_rfl) rfl rfl ⟨(blk_cell ab.out 0).trans rfl, (blk_cell ab.out 1).trans rfl, (blk_cell ab.out 2).trans rfl, (blk_cell ab.out 3).trans rfl, (blk_cell an.out 0).trans rfl, (blk_cell an.out 1).trans rfl, (blk_cell an.out 2).trans rfl, b8, b9, bQ⟩ (fun hHeld => ?_); refine with_tabW spec_l05Loop.tab19 spec_l05Loop.bits19 (fun HT_ HW_ => ?_)
                   generalize wr.drew = w78 at aa ac aN af ab an HI0 HK HB di dj b8 b9 bQ hHeld ⊢
                   refine zu 0 (some 80) (zv 13 1) (any_of HT_.out (by kernel_rfl)) ?_
                   refine zu 1 (some 81) (zv 13 3) (any_of HT_.out (by kernel_rfl)) ?_
                   refine zu 2 (some 82) (zv 13 7) (any_of HT_.out (by kernel_rfl)) ?_
                   refine zu 4 (some 84) (zv 13 23) (any_of HT_.out (by kernel_rfl)) ?_
                   refine zu 8 (some 88) (zv 13 279) (any_of HT_.out (by kernel_rfl)) ?_
                   refine zt 3 (some 83) (zv 13 287) (take_ofW HT_.out HW_.out (by kernel_rfl)) hHeld ?_
                   refine zu 5 (some 85) (zv 13 319) (any_of HT_.out (by kernel_rfl)) ?_
                   refine zu 6 (some 86) (zv 13 383) (any_of HT_.out (by kernel_rfl)) ?_
                   refine zt 7 (some 87) (zv 13 511) (take_ofW HT_.out HW_.out (by kernel_rfl)) hHeld ?_
                   refine zt 9 (some 89) (zv 13 1023) (take_ofW HT_.out HW_.out (by kernel_rfl)) hHeld ?_
                   refine zu 10 (some 90) (zv 13 2047) (any_of HT_.out (by kernel_rfl)) ?_
                   refine zu 11 (some 91) (zv 13 4095) (any_of HT_.out (by kernel_rfl)) ?_
                   refine zu 12 (some 9) (zv 13 8191) (any_of HT_.out (by kernel_rfl)) ?_
                   refine done_ (done_of HT_.out (by kernel_rfl)) ?_
                   try go_wp2
                   go_roundg k5
                   case measure => have := bJ.out; have := bL.out; have := bK.out; have := bZ.out; have := dv.out; omega
                   case rel => exact ⟨((((rd_T69 ad aW).f0) == (Int.tmod (wrap64 (aQ + (wrap64 (aC * (wrap64 (1 + (wrap64 (Int.tdiv (aj.length : Int) 4)))))))) (aj.length : Int)))), (wrap64 (aW + 1)), zf, zf, H', ⟨by have := bJ.out; have := bL.out; have := bK.out; have := bZ.out; have := dv.out; omega⟩, ⟨zR aa⟩, ⟨zT ac⟩, ⟨zR aN⟩, ⟨zk af⟩, ⟨zk ab⟩, ⟨zk an⟩, ⟨zi8 HI0⟩, ⟨zc8 HK⟩, ⟨zj8 HB⟩⟩
                  ·rw [if_neg c72] at H
                   exact absurd H (by simp)
                ·rw [if_neg d4] at H
                 have ek : decide (aW < (ad.length : Int)) = false := decide_eq_false d4
                 clear d4
                 by_cases c79 : cy = true
                 ·subst c79
                  rw [if_pos rfl] at H; have H' := zK H; clear H; have hnb80 := a5.out; have hnc80 := aI.out; have hnb81 := ax.out; have hnc81 := aV.out; have hnb82 := aR.out; have hnc82 := ae.out
                  obtain ⟨hcz83_0, hcz83_1, hcz83_2, hcz83_3⟩ := zL4 ab
                  obtain ⟨hfz83_0, hfz83_1, hfz83_2, hfz83_3⟩ := zF4 ab
                  obtain ⟨Ao84, co84, eo84⟩ := Kd.S_slice ac.out
                  subst eo84
                  go_wp2
                  go_roundg k5
                  case measure => have := bJ.out; have := bL.out; have := bK.out; have := bZ.out; have := dv.out; omega
                  case rel => exact ⟨(wrap64 (aC - 1)), (aT), (aU), (ad), (.slice Ao84 ad.length co84), zf, H', ⟨by have := bJ.out; have := bL.out; have := bK.out; have := bZ.out; have := dv.out; omega⟩, ⟨by (with_reducible repeat (first | apply Kd.R_alloc | apply Kd.R_drewN | apply Kd.R_drew)); exact Kd.R_mono aa.out (fun _ hk => trivial)⟩, ⟨by (with_reducible repeat (first | apply Kd.S_alloc | apply Kd.S_drewN | apply Kd.S_drew)); exact Kd.S_mono ac.out (fun _ hk => hk.1)⟩, ⟨zk af⟩, ⟨zk ab⟩, ⟨zi8 HI0⟩, ⟨zc8 HK⟩, ⟨zj8 HB⟩⟩
                 ·replace c79 := Bool.eq_false_iff.mpr c79
                  subst c79
                  rw [if_neg (show ¬ (false = true) by decide)] at H
                  by_cases c85 : ad.length < 3518437208883
                  ·rw [if_pos c85] at H
                   have el := zK c85; clear c85
                   obtain ⟨cA, cB⟩ : ∃ y_ : List (S69), y_ = (ad ++ [(⟨(Int.tmod (wrap64 (aQ + (wrap64 (aC * (wrap64 (1 + (wrap64 (Int.tdiv (aj.length : Int) 4)))))))) (aj.length : Int)), a1, aH⟩ : S69)]) := ⟨_, rfl⟩
                   replace H : (spec_l05Loop.l1 k5 (aj.length : Int) aQ (wrap64 (aC - 1)) am aT aU ah ap cA) = some (r1, r2, r3, r4, r5, r6) := by rw [cB]; with_reducible exact H
                   have Ny321 := zK cB; clear cB; have H' := zK H; clear H; have hnb86 := a5.out; have hnc86 := aI.out; have hnb87 := ax.out; have hnc87 := aV.out; have hnb88 := aR.out; have hnc88 := ae.out
                   obtain ⟨hcz89_0, hcz89_1, hcz89_2, hcz89_3⟩ := zL4 ab
                   obtain ⟨hfz89_0, hfz89_1, hfz89_2, hfz89_3⟩ := zF4 ab
                   obtain ⟨cm, cn, eo90⟩ := Kd.S_slice ac.out
                   subst eo90; have hnb91 := a2.out; have hnc91 := aD.out; have hnb92 := bf.out; have hnc92 := aB.out
                   obtain ⟨hcz93_0, hcz93_1, hcz93_2⟩ := zL3 an
                   obtain ⟨hfz93_0, hfz93_1, hfz93_2⟩ := zF3 an
                   obtain ⟨dk, dl, eo95⟩ := Kd.R_slice aN.out
                   subst eo95
                   go_wp2_with ((with_reducible refine gate_builtin (b := .append) (xs := #[.tmp 95, .tmp 97]) rfl ?_); at_builtin; refine Kd.S_append k69 w.heap.size rfl (.tmp 95) (.tmp 97) 25 69 (.agg #[(.int .i64 0), (.int .i64 0), (.slice none 0 0)]) 40 rfl Try.underlying25 info69 rfl (by decide) (by omega) (.slice cm ad.length cn) ad (⟨(Int.tmod (wrap64 (aQ + (wrap64 (aC * (wrap64 (1 + (wrap64 (Int.tdiv (aj.length : Int) 4)))))))) (aj.length : Int)), a1, aH⟩ : S69) [.int .i64 (Int.tmod (wrap64 (aQ + (wrap64 (aC * (wrap64 (1 + (wrap64 (Int.tdiv (aj.length : Int) 4)))))))) (aj.length : Int)), .int .i64 a1, .slice dk aH.length dl] (fun k_ => some k_ ≠ (u294000 : Value).ownBlock ∧ k_ ≠ al) (fun k_ => some k_ = (.slice dk aH.length dl : Value).ownBlock) rfl rfl ?aP (fun k_ hk_ => ((Kd.R_mono (ok' := fun k_ => ((fun k_ => some k_ ≠ (u294000 : Value).ownBlock ∧ k_ ≠ al)) k_ ∧ some k_ ≠ (.slice cm ad.length cn : Value).ownBlock) (Kd.R_types (Kd.R_apart' (aN.out) (Kd.S_typed ac.out) (by decide)) an.out (by decide)) (fun k_ hk => ⟨⟨hk.1.1, hk.2⟩, hk.1.2⟩))).1 k_ hk_.symm) ?aF ?aO (Below.refl _ _) ?aS ?aL ?_; (case aP => exact k69_mkM _ _ _ (⟨(Int.tmod (wrap64 (aQ + (wrap64 (aC * (wrap64 (1 + (wrap64 (Int.tdiv (aj.length : Int) 4)))))))) (aj.length : Int)), a1, aH⟩ : S69) (Kd.R_mono (Kd.R_tight rfl (Kd.R_mono (ok' := fun k_ => ((fun k_ => some k_ ≠ (u294000 : Value).ownBlock ∧ k_ ≠ al)) k_ ∧ some k_ ≠ (.slice cm ad.length cn : Value).ownBlock) (Kd.R_types (Kd.R_apart' (aN.out) (Kd.S_typed ac.out) (by decide)) an.out (by decide)) (fun k_ hk => ⟨⟨hk.1.1, hk.2⟩, hk.1.2⟩))) (fun _ h_ => h_))); (case aF => exact (fun k_ hk => ⟨Kd.fresh' (Kd.R_lt (zR aa)) k_ hk, Kd.freshB (g := al) (o := .cells #[.int .i64 (Int.tmod (wrap64 (aQ + (wrap64 (aC * (wrap64 (1 + (wrap64 (Int.tdiv (aj.length : Int) 4)))))))) (aj.length : Int)), .int .i64 a1, .slice dk aH.length dl] 69 (0, 0)) (zk an) k_ hk⟩)); (case aO => exact (by (with_reducible repeat (first | apply Kd.S_alloc | apply Kd.S_drewN | apply Kd.S_drew)); exact Kd.S_mono ac.out (fun k_ hk => ⟨⟨hk.1, hk.2.2⟩, fun e_ => hk.2.1 e_⟩))); (case aS => exact (keep_size (w := w) (g := g) (row := none) (zc8 HK))); (case aL => have := el.out; omega); intro v322 w94 ho hb hg hat; rw [← Ny321.out] at ho; replace aa := zK (Kd.R_over' (zR aa) (Kd.S_typed (zT ac)) (by decide) hg); replace af := zK (blk_grown (g := ao) (o := .cells #[.slice none 0 0, .int .i64 0, .slice none 0 0, .slice none 0 0] 28 (0, 0)) (zk af) hg (Kd.S_ne ac.out af.out (by decide))); replace ab := zK (blk_grown (g := ai) (o := .cells #[u294000, .int .i64 ap, .slice cm ad.length cn, .slice none 0 0] 28 (0, 0)) (zk ab) hg (Kd.S_ne ac.out ab.out (by decide))); replace an := zK (blk_grown (g := al) (o := .cells #[.int .i64 (Int.tmod (wrap64 (aQ + (wrap64 (aC * (wrap64 (1 + (wrap64 (Int.tdiv (aj.length : Int) 4)))))))) (aj.length : Int)), .int .i64 a1, .slice dk aH.length dl] 69 (0, 0)) (zk an) hg (Kd.S_away ac.out (fun _ hk => hk.2.2))); replace HI0 := zK (IsS90.grown (zi8 HI0) hg (IsS90.own_neS HI0.out ac.out (by decide))); replace HB := zK (below_weaken (zj8 HB) HL.out hb); replace HK := zK (KeepBut.trans (by repeat (first | (with_reducible first | exact HK.out | apply KeepBut.set_ | apply keep_drewN | apply keep_drew | apply keep_alloc | refine keep_far ?_ au.out _ | refine keep_far ?_ ay.out _ | refine keep_far ?_ a7.out _) | exact HK.out)) (KeepBut.of_grown hg g) (Kd.S_base2 ac.out)); have dw := zK (ho); clear ac aN; clear ho hb hg hat; obtain ⟨dV, dW, eo96⟩ := Kd.S_slice dw.out; subst eo96; obtain ⟨hcz97_0, hcz97_1, hcz97_2, hcz97_3⟩ := zL4 ab; obtain ⟨hfz97_0, hfz97_1, hfz97_2, hfz97_3⟩ := zF4 ab)
                   go_roundg k5
                   case measure => have := bJ.out; have := bL.out; have := bK.out; have := bZ.out; have := dv.out; omega
                   case rel => exact ⟨(wrap64 (aC - 1)), (aT), (aU), (cA), (.slice dV cA.length dW), zf, H', ⟨by have := bJ.out; have := bL.out; have := bK.out; have := bZ.out; have := dv.out; omega⟩, ⟨by (with_reducible repeat (first | apply Kd.R_alloc | apply Kd.R_drewN | apply Kd.R_drew)); exact Kd.R_mono (Kd.R_far (p := ⟨ai, 2, none⟩) (Kd.R_types aa.out ab.out (by decide)) (fun _ hk => hk.2) (.slice dV cA.length dW)) (fun _ hk => trivial)⟩, ⟨by (with_reducible repeat (first | apply Kd.S_alloc | apply Kd.S_drewN | apply Kd.S_drew)); exact Kd.S_mono (Kd.S_far (p := ⟨ai, 2, none⟩) (Kd.S_types dw.out ab.out (by decide)) (fun _ hk => hk.2) (.slice dV cA.length dW)) (fun _ hk => hk.1.1)⟩, ⟨zh af aI⟩, ⟨by (with_reducible repeat (first | refine zN ?_ _ | refine zD ?_ | refine zA ?_ _)); refine blk_put (cs := #[u294000, .int .i64 ap, .slice cm ad.length cn, .slice none 0 0]) ?_ 2 _ rfl; (with_reducible repeat (first | refine zN ?_ _ | refine zD ?_ | refine zA ?_ _)); exact ab.out⟩, ⟨zi8 HI0⟩, ⟨zc8 HK⟩, ⟨zj8 HB⟩⟩
                  ·rw [if_neg c85] at H
                   exact absurd H (by simp)
        ·rw [if_neg d1] at H
         have cw : decide (0 < aC) = false := decide_eq_false d1
         clear d1; have H' := zK H; clear H
         go_wp2
         go_loopg [11] k2 (fun kq v11 w' => ∃ (az : Int) (bq : Int) (br : Int) (aq : List (S74)) (u294003 : Value), v11 = .int .i64 az ∧ Aside0 (spec_l05Loop.l3 kq az am bq br ah ap ad aq = some (r1, r2, r3, r4, r5, r6)) ∧ Aside0 (kq ≤ k2) ∧ Aside0 (Kd.R (Kd.int .i64) 3 w' w.heap.size (fun _ => True) u294000 ah) ∧ Aside0 (Kd.S k69 69 w' w.heap.size (fun k_ => some k_ ≠ (u294000 : Value).ownBlock) u294002 ad) ∧ Aside0 (Kd.S k74 74 w' w.heap.size (fun k_ => some k_ ≠ (u294000 : Value).ownBlock) u294003 aq) ∧ Aside0 (w'.heap[ao]? = some (.cells #[(.slice none 0 0), .int .i64 0, (.slice none 0 0), (.slice none 0 0)] 28 (0, 0))) ∧ Aside0 (w'.heap[ai]? = some (.cells #[u294000, .int .i64 ap, u294002, u294003] 28 (0, 0))) ∧ Aside0 (IsS90 w0 w' g am bq br) ∧ Aside0 (KeepBut w w' g none) ∧ Aside0 (Below w0.heap.size w0 w'))
         case atStart => exact ⟨(1), (a8), (a9), (([] : List (S74))), (.slice none 0 0), zf, H', ⟨Nat.le_refl _⟩, ⟨zR aa⟩, ⟨zT ac⟩, ⟨by first | exact Kd.S_nil _ _ _ _ _ | exact Kd.N_nil _ _ _ _ _ | exact Kd.V_nil _ _ _ _ _ | exact Kd.Q_nil _ _ _ _ _ | exact Kd.R_nil _ _ _ _ _⟩, ⟨zk af⟩, ⟨zk ab⟩, ⟨zi8 HI0⟩, ⟨zc8 HK⟩, ⟨zj8 HB⟩⟩
         case round =>
          clear H' cw
          obtain ⟨az, bq, br, aq, u294003, rfl, HA, dx, aa, ac, ak, af, ab, HI0, HK, HB⟩ := hrel
          cases gk with
          | zero => exact absurd HA.out (by simp [spec_l05Loop.l3])
          | succ k3 =>
           have H := HA.out; clear HA
           simp only [spec_l05Loop.l3] at H
           by_cases d5 : az < 8
           ·rw [if_pos d5] at H
            have dy : decide (az < 8) = true := decide_eq_true d5
            clear d5; have H' := zK H; clear H
            go_wp2_with ((with_reducible refine gate_dst (N := 12) rfl ?_); refine zX 12 #[.int .i64 0, .slice none 0 0] 74 ?_; intro aG hg w99 hbox hb; replace aa := zK (Kd.R_below (zR aa) hb); replace ac := zK (Kd.S_below (zT ac) hb); replace ak := zK (Kd.S_below (Kd.S_elderB (zT ak) aG (Nat.le_of_eq hg.symm)) hb); replace HB := zK (below_step (zj8 HB) hb); have aA := zK (hbox); have bj := zK ((by rw [hg]; exact (keep_size (w := w) (g := g) (row := none) (zc8 HK)) : w.heap.size ≤ aG)); have bp := zK ((Nat.le_trans HW0.out (by rw [hg]; exact (keep_size (w := w) (g := g) (row := none) (zc8 HK)) : w.heap.size ≤ aG) : w0.heap.size ≤ aG)); replace HK := zK (KeepBut.trans (by repeat (first | (with_reducible first | exact HK.out | apply KeepBut.set_ | apply keep_drewN | apply keep_drew | apply keep_alloc | refine keep_far ?_ au.out _ | refine keep_far ?_ ay.out _) | exact HK.out)) (KeepBut.of_below hb g none) (.inl rfl)); have bh := zK ((by rw [hg]; exact Nat.ne_of_lt (blk_lt (g := ao) (o := .cells #[.slice none 0 0, .int .i64 0, .slice none 0 0, .slice none 0 0] 28 (0, 0)) (zk af)) : ao ≠ aG)); have bz := zK ((by rw [hg]; exact Nat.ne_of_gt (blk_lt (g := ao) (o := .cells #[.slice none 0 0, .int .i64 0, .slice none 0 0, .slice none 0 0] 28 (0, 0)) (zk af)) : aG ≠ ao)); replace af := zK (blk_below (g := ao) (o := .cells #[.slice none 0 0, .int .i64 0, .slice none 0 0, .slice none 0 0] 28 (0, 0)) (zk af) hb); have ba := zK ((by rw [hg]; exact Nat.ne_of_lt (blk_lt (g := ai) (o := .cells #[u294000, .int .i64 ap, u294002, u294003] 28 (0, 0)) (zk ab)) : ai ≠ aG)); have bk := zK ((by rw [hg]; exact Nat.ne_of_gt (blk_lt (g := ai) (o := .cells #[u294000, .int .i64 ap, u294002, u294003] 28 (0, 0)) (zk ab)) : aG ≠ ai)); replace ab := zK (blk_below (g := ai) (o := .cells #[u294000, .int .i64 ap, u294002, u294003] 28 (0, 0)) (zk ab) hb); have aw := zK ((by rw [hg]; exact Nat.ne_of_lt (IsS90.lt (show IsS90 w0 _ g am bq br from zi8 HI0)) : g ≠ aG)); have bn := zK ((by rw [hg]; exact Nat.ne_of_gt (IsS90.lt (show IsS90 w0 _ g am bq br from zi8 HI0)) : aG ≠ g)); replace HI0 := zK (IsS90.below (zi8 HI0) hb); clear hb hbox hg; have hnb100 := bz.out; have hnc100 := bh.out; have hnb101 := bk.out; have hnc101 := ba.out; have hnb102 := bn.out; have hnc102 := aw.out; obtain ⟨cC, cD⟩ := zL2 aA; obtain ⟨cE, cF⟩ := zF2 aA)
            go_loopg [13] k3 (fun kq v13 w' => ∃ (bd : Int) (aK : Int) (aM : Int) (av : List Int) (u325001 : Value), v13 = .int .i64 bd ∧ Aside0 (spec_l05Loop.l4 kq az bd am aK aM ah ap ad aq az av = some (r1, r2, r3, r4, r5, r6)) ∧ Aside0 (kq ≤ k3) ∧ Aside0 (Kd.R (Kd.int .i64) 3 w' w.heap.size (fun k_ => some k_ ≠ (u325001 : Value).ownBlock) u294000 ah) ∧ Aside0 (Kd.S k69 69 w' w.heap.size (fun k_ => some k_ ≠ (u294000 : Value).ownBlock ∧ some k_ ≠ (u325001 : Value).ownBlock) u294002 ad) ∧ Aside0 (Kd.S k74 74 w' w.heap.size (fun k_ => some k_ ≠ (u294000 : Value).ownBlock ∧ some k_ ≠ (u325001 : Value).ownBlock ∧ k_ ≠ aG) u294003 aq) ∧ Aside0 (Kd.R (Kd.int .i64) 3 w' w.heap.size (fun k_ => some k_ ≠ (u294000 : Value).ownBlock) u325001 av) ∧ Aside0 (w'.heap[ao]? = some (.cells #[(.slice none 0 0), .int .i64 0, (.slice none 0 0), (.slice none 0 0)] 28 (0, 0))) ∧ Aside0 (w'.heap[ai]? = some (.cells #[u294000, .int .i64 ap, u294002, u294003] 28 (0, 0))) ∧ Aside0 (w'.heap[aG]? = some (.cells #[.int .i64 az, u325001] 74 (0, 0))) ∧ Aside0 (IsS90 w0 w' g am aK aM) ∧ Aside0 (KeepBut w w' g none) ∧ Aside0 (Below w0.heap.size w0 w'))
            case atStart => exact ⟨(0), (bq), (br), (([] : List Int)), (.slice none 0 0), zf, H', ⟨Nat.le_refl _⟩, ⟨by (with_reducible repeat (first | apply Kd.R_alloc | apply Kd.R_drewN | apply Kd.R_drew)); exact Kd.R_mono (Kd.R_far (p := ⟨aG, 1, none⟩) (Kd.R_far (p := ⟨aG, 0, none⟩) (Kd.R_types aa.out aA.out (by decide)) (fun _ hk => hk.2) (.int .i64 az)) (fun _ hk => hk.2) (.slice none 0 0)) (fun _ hk => (by simp [Value.ownBlock]))⟩, ⟨by (with_reducible repeat (first | apply Kd.S_alloc | apply Kd.S_drewN | apply Kd.S_drew)); exact Kd.S_mono (Kd.S_far (p := ⟨aG, 1, none⟩) (Kd.S_far (p := ⟨aG, 0, none⟩) (Kd.S_types ac.out aA.out (by decide)) (fun _ hk => hk.2) (.int .i64 az)) (fun _ hk => hk.2) (.slice none 0 0)) (fun _ hk => ⟨hk.1, (by simp [Value.ownBlock])⟩)⟩, ⟨by (with_reducible repeat (first | apply Kd.S_alloc | apply Kd.S_drewN | apply Kd.S_drew)); exact Kd.S_mono (Kd.S_far (p := ⟨aG, 1, none⟩) (Kd.S_far (p := ⟨aG, 0, none⟩) (Kd.S_mono ak.out (fun k_ hk => (⟨hk, hk.2⟩ : _ ∧ k_ ≠ aG))) (fun _ hk => hk.2) (.int .i64 az)) (fun _ hk => hk.2) (.slice none 0 0)) (fun _ hk => ⟨hk.1.1, ⟨(by simp [Value.ownBlock]), hk.1.2⟩⟩)⟩, ⟨by first | exact Kd.R_nil _ _ _ _ _ | exact Kd.N_nil _ _ _ _ _ | exact Kd.V_nil _ _ _ _ _ | exact Kd.Q_nil _ _ _ _ _ | exact Kd.S_nil _ _ _ _ _⟩, ⟨zh af bh⟩, ⟨zh ab ba⟩, ⟨by (with_reducible repeat (first | refine zN ?_ _ | refine zD ?_ | refine zA ?_ _)); refine blk_put (cs := #[.int .i64 az, .slice none 0 0]) ?_ 1 _ rfl; (with_reducible repeat (first | refine zN ?_ _ | refine zD ?_ | refine zA ?_ _)); refine blk_put (cs := #[.int .i64 0, .slice none 0 0]) ?_ 0 _ rfl; (with_reducible repeat (first | refine zN ?_ _ | refine zD ?_ | refine zA ?_ _)); exact aA.out⟩, ⟨zi8 HI0⟩, ⟨zc8 HK⟩, ⟨zj8 HB⟩⟩
            case round =>
             clear H' dy cC cD cE cF
             obtain ⟨bd, aK, aM, av, u325001, rfl, HA, dz, aa, ac, ak, ar, af, ab, aA, HI0, HK, HB⟩ := hrel
             cases gk with
             | zero => exact absurd HA.out (by simp [spec_l05Loop.l4])
             | succ k4 =>
              have H := HA.out; clear HA
              simp only [spec_l05Loop.l4] at H
              by_cases co : bd < (ad.length : Int)
              ·rw [if_pos co] at H
               have dX : decide (bd < (ad.length : Int)) = true := decide_eq_true co
               clear co; replace H := Option.bind_eq_some_iff.mp H
               obtain ⟨⟨en, bS, bT⟩, dA, H⟩ := H
               (try dsimp only at H)
               have eo := zK dA; clear dA
               by_cases dm : en = true
               ·subst dm
                rw [if_pos rfl] at H; have H' := zK H; clear H; have hnb107 := a5.out; have hnc107 := aI.out; have hnb108 := ba.out; have hnc108 := bk.out; have hnb109 := aR.out; have hnc109 := ae.out
                obtain ⟨ep, er, es, et⟩ := zL4 ab
                obtain ⟨eu, ew, ex, ey⟩ := zF4 ab
                obtain ⟨ez, eA, eB⟩ := Kd.S_slice ac.out
                subst eB
                go_wp2_with ((with_reducible refine gate_callee (f := 88) rfl ?_); refine goesL_ (some 114) rfl rfl Try.func88 (by kernel_rfl) rfl #[.pointer (some ⟨g, 0, none⟩), .int .i64 3] rfl zg ?_; (with_reducible refine (spec_l01Once.calls g am aK aM 3 true bS bT w0 _ ?side1 ?side2 eo.out).mono ?_); (case side1 => exact zi8 HI0); (case side2 => exact zj8 HB); rintro e w112 ⟨rfl, hi, hb, hk⟩; refine ⟨_, rfl, ?_⟩; replace aa := zK (Kd.R_mono (Kd.R_keep (IsS90.apart (show IsS90 w0 _ g am aK aM from zi8 HI0) (zR aa) (by decide)) hk (fun _ h => h.2)) (fun _ h => h.1)); replace ac := zK (Kd.S_mono (Kd.S_keep (IsS90.apartS (show IsS90 w0 _ g am aK aM from zi8 HI0) (zT ac) (by decide)) hk (fun _ h => h.2)) (fun _ h => h.1)); replace ak := zK (Kd.S_mono (Kd.S_keep (IsS90.apartS (show IsS90 w0 _ g am aK aM from zi8 HI0) (zT ak) (by decide)) hk (fun _ h => h.2)) (fun _ h => h.1)); replace ar := zK (Kd.R_mono (Kd.R_keep (IsS90.apart (show IsS90 w0 _ g am aK aM from zi8 HI0) (zR ar) (by decide)) hk (fun _ h => h.2)) (fun _ h => h.1)); replace af := zK (KeepBut.blk hk (g' := ao) (o := .cells #[.slice none 0 0, .int .i64 0, .slice none 0 0, .slice none 0 0] 28 (0, 0)) (zk af) a6.out (by simp)); replace ab := zK (KeepBut.blk hk (g' := ai) (o := .cells #[u294000, .int .i64 ap, .slice ez ad.length eA, u294003] 28 (0, 0)) (zk ab) aR.out (by simp)); replace aA := zK (KeepBut.blk hk (g' := aG) (o := .cells #[.int .i64 az, u325001] 74 (0, 0)) (zk aA) bn.out (by simp)); replace HK := zK (KeepBut.trans (by repeat (first | (with_reducible first | exact HK.out | apply KeepBut.set_ | apply keep_drewN | apply keep_drew | apply keep_alloc | refine keep_far ?_ au.out _ | refine keep_far ?_ ay.out _ | refine keep_far ?_ bj.out _) | exact HK.out)) hk (.inl rfl)); replace HB := zK (hb); replace HI0 := zK (hi); (try clear hb); (try clear hk); (try clear hi))
                go_roundg k4
                case measure => have := bJ.out; have := bL.out; have := dx.out; have := dz.out; omega
                case rel => exact ⟨(wrap64 (bd + 1)), (bS), (bT), (av), (u325001), zf, H', ⟨by have := bJ.out; have := bL.out; have := dx.out; have := dz.out; omega⟩, ⟨zR aa⟩, ⟨zT ac⟩, ⟨zT ak⟩, ⟨zR ar⟩, ⟨zk af⟩, ⟨zk ab⟩, ⟨zk aA⟩, ⟨zi8 HI0⟩, ⟨zc8 HK⟩, ⟨zj8 HB⟩⟩
               ·replace dm := Bool.eq_false_iff.mpr dm
                subst dm
                rw [if_neg (show ¬ (false = true) by decide)] at H
                by_cases dn : av.length < 17592186044416
                ·rw [if_pos dn] at H
                 have dY := zK dn; clear dn
                 obtain ⟨b6, cG⟩ : ∃ y_ : List Int, y_ = (av ++ [bd]) := ⟨_, rfl⟩
                 replace H : (spec_l05Loop.l4 k4 az (wrap64 (bd + 1)) am bS bT ah ap ad aq az b6) = some (r1, r2, r3, r4, r5, r6) := by rw [cG]; with_reducible exact H
                 have Ny328 := zK cG; clear cG; have H' := zK H; clear H; have hnb114 := a5.out; have hnc114 := aI.out; have hnb115 := ba.out; have hnc115 := bk.out; have hnb116 := aR.out; have hnc116 := ae.out
                 obtain ⟨eC, eD, eE, eF⟩ := zL4 ab
                 obtain ⟨eG, eH, eI, eJ⟩ := zF4 ab
                 obtain ⟨dB, dC, eK⟩ := Kd.S_slice ac.out
                 subst eK
                 go_wp2_with (first | ((with_reducible refine gate_callee (f := 88) rfl ?_); refine goesL_ (some 114) rfl rfl Try.func88 (by kernel_rfl) rfl #[.pointer (some ⟨g, 0, none⟩), .int .i64 3] rfl zg ?_; (with_reducible refine (spec_l01Once.calls g am aK aM 3 false bS bT w0 _ ?side1 ?side2 eo.out).mono ?_); (case side1 => exact zi8 HI0); (case side2 => exact zj8 HB); rintro e eL ⟨rfl, hi, hb, hk⟩; refine ⟨_, rfl, ?_⟩; replace aa := zK (Kd.R_mono (Kd.R_keep (IsS90.apart (show IsS90 w0 _ g am aK aM from zi8 HI0) (zR aa) (by decide)) hk (fun _ h => h.2)) (fun _ h => h.1)); replace ac := zK (Kd.S_mono (Kd.S_keep (IsS90.apartS (show IsS90 w0 _ g am aK aM from zi8 HI0) (zT ac) (by decide)) hk (fun _ h => h.2)) (fun _ h => h.1)); replace ak := zK (Kd.S_mono (Kd.S_keep (IsS90.apartS (show IsS90 w0 _ g am aK aM from zi8 HI0) (zT ak) (by decide)) hk (fun _ h => h.2)) (fun _ h => h.1)); replace ar := zK (Kd.R_mono (Kd.R_keep (IsS90.apart (show IsS90 w0 _ g am aK aM from zi8 HI0) (zR ar) (by decide)) hk (fun _ h => h.2)) (fun _ h => h.1)); replace af := zK (KeepBut.blk hk (g' := ao) (o := .cells #[.slice none 0 0, .int .i64 0, .slice none 0 0, .slice none 0 0] 28 (0, 0)) (zk af) a6.out (by simp)); replace ab := zK (KeepBut.blk hk (g' := ai) (o := .cells #[u294000, .int .i64 ap, .slice dB ad.length dC, u294003] 28 (0, 0)) (zk ab) aR.out (by simp)); replace aA := zK (KeepBut.blk hk (g' := aG) (o := .cells #[.int .i64 az, u325001] 74 (0, 0)) (zk aA) bn.out (by simp)); replace HK := zK (KeepBut.trans (by repeat (first | (with_reducible first | exact HK.out | apply KeepBut.set_ | apply keep_drewN | apply keep_drew | apply keep_alloc | refine keep_far ?_ au.out _ | refine keep_far ?_ ay.out _ | refine keep_far ?_ bj.out _) | exact HK.out)) hk (.inl rfl)); replace HB := zK (hb); replace HI0 := zK (hi); (try clear hb); (try clear hk); (try clear hi); have hnb120 := bz.out; have hnc120 := bh.out; have hnb121 := bn.out; have hnc121 := aw.out; obtain ⟨eM, eN⟩ := zL2 aA; obtain ⟨eO, eP⟩ := zF2 aA) | ((with_reducible refine gate_builtin (b := .append) (xs := #[.tmp 117, .tmp 119]) rfl ?_); at_builtin; refine Kd.R_append (Kd.int .i64) w.heap.size rfl (.tmp 117) (.tmp 119) 24 3 (.int .i64 0) 8 rfl Try.underlying24 info3 rfl (by decide) (by omega) u325001 av bd [.int .i64 bd] (fun k_ => some k_ ≠ (u294000 : Value).ownBlock) (fun _ => False) rfl rfl ?aP (fun _ hk => hk.elim) ?aF ?aO (Below.refl _ _) ?aS ?aL ?_; (case aP => exact rfl); (case aF => exact (fun k_ hk => Kd.fresh' (Kd.R_lt (zR aa)) k_ hk)); (case aO => exact (zR ar)); (case aS => exact (keep_size (w := w) (g := g) (row := none) (zc8 HK))); (case aL => have := dY.out; omega); intro v329 eQ ho hb hg hat; rw [← Ny328.out] at ho; replace aa := zK (Kd.R_after (ok := (fun _ => True)) (by (with_reducible repeat (first | apply Kd.R_alloc | apply Kd.R_drewN | apply Kd.R_drew)); exact Kd.R_mono aa.out (fun _ hk => ⟨trivial, hk⟩)) hg hat); replace ac := zK (Kd.S_after (ok := (fun k_ => some k_ ≠ (u294000 : Value).ownBlock)) (zT ac) hg hat); replace ak := zK (Kd.S_after (ok := (fun k_ => some k_ ≠ (u294000 : Value).ownBlock ∧ k_ ≠ aG)) (by (with_reducible repeat (first | apply Kd.S_alloc | apply Kd.S_drewN | apply Kd.S_drew)); exact Kd.S_mono ak.out (fun _ hk => ⟨⟨hk.1, hk.2.2⟩, hk.2.1⟩)) hg hat); replace af := zK (blk_grown (g := ao) (o := .cells #[.slice none 0 0, .int .i64 0, .slice none 0 0, .slice none 0 0] 28 (0, 0)) (zk af) hg (Kd.R_ne ar.out af.out (by decide))); replace ab := zK (blk_grown (g := ai) (o := .cells #[u294000, .int .i64 ap, .slice dB ad.length dC, u294003] 28 (0, 0)) (zk ab) hg (Kd.R_ne ar.out ab.out (by decide))); replace aA := zK (blk_grown (g := aG) (o := .cells #[.int .i64 az, u325001] 74 (0, 0)) (zk aA) hg (Kd.R_ne ar.out aA.out (by decide))); replace HI0 := zK (IsS90.grown (zi8 HI0) hg (IsS90.own_ne HI0.out ar.out (by decide))); replace HB := zK (below_weaken (zj8 HB) HL.out hb); replace HK := zK (KeepBut.trans (by repeat (first | (with_reducible first | exact HK.out | apply KeepBut.set_ | apply keep_drewN | apply keep_drew | apply keep_alloc | refine keep_far ?_ au.out _ | refine keep_far ?_ ay.out _ | refine keep_far ?_ bj.out _) | exact HK.out)) (KeepBut.of_grown hg g) (Kd.R_base2 ar.out)); have dD := zK (ho); clear ar; clear ho hb hg hat; obtain ⟨b0, b1, eR⟩ := Kd.R_slice dD.out; subst eR; obtain ⟨eS, eT⟩ := zL2 aA; obtain ⟨eU, eV⟩ := zF2 aA))
                 go_roundg k4
                 case measure => have := bJ.out; have := bL.out; have := dx.out; have := dz.out; omega
                 case rel => exact ⟨(wrap64 (bd + 1)), (bS), (bT), (b6), (.slice b0 b6.length b1), zf, H', ⟨by have := bJ.out; have := bL.out; have := dx.out; have := dz.out; omega⟩, ⟨by (with_reducible repeat (first | apply Kd.R_alloc | apply Kd.R_drewN | apply Kd.R_drew)); exact Kd.R_mono (Kd.R_far (p := ⟨aG, 1, none⟩) (Kd.R_types aa.out aA.out (by decide)) (fun _ hk => hk.2) (.slice b0 b6.length b1)) (fun _ hk => hk.1.2)⟩, ⟨by (with_reducible repeat (first | apply Kd.S_alloc | apply Kd.S_drewN | apply Kd.S_drew)); exact Kd.S_mono (Kd.S_far (p := ⟨aG, 1, none⟩) (Kd.S_types ac.out aA.out (by decide)) (fun _ hk => hk.2) (.slice b0 b6.length b1)) (fun _ hk => ⟨hk.1.1, hk.1.2⟩)⟩, ⟨by (with_reducible repeat (first | apply Kd.S_alloc | apply Kd.S_drewN | apply Kd.S_drew)); exact Kd.S_mono (Kd.S_far (p := ⟨aG, 1, none⟩) (Kd.S_mono ak.out (fun k_ hk => (⟨hk, hk.1.2⟩ : _ ∧ k_ ≠ aG))) (fun _ hk => hk.2) (.slice b0 b6.length b1)) (fun _ hk => ⟨hk.1.1.1, ⟨hk.1.2, hk.1.1.2⟩⟩)⟩, ⟨by (with_reducible repeat (first | apply Kd.R_alloc | apply Kd.R_drewN | apply Kd.R_drew)); exact Kd.R_mono (Kd.R_far (p := ⟨aG, 1, none⟩) (Kd.R_types dD.out aA.out (by decide)) (fun _ hk => hk.2) (.slice b0 b6.length b1)) (fun _ hk => hk.1)⟩, ⟨zh af bh⟩, ⟨zh ab ba⟩, ⟨by (with_reducible repeat (first | refine zN ?_ _ | refine zD ?_ | refine zA ?_ _)); refine blk_put (cs := #[.int .i64 az, u325001]) ?_ 1 _ rfl; (with_reducible repeat (first | refine zN ?_ _ | refine zD ?_ | refine zA ?_ _)); exact aA.out⟩, ⟨zi8 HI0⟩, ⟨zc8 HK⟩, ⟨zj8 HB⟩⟩
                ·rw [if_neg dn] at H
                 exact absurd H (by simp)
              ·rw [if_neg co] at H
               have dX : decide (bd < (ad.length : Int)) = false := decide_eq_false co
               clear co; replace H := Option.bind_eq_some_iff.mp H
               obtain ⟨⟨eW, bU, bV⟩, dE, H⟩ := H
               (try dsimp only at H)
               have eX := zK dE; clear dE
               by_cases dp : eW = true
               ·subst dp
                rw [if_pos rfl] at H; have H' := zK H; clear H; have hnb128 := a5.out; have hnc128 := aI.out; have hnb129 := ba.out; have hnc129 := bk.out; have hnb130 := aR.out; have hnc130 := ae.out
                obtain ⟨eY, eZ, e0, e1⟩ := zL4 ab
                obtain ⟨e2, e3, e4, e5⟩ := zF4 ab
                obtain ⟨e6, e7, e8⟩ := Kd.S_slice ac.out
                subst e8
                go_wp2_with ((with_reducible refine gate_callee (f := 88) rfl ?_); refine goesL_ (some 123) rfl rfl Try.func88 (by kernel_rfl) rfl #[.pointer (some ⟨g, 0, none⟩), .int .i64 6] rfl zg ?_; (with_reducible refine (spec_l01Once.calls g am aK aM 6 true bU bV w0 _ ?side1 ?side2 eX.out).mono ?_); (case side1 => exact zi8 HI0); (case side2 => exact zj8 HB); rintro e w133 ⟨rfl, hi, hb, hk⟩; refine ⟨_, rfl, ?_⟩; replace aa := zK (Kd.R_mono (Kd.R_keep (IsS90.apart (show IsS90 w0 _ g am aK aM from zi8 HI0) (zR aa) (by decide)) hk (fun _ h => h.2)) (fun _ h => h.1)); replace ac := zK (Kd.S_mono (Kd.S_keep (IsS90.apartS (show IsS90 w0 _ g am aK aM from zi8 HI0) (zT ac) (by decide)) hk (fun _ h => h.2)) (fun _ h => h.1)); replace ak := zK (Kd.S_mono (Kd.S_keep (IsS90.apartS (show IsS90 w0 _ g am aK aM from zi8 HI0) (zT ak) (by decide)) hk (fun _ h => h.2)) (fun _ h => h.1)); replace ar := zK (Kd.R_mono (Kd.R_keep (IsS90.apart (show IsS90 w0 _ g am aK aM from zi8 HI0) (zR ar) (by decide)) hk (fun _ h => h.2)) (fun _ h => h.1)); replace af := zK (KeepBut.blk hk (g' := ao) (o := .cells #[.slice none 0 0, .int .i64 0, .slice none 0 0, .slice none 0 0] 28 (0, 0)) (zk af) a6.out (by simp)); replace ab := zK (KeepBut.blk hk (g' := ai) (o := .cells #[u294000, .int .i64 ap, .slice e6 ad.length e7, u294003] 28 (0, 0)) (zk ab) aR.out (by simp)); replace aA := zK (KeepBut.blk hk (g' := aG) (o := .cells #[.int .i64 az, u325001] 74 (0, 0)) (zk aA) bn.out (by simp)); replace HK := zK (KeepBut.trans (by repeat (first | (with_reducible first | exact HK.out | apply KeepBut.set_ | apply keep_drewN | apply keep_drew | apply keep_alloc | refine keep_far ?_ au.out _ | refine keep_far ?_ ay.out _ | refine keep_far ?_ bj.out _) | exact HK.out)) hk (.inl rfl)); replace HB := zK (hb); replace HI0 := zK (hi); (try clear hb); (try clear hk); (try clear hi))
                go_roundg k4
                case measure => have := bJ.out; have := bL.out; have := dx.out; have := dz.out; omega
                case rel => exact ⟨(wrap64 (az + 1)), (bU), (bV), (aq), (u294003), zf, H', ⟨by have := bJ.out; have := bL.out; have := dx.out; have := dz.out; omega⟩, ⟨by (with_reducible repeat (first | apply Kd.R_alloc | apply Kd.R_drewN | apply Kd.R_drew)); exact Kd.R_mono aa.out (fun _ hk => trivial)⟩, ⟨by (with_reducible repeat (first | apply Kd.S_alloc | apply Kd.S_drewN | apply Kd.S_drew)); exact Kd.S_mono ac.out (fun _ hk => hk.1)⟩, ⟨by (with_reducible repeat (first | apply Kd.S_alloc | apply Kd.S_drewN | apply Kd.S_drew)); exact Kd.S_mono ak.out (fun _ hk => hk.1)⟩, ⟨zk af⟩, ⟨zk ab⟩, ⟨zi8 HI0⟩, ⟨zc8 HK⟩, ⟨zj8 HB⟩⟩
               ·replace dp := Bool.eq_false_iff.mpr dp
                subst dp
                rw [if_neg (show ¬ (false = true) by decide)] at H
                by_cases dq : aq.length < 4398046511104
                ·rw [if_pos dq] at H
                 have dZ := zK dq; clear dq
                 obtain ⟨cp, cH⟩ : ∃ y_ : List (S74), y_ = (aq ++ [(⟨az, av⟩ : S74)]) := ⟨_, rfl⟩
                 replace H : (spec_l05Loop.l3 k4 (wrap64 (az + 1)) am bU bV ah ap ad cp) = some (r1, r2, r3, r4, r5, r6) := by rw [cH]; with_reducible exact H
                 have Ny334 := zK cH; clear cH; have H' := zK H; clear H; have hnb135 := a5.out; have hnc135 := aI.out; have hnb136 := ba.out; have hnc136 := bk.out; have hnb137 := aR.out; have hnc137 := ae.out
                 obtain ⟨e9, fa, fb, fc⟩ := zL4 ab
                 obtain ⟨fd, fe, fg, fh⟩ := zF4 ab
                 obtain ⟨b2, b3, fi⟩ := Kd.S_slice ac.out
                 subst fi
                 go_wp2_with (first | ((with_reducible refine gate_callee (f := 88) rfl ?_); refine goesL_ (some 123) rfl rfl Try.func88 (by kernel_rfl) rfl #[.pointer (some ⟨g, 0, none⟩), .int .i64 6] rfl zg ?_; (with_reducible refine (spec_l01Once.calls g am aK aM 6 false bU bV w0 _ ?side1 ?side2 eX.out).mono ?_); (case side1 => exact zi8 HI0); (case side2 => exact zj8 HB); rintro e cq ⟨rfl, hi, hb, hk⟩; refine ⟨_, rfl, ?_⟩; replace aa := zK (Kd.R_mono (Kd.R_keep (IsS90.apart (show IsS90 w0 _ g am aK aM from zi8 HI0) (zR aa) (by decide)) hk (fun _ h => h.2)) (fun _ h => h.1)); replace ac := zK (Kd.S_mono (Kd.S_keep (IsS90.apartS (show IsS90 w0 _ g am aK aM from zi8 HI0) (zT ac) (by decide)) hk (fun _ h => h.2)) (fun _ h => h.1)); replace ak := zK (Kd.S_mono (Kd.S_keep (IsS90.apartS (show IsS90 w0 _ g am aK aM from zi8 HI0) (zT ak) (by decide)) hk (fun _ h => h.2)) (fun _ h => h.1)); replace ar := zK (Kd.R_mono (Kd.R_keep (IsS90.apart (show IsS90 w0 _ g am aK aM from zi8 HI0) (zR ar) (by decide)) hk (fun _ h => h.2)) (fun _ h => h.1)); replace af := zK (KeepBut.blk hk (g' := ao) (o := .cells #[.slice none 0 0, .int .i64 0, .slice none 0 0, .slice none 0 0] 28 (0, 0)) (zk af) a6.out (by simp)); replace ab := zK (KeepBut.blk hk (g' := ai) (o := .cells #[u294000, .int .i64 ap, .slice b2 ad.length b3, u294003] 28 (0, 0)) (zk ab) aR.out (by simp)); replace aA := zK (KeepBut.blk hk (g' := aG) (o := .cells #[.int .i64 az, u325001] 74 (0, 0)) (zk aA) bn.out (by simp)); replace HK := zK (KeepBut.trans (by repeat (first | (with_reducible first | exact HK.out | apply KeepBut.set_ | apply keep_drewN | apply keep_drew | apply keep_alloc | refine keep_far ?_ au.out _ | refine keep_far ?_ ay.out _ | refine keep_far ?_ bj.out _) | exact HK.out)) hk (.inl rfl)); replace HB := zK (hb); replace HI0 := zK (hi); (try clear hb); (try clear hk); (try clear hi); obtain ⟨fj, fk, fl, fm⟩ := zL4 ab; obtain ⟨fn, fo, fp, fq⟩ := zF4 ab; have hnb142 := bz.out; have hnc142 := bh.out; have hnb143 := bn.out; have hnc143 := aw.out; obtain ⟨fr, fs⟩ := zL2 aA; obtain ⟨ft, fu⟩ := zF2 aA; obtain ⟨cc, cd, fv⟩ := Kd.R_slice ar.out; subst fv) | ((with_reducible refine gate_builtin (b := .append) (xs := #[.tmp 126, .tmp 128]) rfl ?_); at_builtin; refine Kd.S_append k74 w.heap.size rfl (.tmp 126) (.tmp 128) 26 74 (.agg #[(.int .i64 0), (.slice none 0 0)]) 32 rfl Try.underlying26 info74 rfl (by decide) (by omega) u294003 aq (⟨az, av⟩ : S74) [.int .i64 az, .slice cc av.length cd] (fun k_ => some k_ ≠ (u294000 : Value).ownBlock ∧ k_ ≠ aG) (fun k_ => some k_ = (.slice cc av.length cd : Value).ownBlock) rfl rfl ?aP (fun k_ hk_ => ((Kd.R_mono (ok' := fun k_ => ((fun k_ => some k_ ≠ (u294000 : Value).ownBlock ∧ k_ ≠ aG)) k_ ∧ some k_ ≠ (u294003 : Value).ownBlock) (Kd.R_types (Kd.R_apart' (ar.out) (Kd.S_typed ak.out) (by decide)) aA.out (by decide)) (fun k_ hk => ⟨⟨hk.1.1, hk.2⟩, hk.1.2⟩))).1 k_ hk_.symm) ?aF ?aO (Below.refl _ _) ?aS ?aL ?_; (case aP => exact k74_mkM _ _ _ (⟨az, av⟩ : S74) (Kd.R_mono (Kd.R_tight rfl (Kd.R_mono (ok' := fun k_ => ((fun k_ => some k_ ≠ (u294000 : Value).ownBlock ∧ k_ ≠ aG)) k_ ∧ some k_ ≠ (u294003 : Value).ownBlock) (Kd.R_types (Kd.R_apart' (ar.out) (Kd.S_typed ak.out) (by decide)) aA.out (by decide)) (fun k_ hk => ⟨⟨hk.1.1, hk.2⟩, hk.1.2⟩))) (fun _ h_ => h_))); (case aF => exact (fun k_ hk => ⟨Kd.fresh' (Kd.R_lt (zR aa)) k_ hk, Kd.freshB (g := aG) (o := .cells #[.int .i64 az, .slice cc av.length cd] 74 (0, 0)) (zk aA) k_ hk⟩)); (case aO => exact (by (with_reducible repeat (first | apply Kd.S_alloc | apply Kd.S_drewN | apply Kd.S_drew)); exact Kd.S_mono ak.out (fun k_ hk => ⟨⟨hk.1, hk.2.2⟩, fun e_ => hk.2.1 e_⟩))); (case aS => exact (keep_size (w := w) (g := g) (row := none) (zc8 HK))); (case aL => have := dZ.out; omega); intro v335 dr ho hb hg hat; rw [← Ny334.out] at ho; replace aa := zK (Kd.R_over' (zR aa) (Kd.S_typed (zT ak)) (by decide) hg); replace ac := zK (Kd.S_over' (zT ac) (Kd.S_typed (zT ak)) (by decide) hg); replace af := zK (blk_grown (g := ao) (o := .cells #[.slice none 0 0, .int .i64 0, .slice none 0 0, .slice none 0 0] 28 (0, 0)) (zk af) hg (Kd.S_ne ak.out af.out (by decide))); replace ab := zK (blk_grown (g := ai) (o := .cells #[u294000, .int .i64 ap, .slice b2 ad.length b3, u294003] 28 (0, 0)) (zk ab) hg (Kd.S_ne ak.out ab.out (by decide))); replace aA := zK (blk_grown (g := aG) (o := .cells #[.int .i64 az, .slice cc av.length cd] 74 (0, 0)) (zk aA) hg (Kd.S_away ak.out (fun _ hk => hk.2.2))); replace HI0 := zK (IsS90.grown (zi8 HI0) hg (IsS90.own_neS HI0.out ak.out (by decide))); replace HB := zK (below_weaken (zj8 HB) HL.out hb); replace HK := zK (KeepBut.trans (by repeat (first | (with_reducible first | exact HK.out | apply KeepBut.set_ | apply keep_drewN | apply keep_drew | apply keep_alloc | refine keep_far ?_ au.out _ | refine keep_far ?_ ay.out _ | refine keep_far ?_ bj.out _) | exact HK.out)) (KeepBut.of_grown hg g) (Kd.S_base2 ak.out)); have dF := zK (ho); clear ak ar; clear ho hb hg hat; obtain ⟨ce, cf, fw⟩ := Kd.S_slice dF.out; subst fw; obtain ⟨fx, fy, fz, fA⟩ := zL4 ab; obtain ⟨fB, fC, fD, fE⟩ := zF4 ab))
                 go_roundg k4
                 case measure => have := bJ.out; have := bL.out; have := dx.out; have := dz.out; omega
                 case rel => exact ⟨(wrap64 (az + 1)), (bU), (bV), (cp), (.slice ce cp.length cf), zf, H', ⟨by have := bJ.out; have := bL.out; have := dx.out; have := dz.out; omega⟩, ⟨by (with_reducible repeat (first | apply Kd.R_alloc | apply Kd.R_drewN | apply Kd.R_drew)); exact Kd.R_mono (Kd.R_far (p := ⟨ai, 3, none⟩) (Kd.R_types aa.out ab.out (by decide)) (fun _ hk => hk.2) (.slice ce cp.length cf)) (fun _ hk => trivial)⟩, ⟨by (with_reducible repeat (first | apply Kd.S_alloc | apply Kd.S_drewN | apply Kd.S_drew)); exact Kd.S_mono (Kd.S_far (p := ⟨ai, 3, none⟩) (Kd.S_types ac.out ab.out (by decide)) (fun _ hk => hk.2) (.slice ce cp.length cf)) (fun _ hk => hk.1.1)⟩, ⟨by (with_reducible repeat (first | apply Kd.S_alloc | apply Kd.S_drewN | apply Kd.S_drew)); exact Kd.S_mono (Kd.S_far (p := ⟨ai, 3, none⟩) (Kd.S_types dF.out ab.out (by decide)) (fun _ hk => hk.2) (.slice ce cp.length cf)) (fun _ hk => hk.1.1)⟩, ⟨zh af aI⟩, ⟨by (with_reducible repeat (first | refine zN ?_ _ | refine zD ?_ | refine zA ?_ _)); refine blk_put (cs := #[u294000, .int .i64 ap, .slice b2 ad.length b3, u294003]) ?_ 3 _ rfl; (with_reducible repeat (first | refine zN ?_ _ | refine zD ?_ | refine zA ?_ _)); exact ab.out⟩, ⟨zi8 HI0⟩, ⟨zc8 HK⟩, ⟨zj8 HB⟩⟩
                ·rw [if_neg dq] at H
                 exact absurd H (by simp)
           ·rw [if_neg d5] at H
            have dy : decide (az < 8) = false := decide_eq_false d5
            clear d5
            simp only [Option.some.injEq, Prod.mk.injEq] at H
            obtain ⟨rfl, rfl, rfl, rfl, rfl, rfl⟩ := H
            have hnb149 := a5.out; have hnc149 := aI.out; have hnb150 := aR.out; have hnc150 := ae.out
            obtain ⟨fF, fG, fH, fI⟩ := zL4 ab
            obtain ⟨fJ, fK, fL, fM⟩ := zF4 ab
            obtain ⟨bH, bI, fN⟩ := Kd.R_slice aa.out
            subst fN; have hnb153 := a6.out; have hnc153 := ag.out
            obtain ⟨fO, fP, fQ, fR⟩ := zL4 af
            obtain ⟨fS, fT, fU, fV⟩ := zF4 af
            obtain ⟨b4, b5, fW⟩ := Kd.S_slice ac.out
            subst fW
            obtain ⟨cg, ch, fX⟩ := Kd.S_slice ak.out
            subst fX
            go_wp2
            refine bodyPost_ret (results_cell_row rfl _ _ ao 28 #[.slice bH ah.length bI, .int .i64 ap, .slice b4 ad.length b5, .slice cg aq.length ch] (0, 0) _ rfl (by (with_reducible repeat (first | refine zN ?_ _ | refine zD ?_ | refine zA ?_ _)); refine blk_put (cs := #[.slice bH ah.length bI, .int .i64 ap, .slice b4 ad.length b5, .slice none 0 0]) ?_ 3 _ rfl; (with_reducible repeat (first | refine zN ?_ _ | refine zD ?_ | refine zA ?_ _)); refine blk_put (cs := #[.slice bH ah.length bI, .int .i64 ap, .slice none 0 0, .slice none 0 0]) ?_ 2 _ rfl; (with_reducible repeat (first | refine zN ?_ _ | refine zD ?_ | refine zA ?_ _)); refine blk_put (cs := #[.slice bH ah.length bI, .int .i64 0, .slice none 0 0, .slice none 0 0]) ?_ 1 _ rfl; (with_reducible repeat (first | refine zN ?_ _ | refine zD ?_ | refine zA ?_ _)); refine blk_put (cs := #[.slice none 0 0, .int .i64 0, .slice none 0 0, .slice none 0 0]) ?_ 0 _ rfl; (with_reducible repeat (first | refine zN ?_ _ | refine zD ?_ | refine zA ?_ _)); exact af.out) Try.underlying28 rfl (by kernel_rfl)) rfl ?_
            exact ⟨_, _, _, by first | rfl | (simp [errW_none, errW_some] <;> rfl) | (simp only [← dG, ← b7]; first | rfl | (simp [errW_none, errW_some] <;> rfl)) | (simp [*, errW_none, errW_some] <;> rfl), by (with_reducible repeat (first | apply Kd.R_alloc | apply Kd.R_drewN | apply Kd.R_drew)); exact Kd.R_mono (Kd.R_far (p := ⟨ao, 3, none⟩) (Kd.R_far (p := ⟨ao, 2, none⟩) (Kd.R_far (p := ⟨ao, 1, none⟩) (Kd.R_far (p := ⟨ao, 0, none⟩) (Kd.R_types aa.out af.out (by decide)) (fun _ hk => hk.2) (.slice bH ah.length bI)) (fun _ hk => hk.2) (.int .i64 ap)) (fun _ hk => hk.2) (.slice b4 ad.length b5)) (fun _ hk => hk.2) (.slice cg aq.length ch)) (fun _ hk => trivial), by (with_reducible repeat (first | apply Kd.S_alloc | apply Kd.S_drewN | apply Kd.S_drew)); exact Kd.S_mono (Kd.S_far (p := ⟨ao, 3, none⟩) (Kd.S_far (p := ⟨ao, 2, none⟩) (Kd.S_far (p := ⟨ao, 1, none⟩) (Kd.S_far (p := ⟨ao, 0, none⟩) (Kd.S_types ac.out af.out (by decide)) (fun _ hk => hk.2) (.slice bH ah.length bI)) (fun _ hk => hk.2) (.int .i64 ap)) (fun _ hk => hk.2) (.slice b4 ad.length b5)) (fun _ hk => hk.2) (.slice cg aq.length ch)) (fun _ hk => hk.1), by (with_reducible repeat (first | apply Kd.S_alloc | apply Kd.S_drewN | apply Kd.S_drew)); exact Kd.S_mono (Kd.S_far (p := ⟨ao, 3, none⟩) (Kd.S_far (p := ⟨ao, 2, none⟩) (Kd.S_far (p := ⟨ao, 1, none⟩) (Kd.S_far (p := ⟨ao, 0, none⟩) (Kd.S_types ak.out af.out (by decide)) (fun _ hk => hk.2) (.slice bH ah.length bI)) (fun _ hk => hk.2) (.int .i64 ap)) (fun _ hk => hk.2) (.slice b4 ad.length b5)) (fun _ hk => hk.2) (.slice cg aq.length ch)) (fun _ hk => hk.1), zi8 HI0, zj8 HB, zc8 HK⟩
  ·rw [if_neg c5] at H
   exact absurd H (by simp)
 ·rw [if_neg c4] at H
  exact absurd H (by simp)
end Go.Proofs.Ytmjhbdmicejppaa.Px
