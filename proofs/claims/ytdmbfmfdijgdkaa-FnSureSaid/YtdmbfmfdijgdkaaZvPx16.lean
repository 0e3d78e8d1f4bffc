import Derived.Test.YtdmbfmfdijgdkaaZvPx0
import Derived.Test.YtdmbfmfdijgdkaaZvPx6
import Derived.Test.YtdmbfmfdijgdkaaZvPx7
namespace Go.Proofs.Ytdmbfmfdijgdkaa.Px
open Go.RowKit Go.Proofs.YtdmbfmfdijgdkaaW.PrintWords Go.Proofs.YtdmbfmfdijgdkaaW.PrintLast Go.Proofs.YtdmbfmfdijgdkaaW.PrintMore
attribute [local go_sem] max2_int min2_int max_two min_two max_three min_three max_four min_four   
set_option linter.unusedVariables false
set_option linter.unusedSimpArgs false
def spec_l01Once.f (s0_0 : List Int) (s0_1 : Int) (s0_2 : Int) (a1 : Int) : Option (Bool × Int × Int) := (spec_l01Below.f s0_0 s0_1 s0_2 a1).bind fun bt451 => (some ((bt451.1 == 0), bt451.2.1, bt451.2.2))
set_option maxHeartbeats 8000000 in
set_option maxRecDepth 100000 in
theorem spec_l01Once.calls (g : Nat) (aa : List Int) (ab : Int) (ac : Int) (a1 : Int) (r1 : Bool) (r2 : Int) (r3 : Int) (w0 w : World) (hI : IsS104 w0 w g aa ab ac) (hB : Below w0.heap.size w0 w) (h : spec_l01Once.f aa ab ac a1 = some (r1, r2, r3)) :
  Calls Try.prog 105 #[.pointer (some ⟨g, 0, none⟩), .int .i64 a1] w fun e w' => e = .returned (.bool r1) ∧ IsS104 w0 w' g aa r2 r3 ∧ Below w0.heap.size w0 w' ∧ KeepBut w w' g none := by
 have HI0 := zK hI
 have HK := zK (KeepBut.refl w g none)
 have HL := zK hB.size; clear hI; have HW0 := zK hB.size; have HB := zK hB; clear hB
 have H : ((spec_l01Below.f aa ab ac a1).bind fun bt451 => (some ((bt451.1 == 0), bt451.2.1, bt451.2.2))) = some (r1, r2, r3) := h
 clear h; replace H := Option.bind_eq_some_iff.mp H
 obtain ⟨⟨ad, ae, af⟩, A30, H⟩ := H
 replace H : (some ((ad == 0), ae, af)) = some (r1, r2, r3) := H
 have A3 := zK A30; clear A30
 simp only [Option.some.injEq, Prod.mk.injEq] at H
 obtain ⟨rfl, rfl, rfl⟩ := H
 go_enter Try.func105, Try.ntmps105
 go_wp2_with (first | ((with_reducible refine gate_callee (f := 65) rfl ?_); refine goesL_ (some 7) rfl rfl Try.func65 (by kernel_rfl) rfl #[.pointer (some ⟨g, 0, none⟩), .int .i64 a1] rfl (by (try simp only [List.map_toArray, List.map_cons, List.map_nil]); first | done | rfl | (simp only [List.length_drop, List.length_take]; rfl)) ?_; (with_reducible refine (spec_l01Below.calls g aa ab ac a1 ad ae af w0 _ ?side1 ?side2 A3.out).mono ?_); (case side1 => repeat (first | (with_reducible first | exact HI0.out | apply IsS104.alloc | apply IsS104.drewN | apply IsS104.drew | apply IsS104.set_1 | apply IsS104.set_2) | exact HI0.out)); (case side2 => repeat (first | (with_reducible first | exact HB.out | apply zB | apply zC | apply zE | refine zS ?_ (IsS104.ge HI0.out)) | exact HB.out)); rintro e w4 ⟨rfl, hi, hb, hk⟩; refine ⟨_, rfl, ?_⟩; have n0_ := zK (KeepBut.trans (by repeat (first | (with_reducible first | exact HK.out | apply KeepBut.set_ | apply keep_drewN | apply keep_drew | apply keep_alloc) | exact HK.out)) hk (.inl rfl)); have n1_ := zK (hb); have n2_ := zK (hi); clear HK; clear HB; clear HI0; have HK := n0_; have HB := n1_; have HI0 := n2_; clear n0_ n1_ n2_; (try clear hb); (try clear hk); (try clear hi)))
 go_ret
 exact ⟨by first | rfl | (simp [errW_none, errW_some] <;> rfl) | (simp [*, errW_none, errW_some] <;> rfl), by repeat (first | (with_reducible first | exact HI0.out | apply IsS104.alloc | apply IsS104.drewN | apply IsS104.drew | apply IsS104.set_1 | apply IsS104.set_2) | exact HI0.out), by repeat (first | (with_reducible first | exact HB.out | apply zB | apply zC | apply zE | refine zS ?_ (IsS104.ge HI0.out)) | exact HB.out), by repeat (first | (with_reducible first | exact HK.out | apply KeepBut.set_ | apply keep_drewN | apply keep_drew | apply keep_alloc) | exact HK.out)⟩
def spec_l03Expects.l0 : Nat → List (S52) → Int → List Int → Int → Int → Option ((List (S52)) × Int × Int)
 | 0, _, _, _, _, _ => none
 | k + 1, x3, x4, x1000, x1001, x1002 => if x4 > 0 then ((spec_l01Below.f x1000 x1001 x1002 20).bind fun bt460 => ((spec_l01Below.f x1000 bt460.2.1 bt460.2.2 3).bind fun bt463 => ((spec_l01PickInt.f x1000 bt463.2.1 bt463.2.2 (([0, 1, 2, 3, 5, 9, 14] : List Int))).bind fun bt469 => (if x3.length < 5864062014805 then (spec_l03Expects.l0 k (x3 ++ [(⟨wrap64 ((wrap64 (1 + (wrap64 (3 * (x3.length : Int))))) + bt463.1), bt460.1, wrap64 (bt460.1 + bt469.1)⟩ : S52)]) (wrap64 (x4 - 1)) x1000 bt469.2.1 bt469.2.2) else (none))))) else (if (x3.length : Int) > 1 then ((spec_l01Once.f x1000 x1001 x1002 2).bind fun bt475 => (if bt475.1 = true then (if 0 < (x3.length : Int) then (if 0 ≤ (wrap64 ((x3.length : Int) - 1)) then (if (wrap64 ((x3.length : Int) - 1)) < (x3.length : Int) then (some (((x3.set (0 : Int).toNat (⟨(rd_T52 x3 (wrap64 ((x3.length : Int) - 1))).f0, (rd_T52 x3 (wrap64 ((x3.length : Int) - 1))).f1, (rd_T52 x3 (wrap64 ((x3.length : Int) - 1))).f2⟩ : S52)).set ((wrap64 ((x3.length : Int) - 1)) : Int).toNat (⟨(rd_T52 x3 0).f0, (rd_T52 x3 0).f1, (rd_T52 x3 0).f2⟩ : S52)), bt475.2.1, bt475.2.2)) else (none)) else (none)) else (none)) else (some (x3, bt475.2.1, bt475.2.2)))) else (some (x3, x1001, x1002)))
def spec_l03Expects.f (k : Nat) (s0_0 : List Int) (s0_1 : Int) (s0_2 : Int) : Option ((List (S52)) × Int × Int) := (spec_l01Below.f s0_0 s0_1 s0_2 6).bind fun bt457 => (spec_l03Expects.l0 k (([] : List (S52))) bt457.1 s0_0 bt457.2.1 bt457.2.2)
set_option maxHeartbeats 8000000 in
set_option maxRecDepth 100000 in
theorem spec_l03Expects.calls (k : Nat) (g : Nat) (ae : List Int) (a4 : Int) (a5 : Int) (r1 : List (S52)) (r2 : Int) (r3 : Int) (w0 w : World) (hI : IsS104 w0 w g ae a4 a5) (hB : Below w0.heap.size w0 w) (h : spec_l03Expects.f k ae a4 a5 = some (r1, r2, r3)) :
  Calls Try.prog 93 #[.pointer (some ⟨g, 0, none⟩)] w fun e w' => ∃ v0_ : Value, e = .returned (v0_) ∧ Kd.R k52 52 w' w.heap.size (fun _ => True) v0_ r1 ∧ IsS104 w0 w' g ae r2 r3 ∧ Below w0.heap.size w0 w' ∧ KeepBut w w' g none := by
 have hu52 := Try.underlying52; have HI0 := zK hI
 have HK := zK (KeepBut.refl w g none)
 have HL := zK hB.size; clear hI; have HW0 := zK hB.size; have HB := zK hB; clear hB
 have H : ((spec_l01Below.f ae a4 a5 6).bind fun bt457 => (spec_l03Expects.l0 k (([] : List (S52))) bt457.1 ae bt457.2.1 bt457.2.2)) = some (r1, r2, r3) := h
 clear h
 obtain ⟨bt, az⟩ : ∃ y_ : List (S52), y_ = (([] : List (S52))) := ⟨_, rfl⟩
 replace H : ((spec_l01Below.f ae a4 a5 6).bind fun bt457 => (spec_l03Expects.l0 k bt bt457.1 ae bt457.2.1 bt457.2.2)) = some (r1, r2, r3) := by first | (rw [az]; with_reducible exact H) | (have H2_ := (Option.bind_some _ _).symm.trans H; rw [az]; with_reducible exact H2_) | (have H2_ := (Option.bind_some _ _).symm.trans H; with_reducible exact H2_) | with_reducible exact H | (rw [az]; exact H) | exact H
 have Ny454 := zK az; clear az; replace H := Option.bind_eq_some_iff.mp H
 obtain ⟨⟨bu, bv, bw⟩, bL, H⟩ := H
 replace H : (spec_l03Expects.l0 k bt bu ae bv bw) = some (r1, r2, r3) := H
 have A2 := zK bL; clear bL; have H' := zK H; clear H
 go_enter Try.func93, Try.ntmps93
 go_wp2_with (first | ((with_reducible refine gate_dst (N := 7) rfl ?_); refine Kd.R_lit k52 _ 52 ?hg (N := 7) ?hd (xs := ([] : List (S52))) (inner := []) (ok := fun _ => True) (okp := fun _ => True) ?hr ?hp (fun _ hk => hk) trivial (Below.refl _ _) (Nat.le_refl _) (by simp) ?_; (case hd => rfl); (case hg => rfl); (case hr => first | (go_simp; done) | (go_simp; rfl)); (case hp => exact (Reps.none _ _)); intro v455 w3 ho4 hb hg_ hnew_; clear hg_ hnew_; (first | rw [← Ny454.out] at ho4 | (simp only [Int.reduceToNat] at ho4; rw [← Ny454.out] at ho4)); have aj := zK (Kd.R_lower ho4 (keep_size (w := w) (g := g) (row := none) (by repeat (first | (with_reducible first | exact HK.out | apply KeepBut.set_ | apply keep_drewN | apply keep_drew | apply keep_alloc) | exact HK.out)))); have ak := zK (IsS104.below (by repeat (first | (with_reducible first | exact HI0.out | apply IsS104.alloc | apply IsS104.drewN | apply IsS104.drew | apply IsS104.set_1 | apply IsS104.set_2) | exact HI0.out)) hb); have al := zK (KeepBut.trans (by repeat (first | (with_reducible first | exact HK.out | apply KeepBut.set_ | apply keep_drewN | apply keep_drew | apply keep_alloc) | exact HK.out)) (KeepBut.of_below hb g none) (.inl rfl)); have am := zK (below_step (by repeat (first | (with_reducible first | exact HB.out | apply zB | apply zC | apply zE | refine zS ?_ (IsS104.ge HI0.out)) | exact HB.out)) hb); clear HI0; clear HK; clear HB; have aV := aj; have HI0 := ak; have HK := al; have HB := am; clear aj ak al am; clear hb ho4) | ((with_reducible refine gate_callee (f := 65) rfl ?_); refine goesL_ (some 9) rfl rfl Try.func65 (by kernel_rfl) rfl #[.pointer (some ⟨g, 0, none⟩), .int .i64 6] rfl (by (try simp only [List.map_toArray, List.map_cons, List.map_nil]); first | done | rfl | (simp only [List.length_drop, List.length_take]; rfl)) ?_; (with_reducible refine (spec_l01Below.calls g ae a4 a5 6 bu bv bw w0 _ ?side1 ?side2 A2.out).mono ?_); (case side1 => repeat (first | (with_reducible first | exact HI0.out | apply IsS104.alloc | apply IsS104.drewN | apply IsS104.drew | apply IsS104.set_1 | apply IsS104.set_2) | exact HI0.out)); (case side2 => repeat (first | (with_reducible first | exact HB.out | apply zB | apply zC | apply zE | refine zS ?_ (IsS104.ge HI0.out)) | exact HB.out)); rintro e w5 ⟨rfl, hi, hb, hk⟩; refine ⟨_, rfl, ?_⟩; have aj := zK (Kd.R_mono (Kd.R_keep (IsS104.apart (show IsS104 w0 _ g ae a4 a5 from by repeat (first | (with_reducible first | exact HI0.out | apply IsS104.alloc | apply IsS104.drewN | apply IsS104.drew | apply IsS104.set_1 | apply IsS104.set_2) | exact HI0.out)) (zR aV) (by decide)) hk (fun _ h => h.2)) (fun _ h => h.1)); have ak := zK (KeepBut.trans (by repeat (first | (with_reducible first | exact HK.out | apply KeepBut.set_ | apply keep_drewN | apply keep_drew | apply keep_alloc) | exact HK.out)) hk (.inl rfl)); have al := zK (hb); have am := zK (hi); clear aV; clear HK; clear HB; clear HI0; have aV := aj; have HK := ak; have HB := al; have HI0 := am; clear aj ak al am; (try clear hb); (try clear hk); (try clear hi)))
 go_loopg [3, 4] k (fun kq v3 v4 w' => ∃ (aa : List (S52)) (aq : Int) (ag : Int) (ah : Int), v4 = .int .i64 aq ∧ Aside0 (spec_l03Expects.l0 kq aa aq ae ag ah = some (r1, r2, r3)) ∧ Aside0 (kq ≤ k) ∧ Aside0 (Kd.R k52 52 w' w.heap.size (fun _ => True) v3 aa) ∧ Aside0 (IsS104 w0 w' g ae ag ah) ∧ Aside0 (KeepBut w w' g none) ∧ Aside0 (Below w0.heap.size w0 w'))
 case atStart => exact ⟨(bt), (bu), (bv), (bw), (by first | rfl | (simp; done) | (simp [*]; done)), H', ⟨Nat.le_refl _⟩, ⟨zR aV⟩, ⟨by repeat (first | (with_reducible first | exact HI0.out | apply IsS104.alloc | apply IsS104.drewN | apply IsS104.drew | apply IsS104.set_1 | apply IsS104.set_2) | exact HI0.out)⟩, ⟨by repeat (first | (with_reducible first | exact HK.out | apply KeepBut.set_ | apply keep_drewN | apply keep_drew | apply keep_alloc) | exact HK.out)⟩, ⟨by repeat (first | (with_reducible first | exact HB.out | apply zB | apply zC | apply zE | refine zS ?_ (IsS104.ge HI0.out)) | exact HB.out)⟩⟩
 case round =>
  clear H'
  try clear p2
  obtain ⟨aa, aq, ag, ah, rfl, HA, HK1, ab, HI0, HK, HB⟩ := hrel
  cases gk with
  | zero => exact absurd HA.out (by simp [spec_l03Expects.l0])
  | succ k1 =>
   have H := HA.out; clear HA
   simp only [spec_l03Expects.l0] at H
   by_cases c6 : aq > 0
   ·rw [if_pos c6] at H
    have c6b0 : decide (0 < aq) = true := decide_eq_true c6
    clear c6; replace H := Option.bind_eq_some_iff.mp H
    obtain ⟨⟨an, bh, bi⟩, A70, H⟩ := H
    replace H : ((spec_l01Below.f ae bh bi 3).bind fun bt463 => ((spec_l01PickInt.f ae bt463.2.1 bt463.2.2 (([0, 1, 2, 3, 5, 9, 14] : List Int))).bind fun bt469 => (if aa.length < 5864062014805 then (spec_l03Expects.l0 k1 (aa ++ [(⟨wrap64 ((wrap64 (1 + (wrap64 (3 * (aa.length : Int))))) + bt463.1), an, wrap64 (an + bt469.1)⟩ : S52)]) (wrap64 (aq - 1)) ae bt469.2.1 bt469.2.2) else (none)))) = some (r1, r2, r3) := H
    have A7 := zK A70; clear A70; replace H := Option.bind_eq_some_iff.mp H
    obtain ⟨⟨aA, a6, a7⟩, A80, H⟩ := H
    replace H : ((spec_l01PickInt.f ae a6 a7 (([0, 1, 2, 3, 5, 9, 14] : List Int))).bind fun bt469 => (if aa.length < 5864062014805 then (spec_l03Expects.l0 k1 (aa ++ [(⟨wrap64 ((wrap64 (1 + (wrap64 (3 * (aa.length : Int))))) + aA), an, wrap64 (an + bt469.1)⟩ : S52)]) (wrap64 (aq - 1)) ae bt469.2.1 bt469.2.2) else (none))) = some (r1, r2, r3) := H
    have A8 := zK A80; clear A80
    obtain ⟨bx, aB⟩ : ∃ y_ : List Int, y_ = (([0, 1, 2, 3, 5, 9, 14] : List Int)) := ⟨_, rfl⟩
    replace H : ((spec_l01PickInt.f ae a6 a7 bx).bind fun bt469 => (if aa.length < 5864062014805 then (spec_l03Expects.l0 k1 (aa ++ [(⟨wrap64 ((wrap64 (1 + (wrap64 (3 * (aa.length : Int))))) + aA), an, wrap64 (an + bt469.1)⟩ : S52)]) (wrap64 (aq - 1)) ae bt469.2.1 bt469.2.2) else (none))) = some (r1, r2, r3) := by first | (rw [aB]; with_reducible exact H) | (have H2_ := (Option.bind_some _ _).symm.trans H; rw [aB]; with_reducible exact H2_) | (have H2_ := (Option.bind_some _ _).symm.trans H; with_reducible exact H2_) | with_reducible exact H | (rw [aB]; exact H) | exact H
    have Ny466 := zK aB; clear aB; replace H := Option.bind_eq_some_iff.mp H
    obtain ⟨⟨a8, bj, bk⟩, A90, H⟩ := H
    replace H : (if aa.length < 5864062014805 then (spec_l03Expects.l0 k1 (aa ++ [(⟨wrap64 ((wrap64 (1 + (wrap64 (3 * (aa.length : Int))))) + aA), an, wrap64 (an + a8)⟩ : S52)]) (wrap64 (aq - 1)) ae bj bk) else (none)) = some (r1, r2, r3) := H
    have A9 := zK A90; clear A90
    by_cases c10 : aa.length < 5864062014805
    ·rw [if_pos c10] at H
     have bN := zK c10; clear c10
     obtain ⟨bO, aC⟩ : ∃ y_ : List (S52), y_ = (aa ++ [(⟨wrap64 ((wrap64 (1 + (wrap64 (3 * (aa.length : Int))))) + aA), an, wrap64 (an + a8)⟩ : S52)]) := ⟨_, rfl⟩
     replace H : (spec_l03Expects.l0 k1 bO (wrap64 (aq - 1)) ae bj bk) = some (r1, r2, r3) := by first | (rw [aC]; with_reducible exact H) | (have H2_ := (Option.bind_some _ _).symm.trans H; rw [aC]; with_reducible exact H2_) | (have H2_ := (Option.bind_some _ _).symm.trans H; with_reducible exact H2_) | with_reducible exact H | (rw [aC]; exact H) | exact H
     have Ny472 := zK aC; clear aC; have H' := zK H; clear H
     go_wp2_with (first | ((with_reducible refine gate_callee (f := 65) rfl ?_); refine goesL_ (some 15) rfl rfl Try.func65 (by kernel_rfl) rfl #[.pointer (some ⟨g, 0, none⟩), .int .i64 20] rfl (by (try simp only [List.map_toArray, List.map_cons, List.map_nil]); first | done | rfl | (simp only [List.length_drop, List.length_take]; rfl)) ?_; (with_reducible refine (spec_l01Below.calls g ae ag ah 20 an bh bi w0 _ ?side1 ?side2 A7.out).mono ?_); (case side1 => repeat (first | (with_reducible first | exact HI0.out | apply IsS104.alloc | apply IsS104.drewN | apply IsS104.drew | apply IsS104.set_1 | apply IsS104.set_2) | exact HI0.out)); (case side2 => repeat (first | (with_reducible first | exact HB.out | apply zB | apply zC | apply zE | refine zS ?_ (IsS104.ge HI0.out)) | exact HB.out)); rintro e w11 ⟨rfl, hi, hb, hk⟩; refine ⟨_, rfl, ?_⟩; have aj := zK (Kd.R_mono (Kd.R_keep (IsS104.apart (show IsS104 w0 _ g ae ag ah from by repeat (first | (with_reducible first | exact HI0.out | apply IsS104.alloc | apply IsS104.drewN | apply IsS104.drew | apply IsS104.set_1 | apply IsS104.set_2) | exact HI0.out)) (zR ab) (by decide)) hk (fun _ h => h.2)) (fun _ h => h.1)); have ak := zK (KeepBut.trans (by repeat (first | (with_reducible first | exact HK.out | apply KeepBut.set_ | apply keep_drewN | apply keep_drew | apply keep_alloc) | exact HK.out)) hk (.inl rfl)); have al := zK (hb); have am := zK (hi); clear ab; clear HK; clear HB; clear HI0; have ab := aj; have HK := ak; have HB := al; have HI0 := am; clear aj ak al am; (try clear hb); (try clear hk); (try clear hi); obtain ⟨Ao12, co12, eo12⟩ := Kd.R_slice ab.out; subst eo12) | ((with_reducible refine gate_callee (f := 65) rfl ?_); refine goesL_ (some 22) rfl rfl Try.func65 (by kernel_rfl) rfl #[.pointer (some ⟨g, 0, none⟩), .int .i64 3] rfl (by (try simp only [List.map_toArray, List.map_cons, List.map_nil]); first | done | rfl | (simp only [List.length_drop, List.length_take]; rfl)) ?_; (with_reducible refine (spec_l01Below.calls g ae bh bi 3 aA a6 a7 w0 _ ?side1 ?side2 A8.out).mono ?_); (case side1 => repeat (first | (with_reducible first | exact HI0.out | apply IsS104.alloc | apply IsS104.drewN | apply IsS104.drew | apply IsS104.set_1 | apply IsS104.set_2) | exact HI0.out)); (case side2 => repeat (first | (with_reducible first | exact HB.out | apply zB | apply zC | apply zE | refine zS ?_ (IsS104.ge HI0.out)) | exact HB.out)); rintro e w13 ⟨rfl, hi, hb, hk⟩; refine ⟨_, rfl, ?_⟩; have aj := zK (Kd.R_mono (Kd.R_keep (IsS104.apart (show IsS104 w0 _ g ae bh bi from by repeat (first | (with_reducible first | exact HI0.out | apply IsS104.alloc | apply IsS104.drewN | apply IsS104.drew | apply IsS104.set_1 | apply IsS104.set_2) | exact HI0.out)) (zR ab) (by decide)) hk (fun _ h => h.2)) (fun _ h => h.1)); have ak := zK (KeepBut.trans (by repeat (first | (with_reducible first | exact HK.out | apply KeepBut.set_ | apply keep_drewN | apply keep_drew | apply keep_alloc) | exact HK.out)) hk (.inl rfl)); have al := zK (hb); have am := zK (hi); clear ab; clear HK; clear HB; clear HI0; have ab := aj; have HK := ak; have HB := al; have HI0 := am; clear aj ak al am; (try clear hb); (try clear hk); (try clear hi)) | ((with_reducible refine gate_dst (N := 27) rfl ?_); refine Kd.R_lit (Kd.int .i64) _ 3 ?hg (N := 27) ?hd (xs := ([0, 1, 2, 3, 5, 9, 14] : List Int)) (inner := [.int .i64 0, .int .i64 1, .int .i64 2, .int .i64 3, .int .i64 5, .int .i64 9, .int .i64 14]) (ok := fun _ => True) (okp := fun _ => True) ?hr ?hp (fun _ hk => hk) trivial (Below.refl _ _) (Nat.le_refl _) (by simp) ?_; (case hd => rfl); (case hg => rfl); (case hr => first | (go_simp; done) | (go_simp; rfl)); (case hp => exact (Reps.one (show Kd.M (Kd.int .i64) _ _ _ 0 [.int .i64 0] from rfl) (Reps.one (show Kd.M (Kd.int .i64) _ _ _ 1 [.int .i64 1] from rfl) (Reps.one (show Kd.M (Kd.int .i64) _ _ _ 2 [.int .i64 2] from rfl) (Reps.one (show Kd.M (Kd.int .i64) _ _ _ 3 [.int .i64 3] from rfl) (Reps.one (show Kd.M (Kd.int .i64) _ _ _ 5 [.int .i64 5] from rfl) (Reps.one (show Kd.M (Kd.int .i64) _ _ _ 9 [.int .i64 9] from rfl) (Reps.one (show Kd.M (Kd.int .i64) _ _ _ 14 [.int .i64 14] from rfl) (Reps.none _ _))))))))); intro v467 w14 ho15 hb hg_ hnew_; clear hg_ hnew_; (first | rw [← Ny466.out] at ho15 | (simp only [Int.reduceToNat] at ho15; rw [← Ny466.out] at ho15)); have aj := zK (Kd.R_below (zR ab) hb); have ak := zK (Kd.R_lower ho15 (keep_size (w := w) (g := g) (row := none) (by repeat (first | (with_reducible first | exact HK.out | apply KeepBut.set_ | apply keep_drewN | apply keep_drew | apply keep_alloc) | exact HK.out)))); have al := zK (IsS104.below (by repeat (first | (with_reducible first | exact HI0.out | apply IsS104.alloc | apply IsS104.drewN | apply IsS104.drew | apply IsS104.set_1 | apply IsS104.set_2) | exact HI0.out)) hb); have am := zK (KeepBut.trans (by repeat (first | (with_reducible first | exact HK.out | apply KeepBut.set_ | apply keep_drewN | apply keep_drew | apply keep_alloc) | exact HK.out)) (KeepBut.of_below hb g none) (.inl rfl)); have ay := zK (below_step (by repeat (first | (with_reducible first | exact HB.out | apply zB | apply zC | apply zE | refine zS ?_ (IsS104.ge HI0.out)) | exact HB.out)) hb); clear ab; clear HI0; clear HK; clear HB; have ab := aj; have ao := ak; have HI0 := al; have HK := am; have HB := ay; clear aj ak al am ay; clear hb ho15; obtain ⟨Ao16, co16, eo16⟩ := Kd.R_slice ao.out; subst eo16) | ((with_reducible refine gate_callee (f := 64) rfl ?_); refine goesL_ (some 28) rfl rfl Try.func64 (by kernel_rfl) rfl #[.pointer (some ⟨g, 0, none⟩), .slice Ao16 bx.length co16] rfl (by (try simp only [List.map_toArray, List.map_cons, List.map_nil]); first | done | rfl | (simp only [List.length_drop, List.length_take]; rfl)) ?_; (with_reducible refine (spec_l01PickInt.calls g ae a6 a7 _ _ bx a8 bj bk w0 _ ?side1 ?side2 ?side3 ?side4 ?side5 A9.out).mono ?_); (case side1 => repeat (first | (with_reducible first | exact HI0.out | apply IsS104.alloc | apply IsS104.drewN | apply IsS104.drew | apply IsS104.set_1 | apply IsS104.set_2) | exact HI0.out)); (case side2 => repeat (first | (with_reducible first | exact HB.out | apply zB | apply zC | apply zE | refine zS ?_ (IsS104.ge HI0.out)) | exact HB.out)); (case side3 => repeat (first | exact (Kd.R_reads' ao.out).2.2 | (with_reducible refine Kd.C_alloc ?_ _) | (with_reducible refine Kd.C_drewN ?_ _) | (with_reducible refine Kd.C_drew ?_))); (case side4 => exact (Kd.R_reads' ao.out).2.1); (case side5 => exact far_slice (IsS104.own_ne HI0.out ao.out (by decide))); rintro e w17 ⟨rfl, hi, hb, hk⟩; refine ⟨_, rfl, ?_⟩; have aj := zK (Kd.R_mono (Kd.R_keep (IsS104.apart (show IsS104 w0 _ g ae a6 a7 from by repeat (first | (with_reducible first | exact HI0.out | apply IsS104.alloc | apply IsS104.drewN | apply IsS104.drew | apply IsS104.set_1 | apply IsS104.set_2) | exact HI0.out)) (zR ab) (by decide)) hk (fun _ h => h.2)) (fun _ h => h.1)); have ak := zK (Kd.R_mono (Kd.R_keep (IsS104.apart (show IsS104 w0 _ g ae a6 a7 from by repeat (first | (with_reducible first | exact HI0.out | apply IsS104.alloc | apply IsS104.drewN | apply IsS104.drew | apply IsS104.set_1 | apply IsS104.set_2) | exact HI0.out)) (zR ao) (by decide)) hk (fun _ h => h.2)) (fun _ h => h.1)); have al := zK (KeepBut.trans (by repeat (first | (with_reducible first | exact HK.out | apply KeepBut.set_ | apply keep_drewN | apply keep_drew | apply keep_alloc) | exact HK.out)) hk (.inl rfl)); have am := zK (hb); have ay := zK (hi); clear ab; clear ao; clear HK; clear HB; clear HI0; have ab := aj; have ao := ak; have HK := al; have HB := am; have HI0 := ay; clear aj ak al am ay; (try clear hb); (try clear hk); (try clear hi)) | ((with_reducible refine gate_builtin (b := .append) (xs := #[.tmp 16, .tmp 31]) rfl ?_); at_builtin; refine Kd.R_append k52 w.heap.size rfl (.tmp 16) (.tmp 31) 42 52 (.agg #[(.int .i64 0), (.int .i64 0), (.int .i64 0)]) 24 rfl Try.underlying42 info52 rfl (by decide) (by omega) (.slice Ao12 aa.length co12) aa (⟨wrap64 ((wrap64 (1 + (wrap64 (3 * (aa.length : Int))))) + aA), an, wrap64 (an + a8)⟩ : S52) [.int .i64 (wrap64 ((wrap64 (1 + (wrap64 (3 * (aa.length : Int))))) + aA)), .int .i64 an, .int .i64 (wrap64 (an + a8))] (fun _ => True) (fun _ => False) rfl rfl ?aP (fun _ hk => hk.elim) ?aF ?aO (Below.refl _ _) ?aS ?aL ?_; (case aP => exact k52_mkM _ _ _ (⟨wrap64 ((wrap64 (1 + (wrap64 (3 * (aa.length : Int))))) + aA), an, wrap64 (an + a8)⟩ : S52)); (case aF => exact (fun _ _ => trivial)); (case aO => exact (zR ab)); (case aS => exact (keep_size (w := w) (g := g) (row := none) (by repeat (first | (with_reducible first | exact HK.out | apply KeepBut.set_ | apply keep_drewN | apply keep_drew | apply keep_alloc) | exact HK.out)))); (case aL => have := bN.out; omega); intro v473 w18 ho hb hg hat; rw [← Ny472.out] at ho; have aj := zK (IsS104.grown (by repeat (first | (with_reducible first | exact HI0.out | apply IsS104.alloc | apply IsS104.drewN | apply IsS104.drew | apply IsS104.set_1 | apply IsS104.set_2) | exact HI0.out)) hg (IsS104.own_ne HI0.out ab.out (by decide))); have ak := zK (Kd.R_over' (zR ao) (Kd.R_typed (zR ab)) (by decide) hg); have al := zK (below_weaken (by repeat (first | (with_reducible first | exact HB.out | apply zB | apply zC | apply zE | refine zS ?_ (IsS104.ge HI0.out)) | exact HB.out)) HL.out hb); have am := zK (KeepBut.trans (by repeat (first | (with_reducible first | exact HK.out | apply KeepBut.set_ | apply keep_drewN | apply keep_drew | apply keep_alloc) | exact HK.out)) (KeepBut.of_grown hg g) (Kd.R_base2 ab.out)); have ay := zK (ho); clear HI0; clear ao; clear HB; clear HK; clear ab; have HI0 := aj; have ao := ak; have HB := al; have HK := am; have bP := ay; clear aj ak al am ay; clear ho hb hg hat))
     go_roundg k1
     case measure => have := HK1.out; omega
     case rel => exact ⟨(bO), (wrap64 (aq - 1)), (bj), (bk), (by first | rfl | (simp; done) | (simp [*]; done)), H', ⟨by have := HK1.out; omega⟩, ⟨zR bP⟩, ⟨by repeat (first | (with_reducible first | exact HI0.out | apply IsS104.alloc | apply IsS104.drewN | apply IsS104.drew | apply IsS104.set_1 | apply IsS104.set_2) | exact HI0.out)⟩, ⟨by repeat (first | (with_reducible first | exact HK.out | apply KeepBut.set_ | apply keep_drewN | apply keep_drew | apply keep_alloc) | exact HK.out)⟩, ⟨by repeat (first | (with_reducible first | exact HB.out | apply zB | apply zC | apply zE | refine zS ?_ (IsS104.ge HI0.out)) | exact HB.out)⟩⟩
    ·rw [if_neg c10] at H
     exact absurd H (by simp)
   ·rw [if_neg c6] at H
    have c6b0 : decide (0 < aq) = false := decide_eq_false c6
    clear c6
    by_cases bM : (aa.length : Int) > 1
    ·rw [if_pos bM] at H
     have bQ : decide (1 < (aa.length : Int)) = true := decide_eq_true bM
     have bR : decide (1 < aa.length) = true := decide_eq_true (by omega)
     clear bM; replace H := Option.bind_eq_some_iff.mp H
     obtain ⟨⟨bS, ar, au⟩, bT, H⟩ := H
     replace H : (if bS = true then (if 0 < (aa.length : Int) then (if 0 ≤ (wrap64 ((aa.length : Int) - 1)) then (if (wrap64 ((aa.length : Int) - 1)) < (aa.length : Int) then (some (((aa.set (0 : Int).toNat (⟨(rd_T52 aa (wrap64 ((aa.length : Int) - 1))).f0, (rd_T52 aa (wrap64 ((aa.length : Int) - 1))).f1, (rd_T52 aa (wrap64 ((aa.length : Int) - 1))).f2⟩ : S52)).set ((wrap64 ((aa.length : Int) - 1)) : Int).toNat (⟨(rd_T52 aa 0).f0, (rd_T52 aa 0).f1, (rd_T52 aa 0).f2⟩ : S52)), ar, au)) else (none)) else (none)) else (none)) else (some (aa, ar, au))) = some (r1, r2, r3) := H
     have bL := zK bT; clear bT
     by_cases c21 : bS = true
     ·subst c21
      have H1 : (if 0 < (aa.length : Int) then (if 0 ≤ (wrap64 ((aa.length : Int) - 1)) then (if (wrap64 ((aa.length : Int) - 1)) < (aa.length : Int) then (some (((aa.set (0 : Int).toNat (⟨(rd_T52 aa (wrap64 ((aa.length : Int) - 1))).f0, (rd_T52 aa (wrap64 ((aa.length : Int) - 1))).f1, (rd_T52 aa (wrap64 ((aa.length : Int) - 1))).f2⟩ : S52)).set ((wrap64 ((aa.length : Int) - 1)) : Int).toNat (⟨(rd_T52 aa 0).f0, (rd_T52 aa 0).f1, (rd_T52 aa 0).f2⟩ : S52)), ar, au)) else (none)) else (none)) else (none)) = some (r1, r2, r3) := by rw [if_pos rfl] at H; exact H
      clear H; have H := H1; clear H1
      by_cases c22 : 0 < (aa.length : Int)
      ·rw [if_pos c22] at H
       have c22b0 : decide (0 < (aa.length : Int)) = true := decide_eq_true c22
       have c22b1 : decide (0 < aa.length) = true := decide_eq_true (by omega)
       clear c22
       obtain ⟨ac, aD⟩ : ∃ j_ : Int, (wrap64 ((aa.length : Int) - 1)) = j_ := ⟨_, rfl⟩
       replace H : (if 0 ≤ (ac) then (if (ac) < (aa.length : Int) then (some (((aa.set (0 : Int).toNat (⟨(rd_T52 aa (ac)).f0, (rd_T52 aa (ac)).f1, (rd_T52 aa (ac)).f2⟩ : S52)).set ((ac) : Int).toNat (⟨(rd_T52 aa 0).f0, (rd_T52 aa 0).f1, (rd_T52 aa 0).f2⟩ : S52)), ar, au)) else (none)) else (none)) = some (r1, r2, r3) := by first | (rw [aD] at H; exact H) | (simp only [aD] at H ⊢; exact H)
       (try rw [aD] at bL)
       have hji23w : (IntKind.i64.wrap ((aa.length : Int) - 1)) = ac := (i64_w _).trans aD
       by_cases c24 : 0 ≤ (ac)
       ·rw [if_pos c24] at H
        have c24b0 : decide (0 ≤ (ac)) = true := decide_eq_true c24
        clear c24
        by_cases c25 : (ac) < (aa.length : Int)
        ·rw [if_pos c25] at H
         have c25b0 : decide ((ac) < (aa.length : Int)) = true := decide_eq_true c25
         clear c25
         obtain ⟨aJ, aE⟩ : ∃ y_ : List (S52), y_ = (aa.set (0 : Int).toNat (⟨(rd_T52 aa (ac)).f0, (rd_T52 aa (ac)).f1, (rd_T52 aa (ac)).f2⟩ : S52)) := ⟨_, rfl⟩
         replace H : (some ((aJ.set ((ac) : Int).toNat (⟨(rd_T52 aa 0).f0, (rd_T52 aa 0).f1, (rd_T52 aa 0).f2⟩ : S52)), ar, au)) = some (r1, r2, r3) := by first | (rw [aE]; with_reducible exact H) | (have H2_ := (Option.bind_some _ _).symm.trans H; rw [aE]; with_reducible exact H2_) | (have H2_ := (Option.bind_some _ _).symm.trans H; with_reducible exact H2_) | with_reducible exact H | (rw [aE]; exact H) | exact H
         have Ny481 := zK aE; clear aE
         obtain ⟨bU, aG⟩ : ∃ y_ : List (S52), y_ = (aJ.set ((ac) : Int).toNat (⟨(rd_T52 aa 0).f0, (rd_T52 aa 0).f1, (rd_T52 aa 0).f2⟩ : S52)) := ⟨_, rfl⟩
         replace H : (some (bU, ar, au)) = some (r1, r2, r3) := by first | (rw [aG]; with_reducible exact H) | (have H2_ := (Option.bind_some _ _).symm.trans H; rw [aG]; with_reducible exact H2_) | (have H2_ := (Option.bind_some _ _).symm.trans H; with_reducible exact H2_) | with_reducible exact H | (rw [aG]; exact H) | exact H
         have Ny482 := zK aG; clear aG
         simp only [Option.some.injEq, Prod.mk.injEq] at H
         obtain ⟨rfl, rfl, rfl⟩ := H
         obtain ⟨Ao28, ba, eo28⟩ := Kd.R_slice ab.out
         subst eo28
         go_wp2_with (first | (go_at_call 105; (with_reducible refine (spec_l01Once.calls g ae ag ah 2 true ar au w0 _ ?side1 ?side2 bL.out).mono ?_); (case side1 => repeat (first | (with_reducible first | exact HI0.out | apply IsS104.alloc | apply IsS104.drewN | apply IsS104.drew | apply IsS104.set_1 | apply IsS104.set_2) | exact HI0.out)); (case side2 => repeat (first | (with_reducible first | exact HB.out | apply zB | apply zC | apply zE | refine zS ?_ (IsS104.ge HI0.out)) | exact HB.out)); rintro e w29 ⟨rfl, hi, hb, hk⟩; have aj := zK (Kd.R_mono (Kd.R_keep (IsS104.apart (show IsS104 w0 _ g ae ag ah from by repeat (first | (with_reducible first | exact HI0.out | apply IsS104.alloc | apply IsS104.drewN | apply IsS104.drew | apply IsS104.set_1 | apply IsS104.set_2) | exact HI0.out)) (zR ab) (by decide)) hk (fun _ h => h.2)) (fun _ h => h.1)); have ak := zK (KeepBut.trans (by repeat (first | (with_reducible first | exact HK.out | apply KeepBut.set_ | apply keep_drewN | apply keep_drew | apply keep_alloc) | exact HK.out)) hk (.inl rfl)); have al := zK (hb); have am := zK (hi); clear ab; clear HK; clear HB; clear HI0; have ab := aj; have HK := ak; have HB := al; have HI0 := am; clear aj ak al am; (try clear hb); (try clear hk); (try clear hi); have bz : 0 ≤ (0 : Int) := (by omega); have bA : 0 < (aa.length : Int) := of_decide_eq_true (by first | (with_reducible assumption) | assumption); obtain ⟨bp, e478, av, aw, ax⟩ := at_T52 (Kd.R_reads' ab.out).2.2 0 bz bA; cases e478; have qi478 : (0 < aa.length) = True := eq_true (by omega); (try rw [show ((0 : Int)).toNat = 0 from rfl] at av); (try rw [show 0 * 3 = 0 from rfl] at av); (try rw [Addr.add_zero'] at av); (try rw [show ((0 : Int)).toNat = 0 from rfl] at aw); (try rw [show 0 * 3 = 0 from rfl] at aw); (try rw [Addr.add_zero'] at aw); (try rw [show ((0 : Int)).toNat = 0 from rfl] at ax); (try rw [show 0 * 3 = 0 from rfl] at ax); (try rw [Addr.add_zero'] at ax); replace bz := eq_true bz; replace bA := eq_true bA) | ((with_reducible refine gate_dst (N := 6) rfl ?_); refine box_event ?hg (N := 6) ?hd (cs := #[.int .i64 0, .int .i64 0, .int .i64 0]) (t := 52) ?hr ?_; (case hd => rfl); (case hg => rfl); (case hr => first | (go_simp; done) | (go_simp; rfl)); intro ad hg w30 hbox hb; have aj := zK (Kd.R_below (Kd.R_elderB (zR ab) ad (Nat.le_of_eq hg.symm)) hb); have ak := zK (IsS104.below (by repeat (first | (with_reducible first | exact HI0.out | apply IsS104.alloc | apply IsS104.drewN | apply IsS104.drew | apply IsS104.set_1 | apply IsS104.set_2) | exact HI0.out)) hb); have al := zK (KeepBut.trans (by repeat (first | (with_reducible first | exact HK.out | apply KeepBut.set_ | apply keep_drewN | apply keep_drew | apply keep_alloc) | exact HK.out)) (KeepBut.of_below hb g none) (.inl rfl)); have am := zK (below_step (by repeat (first | (with_reducible first | exact HB.out | apply zB | apply zC | apply zE | refine zS ?_ (IsS104.ge HI0.out)) | exact HB.out)) hb); have ay := zK (hbox); have n5_ := zK ((by rw [hg]; exact (keep_size (w := w) (g := g) (row := none) (by repeat (first | (with_reducible first | exact HK.out | apply KeepBut.set_ | apply keep_drewN | apply keep_drew | apply keep_alloc) | exact HK.out))) : w.heap.size ≤ ad)); have n6_ := zK ((Nat.le_trans HW0.out (by rw [hg]; exact (keep_size (w := w) (g := g) (row := none) (by repeat (first | (with_reducible first | exact HK.out | apply KeepBut.set_ | apply keep_drewN | apply keep_drew | apply keep_alloc) | exact HK.out))) : w.heap.size ≤ ad) : w0.heap.size ≤ ad)); have n7_ := zK ((by rw [hg]; exact Nat.ne_of_lt (IsS104.lt (show IsS104 w0 _ g ae ar au from by repeat (first | (with_reducible first | exact HI0.out | apply IsS104.alloc | apply IsS104.drewN | apply IsS104.drew | apply IsS104.set_1 | apply IsS104.set_2) | exact HI0.out))) : g ≠ ad)); have n8_ := zK ((by rw [hg]; exact Nat.ne_of_gt (IsS104.lt (show IsS104 w0 _ g ae ar au from by repeat (first | (with_reducible first | exact HI0.out | apply IsS104.alloc | apply IsS104.drewN | apply IsS104.drew | apply IsS104.set_1 | apply IsS104.set_2) | exact HI0.out))) : ad ≠ g)); clear ab; clear HI0; clear HK; clear HB; have ab := aj; have HI0 := ak; have HK := al; have HB := am; have af := ay; have aW := n5_; have bq := n6_; have ap := n7_; have bl := n8_; clear aj ak al am ay n5_ n6_ n7_ n8_; clear hb hbox hg; have hnb31 := bl.out; have hnc31 := ap.out; have hcz32_0 : w30.cell? ⟨ad, 0, none⟩ = some (.int .i64 0) := (blk_cell af.out 0).trans rfl; have hcz32_1 : w30.cell? ⟨ad, 1, none⟩ = some (.int .i64 0) := (blk_cell af.out 1).trans rfl; have hcz32_2 : w30.cell? ⟨ad, 2, none⟩ = some (.int .i64 0) := (blk_cell af.out 2).trans rfl; have hfz32_0 := blk_frozen af.out 0; have hfz32_1 := blk_frozen af.out 1; have hfz32_2 := blk_frozen af.out 2) | ((with_reducible refine gate_store (t := 52) (p := 6) rfl ?_); refine store_event (t := 52) (p := 6) (v := ?vo_w33) (w1 := (((w30.setCell ⟨ad, 0, none⟩ (.int .i64 ((rd_T52 aa 0).f0))).setCell ⟨ad, 1, none⟩ (.int .i64 ((rd_T52 aa 0).f1))).setCell ⟨ad, 2, none⟩ (.int .i64 ((rd_T52 aa 0).f2)))) ?hg ?ho ?hn ?hr ?_; (case ho => rfl); (case hg => rfl); (case hn => rfl); (case hr => first | (go_simp; done) | (go_simp; rfl)); intro aX hw; have aj : Aside0 (Kd.R k52 52 aX w.heap.size (fun k_ => k_ ≠ ad) (.slice (some bp) aa.length ba) aa) := ⟨(by rw [hw]; exact (by (with_reducible repeat (first | apply Kd.R_alloc | apply Kd.R_drewN | apply Kd.R_drew)); exact Kd.R_mono (Kd.R_far (p := ⟨ad, 2, none⟩) (Kd.R_far (p := ⟨ad, 1, none⟩) (Kd.R_far (p := ⟨ad, 0, none⟩) (Kd.R_mono ab.out (fun k_ hk => (⟨hk, hk.2⟩ : _ ∧ k_ ≠ ad))) (fun _ hk => hk.2) (.int .i64 ((rd_T52 aa 0).f0))) (fun _ hk => hk.2) (.int .i64 ((rd_T52 aa 0).f1))) (fun _ hk => hk.2) (.int .i64 ((rd_T52 aa 0).f2))) (fun _ hk => hk.1.2)))⟩; have ak : Aside0 (aX.heap[ad]? = some (.cells #[.int .i64 ((rd_T52 aa 0).f0), .int .i64 ((rd_T52 aa 0).f1), .int .i64 ((rd_T52 aa 0).f2)] 52 (0, 0))) := ⟨(by rw [hw]; exact (by (with_reducible repeat (first | refine zN ?_ _ | refine zD ?_ | refine zA ?_ _)); refine blk_put (cs := #[.int .i64 ((rd_T52 aa 0).f0), .int .i64 ((rd_T52 aa 0).f1), .int .i64 0]) ?_ 2 _ rfl; (with_reducible repeat (first | refine zN ?_ _ | refine zD ?_ | refine zA ?_ _)); refine blk_put (cs := #[.int .i64 ((rd_T52 aa 0).f0), .int .i64 0, .int .i64 0]) ?_ 1 _ rfl; (with_reducible repeat (first | refine zN ?_ _ | refine zD ?_ | refine zA ?_ _)); refine blk_put (cs := #[.int .i64 0, .int .i64 0, .int .i64 0]) ?_ 0 _ rfl; (with_reducible repeat (first | refine zN ?_ _ | refine zD ?_ | refine zA ?_ _)); exact af.out))⟩; have al : Aside0 (IsS104 w0 aX g ae ar au) := ⟨(by rw [hw]; exact (by repeat (first | (with_reducible first | exact HI0.out | apply IsS104.alloc | apply IsS104.drewN | apply IsS104.drew | apply IsS104.set_1 | apply IsS104.set_2 | refine IsS104.far ?_ ap.out _) | exact HI0.out)))⟩; have am : Aside0 (KeepBut w aX g none) := ⟨(by rw [hw]; exact (by repeat (first | (with_reducible first | exact HK.out | apply KeepBut.set_ | apply keep_drewN | apply keep_drew | apply keep_alloc | refine keep_far ?_ aW.out _) | exact HK.out)))⟩; have ay : Aside0 (Below w0.heap.size w0 aX) := ⟨(by rw [hw]; exact (by repeat (first | (with_reducible first | exact HB.out | apply zB | apply zC | apply zE | refine zS ?_ (IsS104.ge HI0.out) | refine zS ?_ bq.out) | exact HB.out)))⟩; clear hw; clear ab; clear af; clear HI0; clear HK; clear HB; have ab := aj; have af := ak; have HI0 := al; have HK := am; have HB := ay; clear aj ak al am ay; have bB : 0 ≤ ((ac) : Int) := of_decide_eq_true (by first | (with_reducible assumption) | assumption); have bC : (ac) < (aa.length : Int) := of_decide_eq_true (by first | (with_reducible assumption) | assumption); obtain ⟨bV, e480, bm, bn, bo⟩ := at_T52 (Kd.R_reads' ab.out).2.2 (ac) bB bC; obtain rfl : bp = bV := (by injection e480); replace bB := eq_true bB; replace bC := eq_true bC; have p26 : 0 ≤ (0 : Int) := (by omega); have q26 : (0 : Int) < ((aa.length : Int) : Int) := of_decide_eq_true (by first | (with_reducible assumption) | assumption); have qi26 : (0 < aa.length) = True := eq_true (by omega); obtain ⟨ai, co26, bW, bX, gl26, cl26, bY⟩ := Kd.R_form ab.out (by omega); (first | cases bW | (injection bW with ea_ en_ ec_; (first | subst ea_ | (injection ea_ with ea_; subst ea_)); subst ec_; clear en_)); have a9 := zK bX; have GG26 := zK bY; clear bX gl26 bY; (first | simp only [add_plain] at av | skip); (first | simp only [add_plain] at aw | skip); (first | simp only [add_plain] at ax | skip); (first | simp only [add_plain] at bm | skip); (first | simp only [add_plain] at bn | skip); (first | simp only [add_plain] at bo | skip); obtain ⟨ce26, bZ, b0, aY, aZ⟩ := Kd.R_elem ab.out z52 (0 : Int) p26 q26; obtain rfl := k52_openM b0; have bb : aX.cell? ⟨ai, (0 : Int).toNat * 3, none⟩ = some (.int .i64 ((rd_T52 aa 0).f0)) := aY 0 _ rfl; have bc : aX.cell? ⟨ai, (0 : Int).toNat * 3 + 1, none⟩ = some (.int .i64 ((rd_T52 aa 0).f1)) := aY 1 _ rfl; have bd : aX.cell? ⟨ai, (0 : Int).toNat * 3 + 2, none⟩ = some (.int .i64 ((rd_T52 aa 0).f2)) := aY 2 _ rfl; have be : aX.frozen? ⟨ai, (0 : Int).toNat * 3, none⟩ = false := aZ 0; have bf : aX.frozen? ⟨ai, (0 : Int).toNat * 3 + 1, none⟩ = false := aZ 1; have bg : aX.frozen? ⟨ai, (0 : Int).toNat * 3 + 2, none⟩ = false := aZ 2; clear bZ aY aZ; (try clear b0); (try rw [show ((0 : Int)).toNat = 0 from rfl] at bb); (try simp only [Nat.reduceMul, Nat.zero_mul, Nat.zero_add, Nat.reduceAdd] at bb); (try rw [show ((0 : Int)).toNat = 0 from rfl] at be); (try simp only [Nat.reduceMul, Nat.zero_mul, Nat.zero_add, Nat.reduceAdd] at be); (try rw [show ((0 : Int)).toNat = 0 from rfl] at bc); (try simp only [Nat.reduceMul, Nat.zero_mul, Nat.zero_add, Nat.reduceAdd] at bc); (try rw [show ((0 : Int)).toNat = 0 from rfl] at bf); (try simp only [Nat.reduceMul, Nat.zero_mul, Nat.zero_add, Nat.reduceAdd] at bf); (try rw [show ((0 : Int)).toNat = 0 from rfl] at bd); (try simp only [Nat.reduceMul, Nat.zero_mul, Nat.zero_add, Nat.reduceAdd] at bd); (try rw [show ((0 : Int)).toNat = 0 from rfl] at bg); (try simp only [Nat.reduceMul, Nat.zero_mul, Nat.zero_add, Nat.reduceAdd] at bg); replace p26 := eq_true p26; replace q26 := eq_true q26; have b1 := zK (show Kd.R k52 52 aX w.heap.size (fun k_ => k_ ≠ ad) (.slice (some ⟨ai, 0, none⟩) aa.length ba) aa from (zR ab)); obtain ⟨ce34, br, b2, aH, a0⟩ := Kd.R_elem b1.out z52 (0 : Int) (by omega) (by have h_ : (0 : Int) < ((aa.length : Int) : Int) := of_decide_eq_true (by first | (with_reducible assumption) | assumption); first | exact h_ | (have e_ := (Kd.R_reads' ab.out).1; omega) | simpa using h_); obtain rfl := k52_openM b2; have bD := Kd.R_seg b1.out (0 : Int) (by omega) (by have h_ : (0 : Int) < ((aa.length : Int) : Int) := of_decide_eq_true (by first | (with_reducible assumption) | assumption); first | exact h_ | (have e_ := (Kd.R_reads' ab.out).1; omega) | simpa using h_) (seg := [.int .i64 ((rd_T52 aa (ac)).f0), .int .i64 ((rd_T52 aa (ac)).f1), .int .i64 ((rd_T52 aa (ac)).f2)]) (j := 0) br aH (show 3 ≤ 3 from by decide) (x' := (⟨(rd_T52 aa (ac)).f0, (rd_T52 aa (ac)).f1, (rd_T52 aa (ac)).f2⟩ : S52)) (k52_mkM _ _ _ (⟨(rd_T52 aa (ac)).f0, (rd_T52 aa (ac)).f1, (rd_T52 aa (ac)).f2⟩ : S52) ) (fun _ hk => hk); have aK := aH 0 _ rfl; (try simp only [show (k52).sz = 3 from rfl, Nat.mul_one, Nat.add_zero] at aK); (try rw [show ((0 : Int)).toNat = 0 from rfl] at aK); (try simp only [Nat.reduceMul, Nat.zero_mul, Nat.zero_add, Nat.reduceAdd] at aK); have aM := a0 0; (try simp only [show (k52).sz = 3 from rfl, Nat.mul_one, Nat.add_zero] at aM); (try rw [show ((0 : Int)).toNat = 0 from rfl] at aM); (try simp only [Nat.reduceMul, Nat.zero_mul, Nat.zero_add, Nat.reduceAdd] at aM); have aN := aH 1 _ rfl; (try simp only [show (k52).sz = 3 from rfl, Nat.mul_one, Nat.add_zero] at aN); (try rw [show ((0 : Int)).toNat = 0 from rfl] at aN); (try simp only [Nat.reduceMul, Nat.zero_mul, Nat.zero_add, Nat.reduceAdd] at aN); have aQ := a0 1; (try simp only [show (k52).sz = 3 from rfl, Nat.mul_one, Nat.add_zero] at aQ); (try rw [show ((0 : Int)).toNat = 0 from rfl] at aQ); (try simp only [Nat.reduceMul, Nat.zero_mul, Nat.zero_add, Nat.reduceAdd] at aQ); have aR := aH 2 _ rfl; (try simp only [show (k52).sz = 3 from rfl, Nat.mul_one, Nat.add_zero] at aR); (try rw [show ((0 : Int)).toNat = 0 from rfl] at aR); (try simp only [Nat.reduceMul, Nat.zero_mul, Nat.zero_add, Nat.reduceAdd] at aR); have aT := a0 2; (try simp only [show (k52).sz = 3 from rfl, Nat.mul_one, Nat.add_zero] at aT); (try rw [show ((0 : Int)).toNat = 0 from rfl] at aT); (try simp only [Nat.reduceMul, Nat.zero_mul, Nat.zero_add, Nat.reduceAdd] at aT); clear br aH a0; (try clear b2)) | ((with_reducible refine gate_store (t := 52) (p := 50) rfl ?_); refine store_event (t := 52) (p := 50) (v := ?vo_w35) (w1 := (((aX.setCell ⟨ai, 0, none⟩ (.int .i64 ((rd_T52 aa (ac)).f0))).setCell ⟨ai, 1, none⟩ (.int .i64 ((rd_T52 aa (ac)).f1))).setCell ⟨ai, 2, none⟩ (.int .i64 ((rd_T52 aa (ac)).f2)))) ?hg ?ho ?hn ?hr ?_; (case ho => rfl); (case hg => rfl); (case hn => rfl); (case hr => first | (go_simp; done) | (go_simp; rfl)); intro aU hw; have hg : aX.grownBy aU (some ai) := (by rw [hw]; exact bD.2); have hp_ : Kd.R k52 52 aU w.heap.size (fun k_ => k_ ≠ ad) (.slice (some ⟨ai, 0, none⟩) aa.length ba) aJ := (by rw [hw, Ny481.out]; exact bD.1); clear bD; have aj := zK (hp_); have ak := zK (IsS104.grown (by repeat (first | (with_reducible first | exact HI0.out | apply IsS104.alloc | apply IsS104.drewN | apply IsS104.drew | apply IsS104.set_1 | apply IsS104.set_2 | refine IsS104.far ?_ ap.out _) | exact HI0.out)) hg (IsS104.own_ne HI0.out ab.out (by decide))); have al := zK (blk_grown (g := ad) (o := .cells #[.int .i64 ((rd_T52 aa 0).f0), .int .i64 ((rd_T52 aa 0).f1), .int .i64 ((rd_T52 aa 0).f2)] 52 (0, 0)) (zk af) hg (Kd.R_away ab.out (fun _ hk => hk))); have am := zK ((by rw [hw]; exact zS (zS (zS (HB.out) (Nat.le_trans HL.out a9.out)) (Nat.le_trans HL.out a9.out)) (Nat.le_trans HL.out a9.out) : Below w0.heap.size w0 aU)); have ay := zK (KeepBut.trans (by repeat (first | (with_reducible first | exact HK.out | apply KeepBut.set_ | apply keep_drewN | apply keep_drew | apply keep_alloc | refine keep_far ?_ aW.out _) | exact HK.out)) (KeepBut.of_grown hg g) (Kd.R_base2 ab.out)); clear ab; clear HI0; clear af; clear HB; clear HK; have ab := aj; have HI0 := ak; have af := al; have HB := am; have HK := ay; clear aj ak al am ay; clear hg hw hp_; have hcz36_0 : aU.cell? ⟨ad, 0, none⟩ = some (.int .i64 ((rd_T52 aa 0).f0)) := (blk_cell af.out 0).trans rfl; have hcz36_1 : aU.cell? ⟨ad, 1, none⟩ = some (.int .i64 ((rd_T52 aa 0).f1)) := (blk_cell af.out 1).trans rfl; have hcz36_2 : aU.cell? ⟨ad, 2, none⟩ = some (.int .i64 ((rd_T52 aa 0).f2)) := (blk_cell af.out 2).trans rfl; have hfz36_0 := blk_frozen af.out 0; have hfz36_1 := blk_frozen af.out 1; have hfz36_2 := blk_frozen af.out 2; have p27 : 0 ≤ ((ac) : Int) := of_decide_eq_true (by first | (with_reducible assumption) | assumption); have q27 : ((ac) : Int) < ((aa.length : Int) : Int) := of_decide_eq_true (by first | (with_reducible assumption) | assumption); obtain ⟨ce27, b3, b4, a1, a2⟩ := Kd.R_elem ab.out z52 ((ac) : Int) p27 q27; obtain rfl := k52_openM b4; have hx27_0 : aU.cell? ⟨ai, ((ac) : Int).toNat * 3, none⟩ = some (.int .i64 ((rd_T52 aJ (ac)).f0)) := a1 0 _ rfl; have hx27_1 : aU.cell? ⟨ai, ((ac) : Int).toNat * 3 + 1, none⟩ = some (.int .i64 ((rd_T52 aJ (ac)).f1)) := a1 1 _ rfl; have hx27_2 : aU.cell? ⟨ai, ((ac) : Int).toNat * 3 + 2, none⟩ = some (.int .i64 ((rd_T52 aJ (ac)).f2)) := a1 2 _ rfl; have hf27_0 : aU.frozen? ⟨ai, ((ac) : Int).toNat * 3, none⟩ = false := a2 0; have hf27_1 : aU.frozen? ⟨ai, ((ac) : Int).toNat * 3 + 1, none⟩ = false := a2 1; have hf27_2 : aU.frozen? ⟨ai, ((ac) : Int).toNat * 3 + 2, none⟩ = false := a2 2; clear b3 a1 a2; (try clear b4); replace p27 := eq_true p27; replace q27 := eq_true q27; have b5 := zK (show Kd.R k52 52 aU w.heap.size (fun k_ => k_ ≠ ad) (.slice (some ⟨ai, 0, none⟩) aa.length ba) aJ from (zR ab)); obtain ⟨ce37, bs, b6, aI, a3⟩ := Kd.R_elem b5.out z52 ((ac) : Int) (of_decide_eq_true (by first | (with_reducible assumption) | assumption)) (by have h_ : ((ac) : Int) < ((aa.length : Int) : Int) := of_decide_eq_true (by first | (with_reducible assumption) | assumption); first | exact h_ | (have e_ := (Kd.R_reads' ab.out).1; omega) | simpa using h_); obtain rfl := k52_openM b6; have bE := Kd.R_seg b5.out ((ac) : Int) (of_decide_eq_true (by first | (with_reducible assumption) | assumption)) (by have h_ : ((ac) : Int) < ((aa.length : Int) : Int) := of_decide_eq_true (by first | (with_reducible assumption) | assumption); first | exact h_ | (have e_ := (Kd.R_reads' ab.out).1; omega) | simpa using h_) (seg := [.int .i64 ((rd_T52 aa 0).f0), .int .i64 ((rd_T52 aa 0).f1), .int .i64 ((rd_T52 aa 0).f2)]) (j := 0) bs aI (show 3 ≤ 3 from by decide) (x' := (⟨(rd_T52 aa 0).f0, (rd_T52 aa 0).f1, (rd_T52 aa 0).f2⟩ : S52)) (k52_mkM _ _ _ (⟨(rd_T52 aa 0).f0, (rd_T52 aa 0).f1, (rd_T52 aa 0).f2⟩ : S52) ) (fun _ hk => hk); have bF := aI 0 _ rfl; (try simp only [show (k52).sz = 3 from rfl, Nat.mul_one, Nat.add_zero] at bF); have bG := a3 0; (try simp only [show (k52).sz = 3 from rfl, Nat.mul_one, Nat.add_zero] at bG); have bH := aI 1 _ rfl; (try simp only [show (k52).sz = 3 from rfl, Nat.mul_one, Nat.add_zero] at bH); have bI := a3 1; (try simp only [show (k52).sz = 3 from rfl, Nat.mul_one, Nat.add_zero] at bI); have bJ := aI 2 _ rfl; (try simp only [show (k52).sz = 3 from rfl, Nat.mul_one, Nat.add_zero] at bJ); have bK := a3 2; (try simp only [show (k52).sz = 3 from rfl, Nat.mul_one, Nat.add_zero] at bK); clear bs aI a3; (try clear b6)) | ((with_reducible refine gate_store (t := 52) (p := 56) rfl ?_); refine store_event (t := 52) (p := 56) (v := ?vo_w38) (w1 := (((aU.setCell ⟨ai, ((ac) : Int).toNat * 3, none⟩ (.int .i64 ((rd_T52 aa 0).f0))).setCell ⟨ai, ((ac) : Int).toNat * 3 + 1, none⟩ (.int .i64 ((rd_T52 aa 0).f1))).setCell ⟨ai, ((ac) : Int).toNat * 3 + 2, none⟩ (.int .i64 ((rd_T52 aa 0).f2)))) ?hg ?ho ?hn ?hr ?_; (case ho => rfl); (case hg => rfl); (case hn => rfl); (case hr => first | (go_simp; done) | (go_simp; rfl)); intro w38 hw; have hg : aU.grownBy w38 (some ai) := (by rw [hw]; exact bE.2); have hp_ : Kd.R k52 52 w38 w.heap.size (fun k_ => k_ ≠ ad) (.slice (some ⟨ai, 0, none⟩) aa.length ba) bU := (by rw [hw, Ny482.out]; exact bE.1); clear bE; have aj := zK (hp_); have ak := zK (IsS104.grown (by repeat (first | (with_reducible first | exact HI0.out | apply IsS104.alloc | apply IsS104.drewN | apply IsS104.drew | apply IsS104.set_1 | apply IsS104.set_2 | refine IsS104.far ?_ ap.out _) | exact HI0.out)) hg (IsS104.own_ne HI0.out ab.out (by decide))); have al := zK (blk_grown (g := ad) (o := .cells #[.int .i64 ((rd_T52 aa 0).f0), .int .i64 ((rd_T52 aa 0).f1), .int .i64 ((rd_T52 aa 0).f2)] 52 (0, 0)) (zk af) hg (Kd.R_away ab.out (fun _ hk => hk))); have am := zK ((by rw [hw]; exact zS (zS (zS (HB.out) (Nat.le_trans HL.out a9.out)) (Nat.le_trans HL.out a9.out)) (Nat.le_trans HL.out a9.out) : Below w0.heap.size w0 w38)); have ay := zK (KeepBut.trans (by repeat (first | (with_reducible first | exact HK.out | apply KeepBut.set_ | apply keep_drewN | apply keep_drew | apply keep_alloc | refine keep_far ?_ aW.out _) | exact HK.out)) (KeepBut.of_grown hg g) (Kd.R_base2 ab.out)); clear ab; clear HI0; clear af; clear HB; clear HK; have ab := aj; have HI0 := ak; have af := al; have HB := am; have HK := ay; clear aj ak al am ay; clear hg hw hp_))
         go_ret
         exact ⟨_, by first | rfl | (simp [errW_none, errW_some] <;> rfl) | (simp only [← aD]; first | rfl | (simp [errW_none, errW_some] <;> rfl)) | (simp [*, errW_none, errW_some] <;> rfl), by (with_reducible repeat (first | apply Kd.R_alloc | apply Kd.R_drewN | apply Kd.R_drew)); exact Kd.R_mono ab.out (fun _ hk => trivial), by repeat (first | (with_reducible first | exact HI0.out | apply IsS104.alloc | apply IsS104.drewN | apply IsS104.drew | apply IsS104.set_1 | apply IsS104.set_2 | refine IsS104.far ?_ ap.out _) | exact HI0.out), by repeat (first | (with_reducible first | exact HB.out | apply zB | apply zC | apply zE | refine zS ?_ (IsS104.ge HI0.out) | refine zS ?_ bq.out) | exact HB.out), by repeat (first | (with_reducible first | exact HK.out | apply KeepBut.set_ | apply keep_drewN | apply keep_drew | apply keep_alloc | refine keep_far ?_ aW.out _) | exact HK.out)⟩
        ·rw [if_neg c25] at H
         exact absurd H (by simp)
       ·rw [if_neg c24] at H
        exact absurd H (by simp)
      ·rw [if_neg c22] at H
       exact absurd H (by simp)
     ·replace c21 := Bool.eq_false_iff.mpr c21
      subst c21
      have H1 : (some (aa, ar, au)) = some (r1, r2, r3) := by rw [if_neg (show ¬ (false = true) by decide)] at H; exact H
      clear H; have H := H1; clear H1
      simp only [Option.some.injEq, Prod.mk.injEq] at H
      obtain ⟨rfl, rfl, rfl⟩ := H
      obtain ⟨Ao39, co39, eo39⟩ := Kd.R_slice ab.out
      subst eo39
      go_wp2_with (first | (go_at_call 105; (with_reducible refine (spec_l01Once.calls g ae ag ah 2 false ar au w0 _ ?side1 ?side2 bL.out).mono ?_); (case side1 => repeat (first | (with_reducible first | exact HI0.out | apply IsS104.alloc | apply IsS104.drewN | apply IsS104.drew | apply IsS104.set_1 | apply IsS104.set_2) | exact HI0.out)); (case side2 => repeat (first | (with_reducible first | exact HB.out | apply zB | apply zC | apply zE | refine zS ?_ (IsS104.ge HI0.out)) | exact HB.out)); rintro e w40 ⟨rfl, hi, hb, hk⟩; have aj := zK (Kd.R_mono (Kd.R_keep (IsS104.apart (show IsS104 w0 _ g ae ag ah from by repeat (first | (with_reducible first | exact HI0.out | apply IsS104.alloc | apply IsS104.drewN | apply IsS104.drew | apply IsS104.set_1 | apply IsS104.set_2) | exact HI0.out)) (zR ab) (by decide)) hk (fun _ h => h.2)) (fun _ h => h.1)); have ak := zK (KeepBut.trans (by repeat (first | (with_reducible first | exact HK.out | apply KeepBut.set_ | apply keep_drewN | apply keep_drew | apply keep_alloc) | exact HK.out)) hk (.inl rfl)); have al := zK (hb); have am := zK (hi); clear ab; clear HK; clear HB; clear HI0; have ab := aj; have HK := ak; have HB := al; have HI0 := am; clear aj ak al am; (try clear hb); (try clear hk); (try clear hi)))
      go_ret
      exact ⟨_, by first | rfl | (simp [errW_none, errW_some] <;> rfl) | (simp [*, errW_none, errW_some] <;> rfl), by (with_reducible repeat (first | apply Kd.R_alloc | apply Kd.R_drewN | apply Kd.R_drew)); exact ab.out, by repeat (first | (with_reducible first | exact HI0.out | apply IsS104.alloc | apply IsS104.drewN | apply IsS104.drew | apply IsS104.set_1 | apply IsS104.set_2) | exact HI0.out), by repeat (first | (with_reducible first | exact HB.out | apply zB | apply zC | apply zE | refine zS ?_ (IsS104.ge HI0.out)) | exact HB.out), by repeat (first | (with_reducible first | exact HK.out | apply KeepBut.set_ | apply keep_drewN | apply keep_drew | apply keep_alloc) | exact HK.out)⟩
    ·rw [if_neg bM] at H
     have bQ : decide (1 < (aa.length : Int)) = false := decide_eq_false bM
     have bR : decide (1 < aa.length) = false := decide_eq_false (by omega)
     clear bM
     simp only [Option.some.injEq, Prod.mk.injEq] at H
     obtain ⟨rfl, rfl, rfl⟩ := H
     obtain ⟨Ao41, co41, eo41⟩ := Kd.R_slice ab.out
     subst eo41
     go_wp2
     go_ret
     exact ⟨_, by first | rfl | (simp [errW_none, errW_some] <;> rfl) | (simp [*, errW_none, errW_some] <;> rfl), by (with_reducible repeat (first | apply Kd.R_alloc | apply Kd.R_drewN | apply Kd.R_drew)); exact ab.out, by repeat (first | (with_reducible first | exact HI0.out | apply IsS104.alloc | apply IsS104.drewN | apply IsS104.drew | apply IsS104.set_1 | apply IsS104.set_2) | exact HI0.out), by repeat (first | (with_reducible first | exact HB.out | apply zB | apply zC | apply zE | refine zS ?_ (IsS104.ge HI0.out)) | exact HB.out), by repeat (first | (with_reducible first | exact HK.out | apply KeepBut.set_ | apply keep_drewN | apply keep_drew | apply keep_alloc) | exact HK.out)⟩
def spec_l03Sights.l0 : Nat → List (S89) → Int → Int → List Int → Int → Int → Option ((List (S89)) × Int × Int)
 | 0, _, _, _, _, _, _ => none
 | k + 1, x3, x4, x5, x1000, x1001, x1002 => if x5 > 0 then ((spec_l01Once.f x1000 x1001 x1002 4).bind fun bt522 => (if bt522.1 = true then ((spec_l01Below.f x1000 bt522.2.1 bt522.2.2 3).bind fun bt525 => (if x3.length < 8796093022208 then ((spec_l01PickInt.f x1000 bt525.2.1 bt525.2.2 (([0, 0, 1, 2, 3, 6] : List Int))).bind fun bt534 => (spec_l03Sights.l0 k (x3 ++ [(⟨x4, wrap64 ((wrap64 ((wrap64 (3 * (x3.length : Int))) + 1)) + bt525.1)⟩ : S89)]) (wrap64 (x4 + bt534.1)) (wrap64 (x5 - 1)) x1000 bt534.2.1 bt534.2.2)) else (none))) else (if x3.length < 8796093022208 then ((spec_l01PickInt.f x1000 bt522.2.1 bt522.2.2 (([0, 0, 1, 2, 3, 6] : List Int))).bind fun bt543 => (spec_l03Sights.l0 k (x3 ++ [(⟨x4, 0⟩ : S89)]) (wrap64 (x4 + bt543.1)) (wrap64 (x5 - 1)) x1000 bt543.2.1 bt543.2.2)) else (none)))) else (some (x3, x1001, x1002))
def spec_l03Sights.f (k : Nat) (s0_0 : List Int) (s0_1 : Int) (s0_2 : Int) : Option ((List (S89)) × Int × Int) := (spec_l01Below.f s0_0 s0_1 s0_2 8).bind fun bt516 => ((spec_l01Below.f s0_0 bt516.2.1 bt516.2.2 6).bind fun bt519 => (spec_l03Sights.l0 k (([] : List (S89))) bt516.1 bt519.1 s0_0 bt519.2.1 bt519.2.2))
set_option maxHeartbeats 8000000 in
set_option maxRecDepth 100000 in
theorem spec_l03Sights.calls (k : Nat) (g : Nat) (aa : List Int) (aB : Int) (aC : Int) (r1 : List (S89)) (r2 : Int) (r3 : Int) (w0 w : World) (hI : IsS104 w0 w g aa aB aC) (hB : Below w0.heap.size w0 w) (h : spec_l03Sights.f k aa aB aC = some (r1, r2, r3)) :
  Calls Try.prog 94 #[.pointer (some ⟨g, 0, none⟩)] w fun e w' => ∃ v0_ : Value, e = .returned (v0_) ∧ Kd.R k89 89 w' w.heap.size (fun _ => True) v0_ r1 ∧ IsS104 w0 w' g aa r2 r3 ∧ Below w0.heap.size w0 w' ∧ KeepBut w w' g none := by
 have hu89 := Try.underlying89; have HI0 := zK hI
 have HK := zK (KeepBut.refl w g none)
 have HL := zK hB.size; clear hI; have HW0 := zK hB.size; have HB := zK hB; clear hB
 have H : ((spec_l01Below.f aa aB aC 8).bind fun bt516 => ((spec_l01Below.f aa bt516.2.1 bt516.2.2 6).bind fun bt519 => (spec_l03Sights.l0 k (([] : List (S89))) bt516.1 bt519.1 aa bt519.2.1 bt519.2.2))) = some (r1, r2, r3) := h
 clear h
 obtain ⟨aG, au⟩ : ∃ y_ : List (S89), y_ = (([] : List (S89))) := ⟨_, rfl⟩
 replace H : ((spec_l01Below.f aa aB aC 8).bind fun bt516 => ((spec_l01Below.f aa bt516.2.1 bt516.2.2 6).bind fun bt519 => (spec_l03Sights.l0 k aG bt516.1 bt519.1 aa bt519.2.1 bt519.2.2))) = some (r1, r2, r3) := by first | (rw [au]; with_reducible exact H) | (have H2_ := (Option.bind_some _ _).symm.trans H; rw [au]; with_reducible exact H2_) | (have H2_ := (Option.bind_some _ _).symm.trans H; with_reducible exact H2_) | with_reducible exact H | (rw [au]; exact H) | exact H
 have Ny513 := zK au; clear au; replace H := Option.bind_eq_some_iff.mp H
 obtain ⟨⟨aH, aI, aJ⟩, A20, H⟩ := H
 replace H : ((spec_l01Below.f aa aI aJ 6).bind fun bt519 => (spec_l03Sights.l0 k aG aH bt519.1 aa bt519.2.1 bt519.2.2)) = some (r1, r2, r3) := H
 have A2 := zK A20; clear A20; replace H := Option.bind_eq_some_iff.mp H
 obtain ⟨⟨aN, aQ, aR⟩, A30, H⟩ := H
 replace H : (spec_l03Sights.l0 k aG aH aN aa aQ aR) = some (r1, r2, r3) := H
 have A3 := zK A30; clear A30; have H' := zK H; clear H
 go_enter Try.func94, Try.ntmps94
 go_wp2_with (first | ((with_reducible refine gate_dst (N := 7) rfl ?_); refine Kd.R_lit k89 _ 89 ?hg (N := 7) ?hd (xs := ([] : List (S89))) (inner := []) (ok := fun _ => True) (okp := fun _ => True) ?hr ?hp (fun _ hk => hk) trivial (Below.refl _ _) (Nat.le_refl _) (by simp) ?_; (case hd => rfl); (case hg => rfl); (case hr => first | (go_simp; done) | (go_simp; rfl)); (case hp => exact (Reps.none _ _)); intro v514 w4 ho5 hb hg_ hnew_; clear hg_ hnew_; (first | rw [← Ny513.out] at ho5 | (simp only [Int.reduceToNat] at ho5; rw [← Ny513.out] at ho5)); have ah := zK (Kd.R_lower ho5 (keep_size (w := w) (g := g) (row := none) (by repeat (first | (with_reducible first | exact HK.out | apply KeepBut.set_ | apply keep_drewN | apply keep_drew | apply keep_alloc) | exact HK.out)))); have ai := zK (IsS104.below (by repeat (first | (with_reducible first | exact HI0.out | apply IsS104.alloc | apply IsS104.drewN | apply IsS104.drew | apply IsS104.set_1 | apply IsS104.set_2) | exact HI0.out)) hb); have aj := zK (KeepBut.trans (by repeat (first | (with_reducible first | exact HK.out | apply KeepBut.set_ | apply keep_drewN | apply keep_drew | apply keep_alloc) | exact HK.out)) (KeepBut.of_below hb g none) (.inl rfl)); have ak := zK (below_step (by repeat (first | (with_reducible first | exact HB.out | apply zB | apply zC | apply zE | refine zS ?_ (IsS104.ge HI0.out)) | exact HB.out)) hb); clear HI0; clear HK; clear HB; have an := ah; have HI0 := ai; have HK := aj; have HB := ak; clear ah ai aj ak; clear hb ho5) | ((with_reducible refine gate_callee (f := 65) rfl ?_); refine goesL_ (some 9) rfl rfl Try.func65 (by kernel_rfl) rfl #[.pointer (some ⟨g, 0, none⟩), .int .i64 8] rfl (by (try simp only [List.map_toArray, List.map_cons, List.map_nil]); first | done | rfl | (simp only [List.length_drop, List.length_take]; rfl)) ?_; (with_reducible refine (spec_l01Below.calls g aa aB aC 8 aH aI aJ w0 _ ?side1 ?side2 A2.out).mono ?_); (case side1 => repeat (first | (with_reducible first | exact HI0.out | apply IsS104.alloc | apply IsS104.drewN | apply IsS104.drew | apply IsS104.set_1 | apply IsS104.set_2) | exact HI0.out)); (case side2 => repeat (first | (with_reducible first | exact HB.out | apply zB | apply zC | apply zE | refine zS ?_ (IsS104.ge HI0.out)) | exact HB.out)); rintro e w6 ⟨rfl, hi, hb, hk⟩; refine ⟨_, rfl, ?_⟩; have ah := zK (Kd.R_mono (Kd.R_keep (IsS104.apart (show IsS104 w0 _ g aa aB aC from by repeat (first | (with_reducible first | exact HI0.out | apply IsS104.alloc | apply IsS104.drewN | apply IsS104.drew | apply IsS104.set_1 | apply IsS104.set_2) | exact HI0.out)) (zR an) (by decide)) hk (fun _ h => h.2)) (fun _ h => h.1)); have ai := zK (KeepBut.trans (by repeat (first | (with_reducible first | exact HK.out | apply KeepBut.set_ | apply keep_drewN | apply keep_drew | apply keep_alloc) | exact HK.out)) hk (.inl rfl)); have aj := zK (hb); have ak := zK (hi); clear an; clear HK; clear HB; clear HI0; have an := ah; have HK := ai; have HB := aj; have HI0 := ak; clear ah ai aj ak; (try clear hb); (try clear hk); (try clear hi)) | ((with_reducible refine gate_callee (f := 65) rfl ?_); refine goesL_ (some 11) rfl rfl Try.func65 (by kernel_rfl) rfl #[.pointer (some ⟨g, 0, none⟩), .int .i64 6] rfl (by (try simp only [List.map_toArray, List.map_cons, List.map_nil]); first | done | rfl | (simp only [List.length_drop, List.length_take]; rfl)) ?_; (with_reducible refine (spec_l01Below.calls g aa aI aJ 6 aN aQ aR w0 _ ?side1 ?side2 A3.out).mono ?_); (case side1 => repeat (first | (with_reducible first | exact HI0.out | apply IsS104.alloc | apply IsS104.drewN | apply IsS104.drew | apply IsS104.set_1 | apply IsS104.set_2) | exact HI0.out)); (case side2 => repeat (first | (with_reducible first | exact HB.out | apply zB | apply zC | apply zE | refine zS ?_ (IsS104.ge HI0.out)) | exact HB.out)); rintro e w7 ⟨rfl, hi, hb, hk⟩; refine ⟨_, rfl, ?_⟩; have ah := zK (Kd.R_mono (Kd.R_keep (IsS104.apart (show IsS104 w0 _ g aa aI aJ from by repeat (first | (with_reducible first | exact HI0.out | apply IsS104.alloc | apply IsS104.drewN | apply IsS104.drew | apply IsS104.set_1 | apply IsS104.set_2) | exact HI0.out)) (zR an) (by decide)) hk (fun _ h => h.2)) (fun _ h => h.1)); have ai := zK (KeepBut.trans (by repeat (first | (with_reducible first | exact HK.out | apply KeepBut.set_ | apply keep_drewN | apply keep_drew | apply keep_alloc) | exact HK.out)) hk (.inl rfl)); have aj := zK (hb); have ak := zK (hi); clear an; clear HK; clear HB; clear HI0; have an := ah; have HK := ai; have HB := aj; have HI0 := ak; clear ah ai aj ak; (try clear hb); (try clear hk); (try clear hi)))
 go_loopg [3, 4, 5] k (fun kq v3 v4 v5 w' => ∃ (ac : List (S89)) (ab : Int) (ad : Int) (ae : Int) (af : Int), v4 = .int .i64 ab ∧ v5 = .int .i64 ad ∧ Aside0 (spec_l03Sights.l0 kq ac ab ad aa ae af = some (r1, r2, r3)) ∧ Aside0 (kq ≤ k) ∧ Aside0 (Kd.R k89 89 w' w.heap.size (fun _ => True) v3 ac) ∧ Aside0 (IsS104 w0 w' g aa ae af) ∧ Aside0 (KeepBut w w' g none) ∧ Aside0 (Below w0.heap.size w0 w'))
 case atStart => exact ⟨(aG), (aH), (aN), (aQ), (aR), (by first | rfl | (simp; done) | (simp [*]; done)), (by first | rfl | (simp; done) | (simp [*]; done)), H', ⟨Nat.le_refl _⟩, ⟨zR an⟩, ⟨by repeat (first | (with_reducible first | exact HI0.out | apply IsS104.alloc | apply IsS104.drewN | apply IsS104.drew | apply IsS104.set_1 | apply IsS104.set_2) | exact HI0.out)⟩, ⟨by repeat (first | (with_reducible first | exact HK.out | apply KeepBut.set_ | apply keep_drewN | apply keep_drew | apply keep_alloc) | exact HK.out)⟩, ⟨by repeat (first | (with_reducible first | exact HB.out | apply zB | apply zC | apply zE | refine zS ?_ (IsS104.ge HI0.out)) | exact HB.out)⟩⟩
 case round =>
  clear H'
  try clear p2
  try clear c6
  obtain ⟨ac, ab, ad, ae, af, rfl, rfl, HA, HK1, ag, HI0, HK, HB⟩ := hrel
  cases gk with
  | zero => exact absurd HA.out (by simp [spec_l03Sights.l0])
  | succ k1 =>
   have H := HA.out; clear HA
   simp only [spec_l03Sights.l0] at H
   by_cases c8 : ad > 0
   ·rw [if_pos c8] at H
    have c8b0 : decide (0 < ad) = true := decide_eq_true c8
    clear c8; replace H := Option.bind_eq_some_iff.mp H
    obtain ⟨⟨a1, al, am⟩, A90, H⟩ := H
    replace H : (if a1 = true then ((spec_l01Below.f aa al am 3).bind fun bt525 => (if ac.length < 8796093022208 then ((spec_l01PickInt.f aa bt525.2.1 bt525.2.2 (([0, 0, 1, 2, 3, 6] : List Int))).bind fun bt534 => (spec_l03Sights.l0 k1 (ac ++ [(⟨ab, wrap64 ((wrap64 ((wrap64 (3 * (ac.length : Int))) + 1)) + bt525.1)⟩ : S89)]) (wrap64 (ab + bt534.1)) (wrap64 (ad - 1)) aa bt534.2.1 bt534.2.2)) else (none))) else (if ac.length < 8796093022208 then ((spec_l01PickInt.f aa al am (([0, 0, 1, 2, 3, 6] : List Int))).bind fun bt543 => (spec_l03Sights.l0 k1 (ac ++ [(⟨ab, 0⟩ : S89)]) (wrap64 (ab + bt543.1)) (wrap64 (ad - 1)) aa bt543.2.1 bt543.2.2)) else (none))) = some (r1, r2, r3) := H
    have A9 := zK A90; clear A90
    by_cases c10 : a1 = true
    ·subst c10
     have H1 : ((spec_l01Below.f aa al am 3).bind fun bt525 => (if ac.length < 8796093022208 then ((spec_l01PickInt.f aa bt525.2.1 bt525.2.2 (([0, 0, 1, 2, 3, 6] : List Int))).bind fun bt534 => (spec_l03Sights.l0 k1 (ac ++ [(⟨ab, wrap64 ((wrap64 ((wrap64 (3 * (ac.length : Int))) + 1)) + bt525.1)⟩ : S89)]) (wrap64 (ab + bt534.1)) (wrap64 (ad - 1)) aa bt534.2.1 bt534.2.2)) else (none))) = some (r1, r2, r3) := by rw [if_pos rfl] at H; exact H
     clear H; have H := H1; clear H1; replace H := Option.bind_eq_some_iff.mp H
     obtain ⟨⟨aD, az, aA⟩, a2, H⟩ := H
     replace H : (if ac.length < 8796093022208 then ((spec_l01PickInt.f aa az aA (([0, 0, 1, 2, 3, 6] : List Int))).bind fun bt534 => (spec_l03Sights.l0 k1 (ac ++ [(⟨ab, wrap64 ((wrap64 ((wrap64 (3 * (ac.length : Int))) + 1)) + aD)⟩ : S89)]) (wrap64 (ab + bt534.1)) (wrap64 (ad - 1)) aa bt534.2.1 bt534.2.2)) else (none)) = some (r1, r2, r3) := H
     have A11 := zK a2; clear a2
     by_cases c12 : ac.length < 8796093022208
     ·rw [if_pos c12] at H
      have a3 := zK c12; clear c12
      obtain ⟨aK, av⟩ : ∃ y_ : List (S89), y_ = (ac ++ [(⟨ab, wrap64 ((wrap64 ((wrap64 (3 * (ac.length : Int))) + 1)) + aD)⟩ : S89)]) := ⟨_, rfl⟩
      replace H : ((spec_l01PickInt.f aa az aA (([0, 0, 1, 2, 3, 6] : List Int))).bind fun bt534 => (spec_l03Sights.l0 k1 aK (wrap64 (ab + bt534.1)) (wrap64 (ad - 1)) aa bt534.2.1 bt534.2.2)) = some (r1, r2, r3) := by first | (rw [av]; with_reducible exact H) | (have H2_ := (Option.bind_some _ _).symm.trans H; rw [av]; with_reducible exact H2_) | (have H2_ := (Option.bind_some _ _).symm.trans H; with_reducible exact H2_) | with_reducible exact H | (rw [av]; exact H) | exact H
      have Ny528 := zK av; clear av
      obtain ⟨aT, aw⟩ : ∃ y_ : List Int, y_ = (([0, 0, 1, 2, 3, 6] : List Int)) := ⟨_, rfl⟩
      replace H : ((spec_l01PickInt.f aa az aA aT).bind fun bt534 => (spec_l03Sights.l0 k1 aK (wrap64 (ab + bt534.1)) (wrap64 (ad - 1)) aa bt534.2.1 bt534.2.2)) = some (r1, r2, r3) := by first | (rw [aw]; with_reducible exact H) | (have H2_ := (Option.bind_some _ _).symm.trans H; rw [aw]; with_reducible exact H2_) | (have H2_ := (Option.bind_some _ _).symm.trans H; with_reducible exact H2_) | with_reducible exact H | (rw [aw]; exact H) | exact H
      have Ny531 := zK aw; clear aw; replace H := Option.bind_eq_some_iff.mp H
      obtain ⟨⟨aU, aV, aW⟩, a4, H⟩ := H
      replace H : (spec_l03Sights.l0 k1 aK (wrap64 (ab + aU)) (wrap64 (ad - 1)) aa aV aW) = some (r1, r2, r3) := H
      have A13 := zK a4; clear a4; have H' := zK H; clear H
      go_wp2_with (first | ((with_reducible refine gate_callee (f := 105) rfl ?_); refine goesL_ (some 17) rfl rfl Try.func105 (by kernel_rfl) rfl #[.pointer (some ⟨g, 0, none⟩), .int .i64 4] rfl (by (try simp only [List.map_toArray, List.map_cons, List.map_nil]); first | done | rfl | (simp only [List.length_drop, List.length_take]; rfl)) ?_; (with_reducible refine (spec_l01Once.calls g aa ae af 4 true al am w0 _ ?side1 ?side2 A9.out).mono ?_); (case side1 => repeat (first | (with_reducible first | exact HI0.out | apply IsS104.alloc | apply IsS104.drewN | apply IsS104.drew | apply IsS104.set_1 | apply IsS104.set_2) | exact HI0.out)); (case side2 => repeat (first | (with_reducible first | exact HB.out | apply zB | apply zC | apply zE | refine zS ?_ (IsS104.ge HI0.out)) | exact HB.out)); rintro e w14 ⟨rfl, hi, hb, hk⟩; refine ⟨_, rfl, ?_⟩; have ah := zK (Kd.R_mono (Kd.R_keep (IsS104.apart (show IsS104 w0 _ g aa ae af from by repeat (first | (with_reducible first | exact HI0.out | apply IsS104.alloc | apply IsS104.drewN | apply IsS104.drew | apply IsS104.set_1 | apply IsS104.set_2) | exact HI0.out)) (zR ag) (by decide)) hk (fun _ h => h.2)) (fun _ h => h.1)); have ai := zK (KeepBut.trans (by repeat (first | (with_reducible first | exact HK.out | apply KeepBut.set_ | apply keep_drewN | apply keep_drew | apply keep_alloc) | exact HK.out)) hk (.inl rfl)); have aj := zK (hb); have ak := zK (hi); clear ag; clear HK; clear HB; clear HI0; have ag := ah; have HK := ai; have HB := aj; have HI0 := ak; clear ah ai aj ak; (try clear hb); (try clear hk); (try clear hi); obtain ⟨Ao15, co15, eo15⟩ := Kd.R_slice ag.out; subst eo15) | ((with_reducible refine gate_callee (f := 65) rfl ?_); refine goesL_ (some 23) rfl rfl Try.func65 (by kernel_rfl) rfl #[.pointer (some ⟨g, 0, none⟩), .int .i64 3] rfl (by (try simp only [List.map_toArray, List.map_cons, List.map_nil]); first | done | rfl | (simp only [List.length_drop, List.length_take]; rfl)) ?_; (with_reducible refine (spec_l01Below.calls g aa al am 3 aD az aA w0 _ ?side1 ?side2 A11.out).mono ?_); (case side1 => repeat (first | (with_reducible first | exact HI0.out | apply IsS104.alloc | apply IsS104.drewN | apply IsS104.drew | apply IsS104.set_1 | apply IsS104.set_2) | exact HI0.out)); (case side2 => repeat (first | (with_reducible first | exact HB.out | apply zB | apply zC | apply zE | refine zS ?_ (IsS104.ge HI0.out)) | exact HB.out)); rintro e w16 ⟨rfl, hi, hb, hk⟩; refine ⟨_, rfl, ?_⟩; have ah := zK (Kd.R_mono (Kd.R_keep (IsS104.apart (show IsS104 w0 _ g aa al am from by repeat (first | (with_reducible first | exact HI0.out | apply IsS104.alloc | apply IsS104.drewN | apply IsS104.drew | apply IsS104.set_1 | apply IsS104.set_2) | exact HI0.out)) (zR ag) (by decide)) hk (fun _ h => h.2)) (fun _ h => h.1)); have ai := zK (KeepBut.trans (by repeat (first | (with_reducible first | exact HK.out | apply KeepBut.set_ | apply keep_drewN | apply keep_drew | apply keep_alloc) | exact HK.out)) hk (.inl rfl)); have aj := zK (hb); have ak := zK (hi); clear ag; clear HK; clear HB; clear HI0; have ag := ah; have HK := ai; have HB := aj; have HI0 := ak; clear ah ai aj ak; (try clear hb); (try clear hk); (try clear hi)) | ((with_reducible refine gate_builtin (b := .append) (xs := #[.tmp 25, .tmp 29]) rfl ?_); at_builtin; refine Kd.R_append k89 w.heap.size rfl (.tmp 25) (.tmp 29) 43 89 (.agg #[(.int .i64 0), (.int .i64 0)]) 16 rfl Try.underlying43 info89 rfl (by decide) (by omega) (.slice Ao15 ac.length co15) ac (⟨ab, wrap64 ((wrap64 ((wrap64 (3 * (ac.length : Int))) + 1)) + aD)⟩ : S89) [.int .i64 ab, .int .i64 (wrap64 ((wrap64 ((wrap64 (3 * (ac.length : Int))) + 1)) + aD))] (fun _ => True) (fun _ => False) rfl rfl ?aP (fun _ hk => hk.elim) ?aF ?aO (Below.refl _ _) ?aS ?aL ?_; (case aP => exact k89_mkM _ _ _ (⟨ab, wrap64 ((wrap64 ((wrap64 (3 * (ac.length : Int))) + 1)) + aD)⟩ : S89)); (case aF => exact (fun _ _ => trivial)); (case aO => exact (zR ag)); (case aS => exact (keep_size (w := w) (g := g) (row := none) (by repeat (first | (with_reducible first | exact HK.out | apply KeepBut.set_ | apply keep_drewN | apply keep_drew | apply keep_alloc) | exact HK.out)))); (case aL => have := a3.out; omega); intro v529 w17 ho hb hg hat; rw [← Ny528.out] at ho; have ah := zK (IsS104.grown (by repeat (first | (with_reducible first | exact HI0.out | apply IsS104.alloc | apply IsS104.drewN | apply IsS104.drew | apply IsS104.set_1 | apply IsS104.set_2) | exact HI0.out)) hg (IsS104.own_ne HI0.out ag.out (by decide))); have ai := zK (below_weaken (by repeat (first | (with_reducible first | exact HB.out | apply zB | apply zC | apply zE | refine zS ?_ (IsS104.ge HI0.out)) | exact HB.out)) HL.out hb); have aj := zK (KeepBut.trans (by repeat (first | (with_reducible first | exact HK.out | apply KeepBut.set_ | apply keep_drewN | apply keep_drew | apply keep_alloc) | exact HK.out)) (KeepBut.of_grown hg g) (Kd.R_base2 ag.out)); have ak := zK (ho); clear HI0; clear HB; clear HK; clear ag; have HI0 := ah; have HB := ai; have HK := aj; have ao := ak; clear ah ai aj ak; clear ho hb hg hat) | ((with_reducible refine gate_dst (N := 33) rfl ?_); refine Kd.R_lit (Kd.int .i64) _ 3 ?hg (N := 33) ?hd (xs := ([0, 0, 1, 2, 3, 6] : List Int)) (inner := [.int .i64 0, .int .i64 0, .int .i64 1, .int .i64 2, .int .i64 3, .int .i64 6]) (ok := fun _ => True) (okp := fun _ => True) ?hr ?hp (fun _ hk => hk) trivial (Below.refl _ _) (Nat.le_refl _) (by simp) ?_; (case hd => rfl); (case hg => rfl); (case hr => first | (go_simp; done) | (go_simp; rfl)); (case hp => exact (Reps.one (show Kd.M (Kd.int .i64) _ _ _ 0 [.int .i64 0] from rfl) (Reps.one (show Kd.M (Kd.int .i64) _ _ _ 0 [.int .i64 0] from rfl) (Reps.one (show Kd.M (Kd.int .i64) _ _ _ 1 [.int .i64 1] from rfl) (Reps.one (show Kd.M (Kd.int .i64) _ _ _ 2 [.int .i64 2] from rfl) (Reps.one (show Kd.M (Kd.int .i64) _ _ _ 3 [.int .i64 3] from rfl) (Reps.one (show Kd.M (Kd.int .i64) _ _ _ 6 [.int .i64 6] from rfl) (Reps.none _ _)))))))); intro v532 w18 ho19 hb hg_ hnew_; clear hg_ hnew_; (first | rw [← Ny531.out] at ho19 | (simp only [Int.reduceToNat] at ho19; rw [← Ny531.out] at ho19)); have ah := zK (Kd.R_below (zR ao) hb); have ai := zK (Kd.R_lower ho19 (keep_size (w := w) (g := g) (row := none) (by repeat (first | (with_reducible first | exact HK.out | apply KeepBut.set_ | apply keep_drewN | apply keep_drew | apply keep_alloc) | exact HK.out)))); have aj := zK (IsS104.below (by repeat (first | (with_reducible first | exact HI0.out | apply IsS104.alloc | apply IsS104.drewN | apply IsS104.drew | apply IsS104.set_1 | apply IsS104.set_2) | exact HI0.out)) hb); have ak := zK (KeepBut.trans (by repeat (first | (with_reducible first | exact HK.out | apply KeepBut.set_ | apply keep_drewN | apply keep_drew | apply keep_alloc) | exact HK.out)) (KeepBut.of_below hb g none) (.inl rfl)); have aE := zK (below_step (by repeat (first | (with_reducible first | exact HB.out | apply zB | apply zC | apply zE | refine zS ?_ (IsS104.ge HI0.out)) | exact HB.out)) hb); clear ao; clear HI0; clear HK; clear HB; have ao := ah; have ap := ai; have HI0 := aj; have HK := ak; have HB := aE; clear ah ai aj ak aE; clear hb ho19; obtain ⟨Ao20, co20, eo20⟩ := Kd.R_slice ap.out; subst eo20) | ((with_reducible refine gate_callee (f := 64) rfl ?_); refine goesL_ (some 34) rfl rfl Try.func64 (by kernel_rfl) rfl #[.pointer (some ⟨g, 0, none⟩), .slice Ao20 aT.length co20] rfl (by (try simp only [List.map_toArray, List.map_cons, List.map_nil]); first | done | rfl | (simp only [List.length_drop, List.length_take]; rfl)) ?_; (with_reducible refine (spec_l01PickInt.calls g aa az aA _ _ aT aU aV aW w0 _ ?side1 ?side2 ?side3 ?side4 ?side5 A13.out).mono ?_); (case side1 => repeat (first | (with_reducible first | exact HI0.out | apply IsS104.alloc | apply IsS104.drewN | apply IsS104.drew | apply IsS104.set_1 | apply IsS104.set_2) | exact HI0.out)); (case side2 => repeat (first | (with_reducible first | exact HB.out | apply zB | apply zC | apply zE | refine zS ?_ (IsS104.ge HI0.out)) | exact HB.out)); (case side3 => repeat (first | exact (Kd.R_reads' ap.out).2.2 | (with_reducible refine Kd.C_alloc ?_ _) | (with_reducible refine Kd.C_drewN ?_ _) | (with_reducible refine Kd.C_drew ?_))); (case side4 => exact (Kd.R_reads' ap.out).2.1); (case side5 => exact far_slice (IsS104.own_ne HI0.out ap.out (by decide))); rintro e w21 ⟨rfl, hi, hb, hk⟩; refine ⟨_, rfl, ?_⟩; have ah := zK (Kd.R_mono (Kd.R_keep (IsS104.apart (show IsS104 w0 _ g aa az aA from by repeat (first | (with_reducible first | exact HI0.out | apply IsS104.alloc | apply IsS104.drewN | apply IsS104.drew | apply IsS104.set_1 | apply IsS104.set_2) | exact HI0.out)) (zR ao) (by decide)) hk (fun _ h => h.2)) (fun _ h => h.1)); have ai := zK (Kd.R_mono (Kd.R_keep (IsS104.apart (show IsS104 w0 _ g aa az aA from by repeat (first | (with_reducible first | exact HI0.out | apply IsS104.alloc | apply IsS104.drewN | apply IsS104.drew | apply IsS104.set_1 | apply IsS104.set_2) | exact HI0.out)) (zR ap) (by decide)) hk (fun _ h => h.2)) (fun _ h => h.1)); have aj := zK (KeepBut.trans (by repeat (first | (with_reducible first | exact HK.out | apply KeepBut.set_ | apply keep_drewN | apply keep_drew | apply keep_alloc) | exact HK.out)) hk (.inl rfl)); have ak := zK (hb); have aE := zK (hi); clear ao; clear ap; clear HK; clear HB; clear HI0; have ao := ah; have ap := ai; have HK := aj; have HB := ak; have HI0 := aE; clear ah ai aj ak aE; (try clear hb); (try clear hk); (try clear hi)))
      go_roundg k1
      case measure => have := HK1.out; omega
      case rel => exact ⟨(aK), (wrap64 (ab + aU)), (wrap64 (ad - 1)), (aV), (aW), (by first | rfl | (simp; done) | (simp [*]; done)), (by first | rfl | (simp; done) | (simp [*]; done)), H', ⟨by have := HK1.out; omega⟩, ⟨zR ao⟩, ⟨by repeat (first | (with_reducible first | exact HI0.out | apply IsS104.alloc | apply IsS104.drewN | apply IsS104.drew | apply IsS104.set_1 | apply IsS104.set_2) | exact HI0.out)⟩, ⟨by repeat (first | (with_reducible first | exact HK.out | apply KeepBut.set_ | apply keep_drewN | apply keep_drew | apply keep_alloc) | exact HK.out)⟩, ⟨by repeat (first | (with_reducible first | exact HB.out | apply zB | apply zC | apply zE | refine zS ?_ (IsS104.ge HI0.out)) | exact HB.out)⟩⟩
     ·rw [if_neg c12] at H
      exact absurd H (by simp)
    ·replace c10 := Bool.eq_false_iff.mpr c10
     subst c10
     have H1 : (if ac.length < 8796093022208 then ((spec_l01PickInt.f aa al am (([0, 0, 1, 2, 3, 6] : List Int))).bind fun bt543 => (spec_l03Sights.l0 k1 (ac ++ [(⟨ab, 0⟩ : S89)]) (wrap64 (ab + bt543.1)) (wrap64 (ad - 1)) aa bt543.2.1 bt543.2.2)) else (none)) = some (r1, r2, r3) := by rw [if_neg (show ¬ (false = true) by decide)] at H; exact H
     clear H; have H := H1; clear H1
     by_cases c22 : ac.length < 8796093022208
     ·rw [if_pos c22] at H
      have a5 := zK c22; clear c22
      obtain ⟨aM, ax⟩ : ∃ y_ : List (S89), y_ = (ac ++ [(⟨ab, 0⟩ : S89)]) := ⟨_, rfl⟩
      replace H : ((spec_l01PickInt.f aa al am (([0, 0, 1, 2, 3, 6] : List Int))).bind fun bt543 => (spec_l03Sights.l0 k1 aM (wrap64 (ab + bt543.1)) (wrap64 (ad - 1)) aa bt543.2.1 bt543.2.2)) = some (r1, r2, r3) := by first | (rw [ax]; with_reducible exact H) | (have H2_ := (Option.bind_some _ _).symm.trans H; rw [ax]; with_reducible exact H2_) | (have H2_ := (Option.bind_some _ _).symm.trans H; with_reducible exact H2_) | with_reducible exact H | (rw [ax]; exact H) | exact H
      have Ny537 := zK ax; clear ax
      obtain ⟨aX, ay⟩ : ∃ y_ : List Int, y_ = (([0, 0, 1, 2, 3, 6] : List Int)) := ⟨_, rfl⟩
      replace H : ((spec_l01PickInt.f aa al am aX).bind fun bt543 => (spec_l03Sights.l0 k1 aM (wrap64 (ab + bt543.1)) (wrap64 (ad - 1)) aa bt543.2.1 bt543.2.2)) = some (r1, r2, r3) := by first | (rw [ay]; with_reducible exact H) | (have H2_ := (Option.bind_some _ _).symm.trans H; rw [ay]; with_reducible exact H2_) | (have H2_ := (Option.bind_some _ _).symm.trans H; with_reducible exact H2_) | with_reducible exact H | (rw [ay]; exact H) | exact H
      have Ny540 := zK ay; clear ay; replace H := Option.bind_eq_some_iff.mp H
      obtain ⟨⟨aY, aZ, a0⟩, a6, H⟩ := H
      replace H : (spec_l03Sights.l0 k1 aM (wrap64 (ab + aY)) (wrap64 (ad - 1)) aa aZ a0) = some (r1, r2, r3) := H
      have A23 := zK a6; clear a6; have H' := zK H; clear H
      go_wp2_with (first | ((with_reducible refine gate_callee (f := 105) rfl ?_); refine goesL_ (some 17) rfl rfl Try.func105 (by kernel_rfl) rfl #[.pointer (some ⟨g, 0, none⟩), .int .i64 4] rfl (by (try simp only [List.map_toArray, List.map_cons, List.map_nil]); first | done | rfl | (simp only [List.length_drop, List.length_take]; rfl)) ?_; (with_reducible refine (spec_l01Once.calls g aa ae af 4 false al am w0 _ ?side1 ?side2 A9.out).mono ?_); (case side1 => repeat (first | (with_reducible first | exact HI0.out | apply IsS104.alloc | apply IsS104.drewN | apply IsS104.drew | apply IsS104.set_1 | apply IsS104.set_2) | exact HI0.out)); (case side2 => repeat (first | (with_reducible first | exact HB.out | apply zB | apply zC | apply zE | refine zS ?_ (IsS104.ge HI0.out)) | exact HB.out)); rintro e w24 ⟨rfl, hi, hb, hk⟩; refine ⟨_, rfl, ?_⟩; have ah := zK (Kd.R_mono (Kd.R_keep (IsS104.apart (show IsS104 w0 _ g aa ae af from by repeat (first | (with_reducible first | exact HI0.out | apply IsS104.alloc | apply IsS104.drewN | apply IsS104.drew | apply IsS104.set_1 | apply IsS104.set_2) | exact HI0.out)) (zR ag) (by decide)) hk (fun _ h => h.2)) (fun _ h => h.1)); have ai := zK (KeepBut.trans (by repeat (first | (with_reducible first | exact HK.out | apply KeepBut.set_ | apply keep_drewN | apply keep_drew | apply keep_alloc) | exact HK.out)) hk (.inl rfl)); have aj := zK (hb); have ak := zK (hi); clear ag; clear HK; clear HB; clear HI0; have ag := ah; have HK := ai; have HB := aj; have HI0 := ak; clear ah ai aj ak; (try clear hb); (try clear hk); (try clear hi)) | ((with_reducible refine gate_builtin (b := .append) (xs := #[.tmp 25, .tmp 29]) rfl ?_); at_builtin; refine Kd.R_append k89 w.heap.size rfl (.tmp 25) (.tmp 29) 43 89 (.agg #[(.int .i64 0), (.int .i64 0)]) 16 rfl Try.underlying43 info89 rfl (by decide) (by omega) u3 ac (⟨ab, 0⟩ : S89) [.int .i64 ab, .int .i64 0] (fun _ => True) (fun _ => False) rfl rfl ?aP (fun _ hk => hk.elim) ?aF ?aO (Below.refl _ _) ?aS ?aL ?_; (case aP => exact k89_mkM _ _ _ (⟨ab, 0⟩ : S89)); (case aF => exact (fun _ _ => trivial)); (case aO => exact (zR ag)); (case aS => exact (keep_size (w := w) (g := g) (row := none) (by repeat (first | (with_reducible first | exact HK.out | apply KeepBut.set_ | apply keep_drewN | apply keep_drew | apply keep_alloc) | exact HK.out)))); (case aL => have := a5.out; omega); intro v538 w25 ho hb hg hat; rw [← Ny537.out] at ho; have ah := zK (IsS104.grown (by repeat (first | (with_reducible first | exact HI0.out | apply IsS104.alloc | apply IsS104.drewN | apply IsS104.drew | apply IsS104.set_1 | apply IsS104.set_2) | exact HI0.out)) hg (IsS104.own_ne HI0.out ag.out (by decide))); have ai := zK (below_weaken (by repeat (first | (with_reducible first | exact HB.out | apply zB | apply zC | apply zE | refine zS ?_ (IsS104.ge HI0.out)) | exact HB.out)) HL.out hb); have aj := zK (KeepBut.trans (by repeat (first | (with_reducible first | exact HK.out | apply KeepBut.set_ | apply keep_drewN | apply keep_drew | apply keep_alloc) | exact HK.out)) (KeepBut.of_grown hg g) (Kd.R_base2 ag.out)); have ak := zK (ho); clear HI0; clear HB; clear HK; clear ag; have HI0 := ah; have HB := ai; have HK := aj; have aq := ak; clear ah ai aj ak; clear ho hb hg hat) | ((with_reducible refine gate_dst (N := 33) rfl ?_); refine Kd.R_lit (Kd.int .i64) _ 3 ?hg (N := 33) ?hd (xs := ([0, 0, 1, 2, 3, 6] : List Int)) (inner := [.int .i64 0, .int .i64 0, .int .i64 1, .int .i64 2, .int .i64 3, .int .i64 6]) (ok := fun _ => True) (okp := fun _ => True) ?hr ?hp (fun _ hk => hk) trivial (Below.refl _ _) (Nat.le_refl _) (by simp) ?_; (case hd => rfl); (case hg => rfl); (case hr => first | (go_simp; done) | (go_simp; rfl)); (case hp => exact (Reps.one (show Kd.M (Kd.int .i64) _ _ _ 0 [.int .i64 0] from rfl) (Reps.one (show Kd.M (Kd.int .i64) _ _ _ 0 [.int .i64 0] from rfl) (Reps.one (show Kd.M (Kd.int .i64) _ _ _ 1 [.int .i64 1] from rfl) (Reps.one (show Kd.M (Kd.int .i64) _ _ _ 2 [.int .i64 2] from rfl) (Reps.one (show Kd.M (Kd.int .i64) _ _ _ 3 [.int .i64 3] from rfl) (Reps.one (show Kd.M (Kd.int .i64) _ _ _ 6 [.int .i64 6] from rfl) (Reps.none _ _)))))))); intro v541 w26 ho27 hb hg_ hnew_; clear hg_ hnew_; (first | rw [← Ny540.out] at ho27 | (simp only [Int.reduceToNat] at ho27; rw [← Ny540.out] at ho27)); have ah := zK (Kd.R_below (zR aq) hb); have ai := zK (Kd.R_lower ho27 (keep_size (w := w) (g := g) (row := none) (by repeat (first | (with_reducible first | exact HK.out | apply KeepBut.set_ | apply keep_drewN | apply keep_drew | apply keep_alloc) | exact HK.out)))); have aj := zK (IsS104.below (by repeat (first | (with_reducible first | exact HI0.out | apply IsS104.alloc | apply IsS104.drewN | apply IsS104.drew | apply IsS104.set_1 | apply IsS104.set_2) | exact HI0.out)) hb); have ak := zK (KeepBut.trans (by repeat (first | (with_reducible first | exact HK.out | apply KeepBut.set_ | apply keep_drewN | apply keep_drew | apply keep_alloc) | exact HK.out)) (KeepBut.of_below hb g none) (.inl rfl)); have aE := zK (below_step (by repeat (first | (with_reducible first | exact HB.out | apply zB | apply zC | apply zE | refine zS ?_ (IsS104.ge HI0.out)) | exact HB.out)) hb); clear aq; clear HI0; clear HK; clear HB; have aq := ah; have ar := ai; have HI0 := aj; have HK := ak; have HB := aE; clear ah ai aj ak aE; clear hb ho27; obtain ⟨Ao28, co28, eo28⟩ := Kd.R_slice ar.out; subst eo28) | ((with_reducible refine gate_callee (f := 64) rfl ?_); refine goesL_ (some 34) rfl rfl Try.func64 (by kernel_rfl) rfl #[.pointer (some ⟨g, 0, none⟩), .slice Ao28 aX.length co28] rfl (by (try simp only [List.map_toArray, List.map_cons, List.map_nil]); first | done | rfl | (simp only [List.length_drop, List.length_take]; rfl)) ?_; (with_reducible refine (spec_l01PickInt.calls g aa al am _ _ aX aY aZ a0 w0 _ ?side1 ?side2 ?side3 ?side4 ?side5 A23.out).mono ?_); (case side1 => repeat (first | (with_reducible first | exact HI0.out | apply IsS104.alloc | apply IsS104.drewN | apply IsS104.drew | apply IsS104.set_1 | apply IsS104.set_2) | exact HI0.out)); (case side2 => repeat (first | (with_reducible first | exact HB.out | apply zB | apply zC | apply zE | refine zS ?_ (IsS104.ge HI0.out)) | exact HB.out)); (case side3 => repeat (first | exact (Kd.R_reads' ar.out).2.2 | (with_reducible refine Kd.C_alloc ?_ _) | (with_reducible refine Kd.C_drewN ?_ _) | (with_reducible refine Kd.C_drew ?_))); (case side4 => exact (Kd.R_reads' ar.out).2.1); (case side5 => exact far_slice (IsS104.own_ne HI0.out ar.out (by decide))); rintro e w29 ⟨rfl, hi, hb, hk⟩; refine ⟨_, rfl, ?_⟩; have ah := zK (Kd.R_mono (Kd.R_keep (IsS104.apart (show IsS104 w0 _ g aa al am from by repeat (first | (with_reducible first | exact HI0.out | apply IsS104.alloc | apply IsS104.drewN | apply IsS104.drew | apply IsS104.set_1 | apply IsS104.set_2) | exact HI0.out)) (zR aq) (by decide)) hk (fun _ h => h.2)) (fun _ h => h.1)); have ai := zK (Kd.R_mono (Kd.R_keep (IsS104.apart (show IsS104 w0 _ g aa al am from by repeat (first | (with_reducible first | exact HI0.out | apply IsS104.alloc | apply IsS104.drewN | apply IsS104.drew | apply IsS104.set_1 | apply IsS104.set_2) | exact HI0.out)) (zR ar) (by decide)) hk (fun _ h => h.2)) (fun _ h => h.1)); have aj := zK (KeepBut.trans (by repeat (first | (with_reducible first | exact HK.out | apply KeepBut.set_ | apply keep_drewN | apply keep_drew | apply keep_alloc) | exact HK.out)) hk (.inl rfl)); have ak := zK (hb); have aE := zK (hi); clear aq; clear ar; clear HK; clear HB; clear HI0; have aq := ah; have ar := ai; have HK := aj; have HB := ak; have HI0 := aE; clear ah ai aj ak aE; (try clear hb); (try clear hk); (try clear hi)))
      go_roundg k1
      case measure => have := HK1.out; omega
      case rel => exact ⟨(aM), (wrap64 (ab + aY)), (wrap64 (ad - 1)), (aZ), (a0), (by first | rfl | (simp; done) | (simp [*]; done)), (by first | rfl | (simp; done) | (simp [*]; done)), H', ⟨by have := HK1.out; omega⟩, ⟨zR aq⟩, ⟨by repeat (first | (with_reducible first | exact HI0.out | apply IsS104.alloc | apply IsS104.drewN | apply IsS104.drew | apply IsS104.set_1 | apply IsS104.set_2) | exact HI0.out)⟩, ⟨by repeat (first | (with_reducible first | exact HK.out | apply KeepBut.set_ | apply keep_drewN | apply keep_drew | apply keep_alloc) | exact HK.out)⟩, ⟨by repeat (first | (with_reducible first | exact HB.out | apply zB | apply zC | apply zE | refine zS ?_ (IsS104.ge HI0.out)) | exact HB.out)⟩⟩
     ·rw [if_neg c22] at H
      exact absurd H (by simp)
   ·rw [if_neg c8] at H
    have c8b0 : decide (0 < ad) = false := decide_eq_false c8
    clear c8
    simp only [Option.some.injEq, Prod.mk.injEq] at H
    obtain ⟨rfl, rfl, rfl⟩ := H
    go_wp2
    go_ret
    exact ⟨_, by first | rfl | (simp [errW_none, errW_some] <;> rfl) | (simp [*, errW_none, errW_some] <;> rfl), by (with_reducible repeat (first | apply Kd.R_alloc | apply Kd.R_drewN | apply Kd.R_drew)); exact ag.out, by repeat (first | (with_reducible first | exact HI0.out | apply IsS104.alloc | apply IsS104.drewN | apply IsS104.drew | apply IsS104.set_1 | apply IsS104.set_2) | exact HI0.out), by repeat (first | (with_reducible first | exact HB.out | apply zB | apply zC | apply zE | refine zS ?_ (IsS104.ge HI0.out)) | exact HB.out), by repeat (first | (with_reducible first | exact HK.out | apply KeepBut.set_ | apply keep_drewN | apply keep_drew | apply keep_alloc) | exact HK.out)⟩
mutual
def impl_Assign.l0 : Nat → List (S52) → List (S89) → List Int → List (S89) → Int → Int → Option (List Int)
 | 0, _, _, _, _, _, _ => none
 | k + 1, x0, x1, x5, x15, x16, x17 => if x17 < x16 then (if 0 ≤ x17 then (if x17 < (x15.length : Int) then (impl_Assign.l1 k x0 x1 x5 x15 x16 x17 x0 (x0.length : Int) 0 ((rd_T89 x15 x17).f0) ((rd_T89 x15 x17).f1) 0 0 0) else (none)) else (none)) else (some x5)
def impl_Assign.l1 : Nat → List (S52) → List (S89) → List Int → List (S89) → Int → Int → List (S52) → Int → Int → Int → Int → Int → Int → Int → Option (List Int)
 | 0, _, _, _, _, _, _, _, _, _, _, _, _, _, _ => none
 | k + 1, x0, x1, x5, x15, x16, x17, x22, x23, x24, x621000, x621001, x622000, x622001, x622002 => if x24 < x23 then (if 0 ≤ x24 then (if x24 < (x22.length : Int) then ((impl_fits.f x1 x621000 x621001 ((rd_T52 x22 x24).f0) ((rd_T52 x22 x24).f1) ((rd_T52 x22 x24).f2)).bind fun t627 => (if t627 = true then ((slices_Contains_int_int.f k x5 ((rd_T52 x22 x24).f0)).bind fun t628 => (impl_Assign.j2 k x0 x1 x5 x15 x16 x17 x22 x23 x24 t628 x621000 x621001 x622000 x622001 x622002 ((rd_T52 x22 x24).f0) ((rd_T52 x22 x24).f1) ((rd_T52 x22 x24).f2))) else (impl_Assign.j2 k x0 x1 x5 x15 x16 x17 x22 x23 x24 true x621000 x621001 x622000 x622001 x622002 ((rd_T52 x22 x24).f0) ((rd_T52 x22 x24).f1) ((rd_T52 x22 x24).f2)))) else (none)) else (none)) else (if x5.length < 17592186044416 then (impl_Assign.l0 k x0 x1 (x5 ++ [mx x621001 x622000]) x15 x16 (wrap64 (x17 + 1))) else (none))
def impl_Assign.j2 : Nat → List (S52) → List (S89) → List Int → List (S89) → Int → Int → List (S52) → Int → Int → Bool → Int → Int → Int → Int → Int → Int → Int → Int → Option (List Int)
 | 0, _, _, _, _, _, _, _, _, _, _, _, _, _, _, _, _, _, _ => none
 | k + 1, x0, x1, x5, x15, x16, x17, x22, x23, x24, x38, x621000, x621001, x622000, x622001, x622002, x627000, x627001, x627002 => if x38 = true then (impl_Assign.l1 k x0 x1 x5 x15 x16 x17 x22 x23 (wrap64 (x24 + 1)) x621000 x621001 x622000 x622001 x622002) else (if x622000 = 0 then (impl_Assign.j3 k x0 x1 x5 x15 x16 x17 x22 x23 x24 true x621000 x621001 x622000 x622001 x622002 x627000 x627001 x627002) else (if x627002 < x622002 then (impl_Assign.j3 k x0 x1 x5 x15 x16 x17 x22 x23 x24 true x621000 x621001 x622000 x622001 x622002 x627000 x627001 x627002) else (if x627002 = x622002 then (impl_Assign.j3 k x0 x1 x5 x15 x16 x17 x22 x23 x24 (decide (x627000 < x622000)) x621000 x621001 x622000 x622001 x622002 x627000 x627001 x627002) else (impl_Assign.j3 k x0 x1 x5 x15 x16 x17 x22 x23 x24 false x621000 x621001 x622000 x622001 x622002 x627000 x627001 x627002))))
def impl_Assign.j3 : Nat → List (S52) → List (S89) → List Int → List (S89) → Int → Int → List (S52) → Int → Int → Bool → Int → Int → Int → Int → Int → Int → Int → Int → Option (List Int)
 | 0, _, _, _, _, _, _, _, _, _, _, _, _, _, _, _, _, _, _ => none
 | k + 1, x0, x1, x5, x15, x16, x17, x22, x23, x24, x62, x621000, x621001, x622000, x622001, x622002, x627000, x627001, x627002 => if x62 = true then (impl_Assign.l1 k x0 x1 x5 x15 x16 x17 x22 x23 (wrap64 (x24 + 1)) x621000 x621001 x627000 x627001 x627002) else (impl_Assign.l1 k x0 x1 x5 x15 x16 x17 x22 x23 (wrap64 (x24 + 1)) x621000 x621001 x622000 x622001 x622002)
end
def impl_Assign.f (k : Nat) (l0 : List (S52)) (l1 : List (S89)) : Option (List Int) := (impl_areSights.f k l0 l1).bind fun t618 => (if t618 = true then (impl_Assign.l0 k l0 l1 ([] : List Int) l1 (l1.length : Int) 0) else (some ([] : List Int)))
set_option maxHeartbeats 8000000 in
set_option maxRecDepth 100000 in
theorem impl_Assign.calls (k : Nat) (A0 : Option Addr) (c0 : Nat) (l0 : List (S52)) (A1 : Option Addr) (c1 : Nat) (l1 : List (S89)) (r : List Int) (w : World) (hr0 : Kd.C k52 w A0 l0.length l0) (hc0 : l0.length ≤ c0) (hr1 : Kd.C k89 w A1 l1.length l1) (hc1 : l1.length ≤ c1) (h : impl_Assign.f k l0 l1 = some r) :
  Calls Try.prog 40 #[.slice A0 l0.length c0, .slice A1 l1.length c1] w fun e w' => ∃ v0_ : Value, e = .returned (v0_) ∧ Kd.R (Kd.int .i64) 3 w' w.heap.size (fun _ => True) v0_ r ∧ Below w.heap.size w w' := by
 have hu89 := Try.underlying89; have hu52 := Try.underlying52; have HR0 := zK hr0; have HC0 := zK hc0; clear hr0 hc0; have cN := zK hr1; have HC1 := zK hc1; clear hr1 hc1
 have HB := zK (Below.refl w.heap.size w)
 have H : ((impl_areSights.f k l0 l1).bind fun bL => (if bL = true then (impl_Assign.l0 k l0 l1 ([] : List Int) l1 (l1.length : Int) 0) else (some ([] : List Int)))) = some r := h
 clear h; replace H := Option.bind_eq_some_iff.mp H
 obtain ⟨bL, A30, H⟩ := H
 replace H : (if bL = true then (impl_Assign.l0 k l0 l1 ([] : List Int) l1 (l1.length : Int) 0) else (some ([] : List Int))) = some r := H
 have A3 := zK A30; clear A30
 by_cases c4 : bL = true
 ·subst c4
  have H1 : (impl_Assign.l0 k l0 l1 ([] : List Int) l1 (l1.length : Int) 0) = some r := by rw [if_pos rfl] at H; exact H
  clear H; have H := H1; clear H1; have H' := zK H; clear H
  go_enter Try.func40, Try.ntmps40
  go_wp2_with (first | ((with_reducible refine gate_callee (f := 73) rfl ?_); refine goesL_ (some 13) rfl rfl Try.func73 (by kernel_rfl) rfl #[.slice A0 l0.length c0, .slice A1 l1.length c1] rfl (by (try simp only [List.map_toArray, List.map_cons, List.map_nil]); first | done | rfl | (simp only [List.length_drop, List.length_take]; rfl)) ?_; (with_reducible refine (impl_areSights.calls k _ _ l0 _ _ l1 true _ ?side1 ?side2 ?side3 ?side4 A3.out).mono ?_); (case side1 => repeat (first | exact HR0.out | (with_reducible refine Kd.C_alloc ?_ _) | (with_reducible refine Kd.C_drewN ?_ _) | (with_reducible refine Kd.C_drew ?_))); (case side2 => exact HC0.out); (case side3 => repeat (first | exact cN.out | (with_reducible refine Kd.C_alloc ?_ _) | (with_reducible refine Kd.C_drewN ?_ _) | (with_reducible refine Kd.C_drew ?_))); (case side4 => exact HC1.out); rintro e w5 ⟨rfl, hb⟩; refine ⟨_, rfl, ?_⟩; have aE := zK (below_step (zb HB) hb); clear HB; have HB := aE; clear aE; (try clear hb)))
  go_loopg [5, 17] k (fun kq v5 v17 w' => ∃ (av : List Int) (ab : Int), v17 = .int .i64 ab ∧ Aside0 (impl_Assign.l0 kq l0 l1 av l1 (l1.length : Int) ab = some r) ∧ Aside0 (kq ≤ k) ∧ Aside0 (Kd.R (Kd.int .i64) 3 w' w.heap.size (fun _ => True) v5 av) ∧ Aside0 (Below w.heap.size w w'))
  case atStart => exact ⟨(([] : List Int)), (0), (by first | rfl | (simp; done) | (simp [*]; done)), H', ⟨Nat.le_refl _⟩, ⟨by first | exact Kd.R_nil _ _ _ _ _ | exact Kd.N_nil _ _ _ _ _ | exact Kd.V_nil _ _ _ _ _ | exact Kd.Q_nil _ _ _ _ _ | exact Kd.S_nil _ _ _ _ _⟩, ⟨zb HB⟩⟩
  case round =>
   clear H'
   try clear c1
   try clear p2
   try clear c4
   obtain ⟨av, ab, rfl, HA, a3, ao, HB⟩ := hrel
   cases gk with
   | zero => exact absurd HA.out (by simp [impl_Assign.l0])
   | succ k1 =>
    have H := HA.out; clear HA
    simp only [impl_Assign.l0] at H
    by_cases c6 : ab < (l1.length : Int)
    ·rw [if_pos c6] at H
     have bM : decide (ab < (l1.length : Int)) = true := decide_eq_true c6
     clear c6
     by_cases c7 : 0 ≤ ab
     ·rw [if_pos c7] at H
      have cF : decide (0 ≤ ab) = true := decide_eq_true c7
      clear c7
      by_cases c8 : ab < (l1.length : Int)
      ·rw [if_pos c8] at H
       have cG : decide (ab < (l1.length : Int)) = true := decide_eq_true c8
       clear c8; have H' := zK H; clear H
       have bD : 0 ≤ (ab : Int) := of_decide_eq_true (by first | (with_reducible assumption) | assumption)
       have bE : ab < (l1.length : Int) := of_decide_eq_true (by first | (with_reducible assumption) | assumption)
       obtain ⟨cv, e619, ay, az⟩ := at_T89 cN.out ab bD bE
       cases e619
       replace ay := (HB.out.cell (World.block_lt_of_cell? w _ ay)).trans ay
       replace az := (HB.out.cell (World.block_lt_of_cell? w _ az)).trans az
       replace bD := eq_true bD; replace bE := eq_true bE
       go_wp2_with (first | ((with_reducible refine gate_dst (N := 7) rfl ?_); refine box_event ?hg (N := 7) ?hd (cs := #[.int .i64 0, .int .i64 0]) (t := 89) ?hr ?_; (case hd => rfl); (case hg => rfl); (case hr => first | (go_simp; done) | (go_simp; rfl)); intro an hg w9 hbox hb; have aE := zK (Kd.R_below (zR ao) hb); have aY := zK (below_step (zb HB) hb); have aZ := zK (hbox); have a0 := zK ((by rw [hg]; exact (below_size (zb HB)) : w.heap.size ≤ an)); have a4 := zK ((by rw [hg]; exact (below_size (zb HB)) : w.heap.size ≤ an)); clear ao; clear HB; have ao := aE; have HB := aY; have ah := aZ; have GW620 := a0; have ap := a4; clear aE aY aZ a0 a4; clear hb hbox hg; have aI : w9.cell? ⟨an, 0, none⟩ = some (.int .i64 0) := (blk_cell ah.out 0).trans rfl; have aJ : w9.cell? ⟨an, 1, none⟩ = some (.int .i64 0) := (blk_cell ah.out 1).trans rfl; have aK := blk_frozen ah.out 0; have aM := blk_frozen ah.out 1) | ((with_reducible refine gate_dst (N := 8) rfl ?_); refine box_event ?hg (N := 8) ?hd (cs := #[.int .i64 0, .int .i64 0, .int .i64 0]) (t := 52) ?hr ?_; (case hd => rfl); (case hg => rfl); (case hr => first | (go_simp; done) | (go_simp; rfl)); intro ai hg w11 hbox hb; have aE := zK (Kd.R_below (by (with_reducible repeat (first | apply Kd.R_alloc | apply Kd.R_drewN | apply Kd.R_drew)); exact (Kd.R_mono (Kd.R_far (p := ⟨an, 1, none⟩) (Kd.R_far (p := ⟨an, 0, none⟩) (Kd.R_types ao.out ah.out (by decide)) (fun _ hk => hk.2) (.int .i64 ((rd_T89 l1 ab).f0))) (fun _ hk => hk.2) (.int .i64 ((rd_T89 l1 ab).f1))) (fun _ h_ => h_.1))) hb); have aY := zK (blk_below (g := an) (o := .cells #[.int .i64 ((rd_T89 l1 ab).f0), .int .i64 ((rd_T89 l1 ab).f1)] 89 (0, 0)) (by (with_reducible repeat (first | refine zN ?_ _ | refine zD ?_ | refine zA ?_ _)); refine blk_put (cs := #[.int .i64 ((rd_T89 l1 ab).f0), .int .i64 0]) ?_ 1 _ rfl; (with_reducible repeat (first | refine zN ?_ _ | refine zD ?_ | refine zA ?_ _)); refine blk_put (cs := #[.int .i64 0, .int .i64 0]) ?_ 0 _ rfl; (with_reducible repeat (first | refine zN ?_ _ | refine zD ?_ | refine zA ?_ _)); exact ah.out) hb); have aZ := zK (below_step (zb HB) hb); have a0 := zK (hbox); have a4 := zK ((by rw [hg]; exact (below_size (zb HB)) : w.heap.size ≤ ai)); have cO := zK ((by rw [hg]; exact (below_size (zb HB)) : w.heap.size ≤ ai)); have cP := zK ((by rw [hg]; exact Nat.ne_of_lt (blk_lt (g := an) (o := .cells #[.int .i64 ((rd_T89 l1 ab).f0), .int .i64 ((rd_T89 l1 ab).f1)] 89 (0, 0)) (by (with_reducible repeat (first | refine zN ?_ _ | refine zD ?_ | refine zA ?_ _)); refine blk_put (cs := #[.int .i64 ((rd_T89 l1 ab).f0), .int .i64 0]) ?_ 1 _ rfl; (with_reducible repeat (first | refine zN ?_ _ | refine zD ?_ | refine zA ?_ _)); refine blk_put (cs := #[.int .i64 0, .int .i64 0]) ?_ 0 _ rfl; (with_reducible repeat (first | refine zN ?_ _ | refine zD ?_ | refine zA ?_ _)); exact ah.out)) : an ≠ ai)); have cQ := zK ((by rw [hg]; exact Nat.ne_of_gt (blk_lt (g := an) (o := .cells #[.int .i64 ((rd_T89 l1 ab).f0), .int .i64 ((rd_T89 l1 ab).f1)] 89 (0, 0)) (by (with_reducible repeat (first | refine zN ?_ _ | refine zD ?_ | refine zA ?_ _)); refine blk_put (cs := #[.int .i64 ((rd_T89 l1 ab).f0), .int .i64 0]) ?_ 1 _ rfl; (with_reducible repeat (first | refine zN ?_ _ | refine zD ?_ | refine zA ?_ _)); refine blk_put (cs := #[.int .i64 0, .int .i64 0]) ?_ 0 _ rfl; (with_reducible repeat (first | refine zN ?_ _ | refine zD ?_ | refine zA ?_ _)); exact ah.out)) : ai ≠ an)); clear ao; clear ah; clear HB; have ao := aE; have ah := aY; have HB := aZ; have af := a0; have GW621 := a4; have ar := cO; have ak := cP; have aq := cQ; clear aE aY aZ a0 a4 cO cP cQ; clear hb hbox hg; have hnb12 := aq.out; have hnc12 := ak.out; have aN : w11.cell? ⟨ai, 0, none⟩ = some (.int .i64 0) := (blk_cell af.out 0).trans rfl; have aQ : w11.cell? ⟨ai, 1, none⟩ = some (.int .i64 0) := (blk_cell af.out 1).trans rfl; have aR : w11.cell? ⟨ai, 2, none⟩ = some (.int .i64 0) := (blk_cell af.out 2).trans rfl; have aT := blk_frozen af.out 0; have aU := blk_frozen af.out 1; have aV := blk_frozen af.out 2))
       go_loopg [24] k1 (fun kq v24 w' => ∃ (aa : Int) (ad : Int) (ae : Int) (ac : Int), v24 = .int .i64 aa ∧ Aside0 (impl_Assign.l1 kq l0 l1 av l1 (l1.length : Int) ab l0 (l0.length : Int) aa ((rd_T89 l1 ab).f0) ((rd_T89 l1 ab).f1) ad ae ac = some r) ∧ Aside0 (kq ≤ k1) ∧ Aside0 (Kd.R (Kd.int .i64) 3 w' w.heap.size (fun _ => True) u5 av) ∧ Aside0 (w'.heap[an]? = some (.cells #[.int .i64 ((rd_T89 l1 ab).f0), .int .i64 ((rd_T89 l1 ab).f1)] 89 (0, 0))) ∧ Aside0 (w'.heap[ai]? = some (.cells #[.int .i64 ad, .int .i64 ae, .int .i64 ac] 52 (0, 0))) ∧ Aside0 (Below w.heap.size w w'))
       case atStart => exact ⟨(0), (0), (0), (0), (by first | rfl | (simp; done) | (simp [*]; done)), H', ⟨Nat.le_refl _⟩, ⟨by (with_reducible repeat (first | apply Kd.R_alloc | apply Kd.R_drewN | apply Kd.R_drew)); exact Kd.R_mono (Kd.R_far (p := ⟨ai, 2, none⟩) (Kd.R_far (p := ⟨ai, 1, none⟩) (Kd.R_far (p := ⟨ai, 0, none⟩) (Kd.R_types ao.out af.out (by decide)) (fun _ hk => hk.2) (.int .i64 0)) (fun _ hk => hk.2) (.int .i64 0)) (fun _ hk => hk.2) (.int .i64 0)) (fun _ hk => trivial)⟩, ⟨by (with_reducible repeat (first | refine zN ?_ _ | refine zD ?_ | refine zA ?_ _)); refine blk_far ?_ ak.out _; (with_reducible repeat (first | refine zN ?_ _ | refine zD ?_ | refine zA ?_ _)); refine blk_far ?_ ak.out _; (with_reducible repeat (first | refine zN ?_ _ | refine zD ?_ | refine zA ?_ _)); refine blk_far ?_ ak.out _; (with_reducible repeat (first | refine zN ?_ _ | refine zD ?_ | refine zA ?_ _)); exact ah.out⟩, ⟨by (with_reducible repeat (first | refine zN ?_ _ | refine zD ?_ | refine zA ?_ _)); refine blk_put (cs := #[.int .i64 0, .int .i64 0, .int .i64 0]) ?_ 2 _ rfl; (with_reducible repeat (first | refine zN ?_ _ | refine zD ?_ | refine zA ?_ _)); refine blk_put (cs := #[.int .i64 0, .int .i64 0, .int .i64 0]) ?_ 1 _ rfl; (with_reducible repeat (first | refine zN ?_ _ | refine zD ?_ | refine zA ?_ _)); refine blk_put (cs := #[.int .i64 0, .int .i64 0, .int .i64 0]) ?_ 0 _ rfl; (with_reducible repeat (first | refine zN ?_ _ | refine zD ?_ | refine zA ?_ _)); exact af.out⟩, ⟨zb HB⟩⟩
       case round =>
        clear H'
        try clear c1
        try clear p2
        try clear c4
        try clear c6
        try clear bM
        try clear p6
        try clear q6
        try clear hx6
        try clear c7
        try clear cF
        try clear c8
        try clear cG
        try clear c12
        try clear aI
        try clear aJ
        try clear aN
        try clear aQ
        try clear aR
        try clear aK
        try clear aM
        try clear aT
        try clear aU
        try clear aV
        try clear ay
        try clear az
        try clear p2
        try clear bD
        try clear bE
        obtain ⟨aa, ad, ae, ac, rfl, HA, a5, ao, ah, af, HB⟩ := hrel
        cases gk with
        | zero => exact absurd HA.out (by simp [impl_Assign.l1])
        | succ k2 =>
         have H := HA.out; clear HA
         simp only [impl_Assign.l1] at H
         by_cases cw : aa < (l0.length : Int)
         ·rw [if_pos cw] at H
          have bG : decide (aa < (l0.length : Int)) = true := decide_eq_true cw
          clear cw
          by_cases cK : 0 ≤ aa
          ·rw [if_pos cK] at H
           have cx : decide (0 ≤ aa) = true := decide_eq_true cK
           clear cK
           by_cases cL : aa < (l0.length : Int)
           ·rw [if_pos cL] at H
            have cy : decide (aa < (l0.length : Int)) = true := decide_eq_true cL
            clear cL; have cH := zK H; clear H
            have bH : 0 ≤ (aa : Int) := of_decide_eq_true (by first | (with_reducible assumption) | assumption)
            have bI : aa < (l0.length : Int) := of_decide_eq_true (by first | (with_reducible assumption) | assumption)
            obtain ⟨ad625, e625, aA, aC, aD⟩ := at_T52 HR0.out aa bH bI
            cases e625
            replace aA := (HB.out.cell (World.block_lt_of_cell? w _ aA)).trans aA
            replace aC := (HB.out.cell (World.block_lt_of_cell? w _ aC)).trans aC
            replace aD := (HB.out.cell (World.block_lt_of_cell? w _ aD)).trans aD
            replace bH := eq_true bH; replace bI := eq_true bI
            go_upto_region 11 with (first | ((with_reducible refine gate_dst (N := 10) rfl ?_); refine box_event ?hg (N := 10) ?hd (cs := #[.int .i64 0, .int .i64 0, .int .i64 0]) (t := 52) ?hr ?_; (case hd => rfl); (case hg => rfl); (case hr => first | (go_simp; done) | (go_simp; rfl)); intro aj hg bF hbox hb; have aE := zK (Kd.R_below (zR ao) hb); have aY := zK (blk_below (g := an) (o := .cells #[.int .i64 ((rd_T89 l1 ab).f0), .int .i64 ((rd_T89 l1 ab).f1)] 89 (0, 0)) (zk ah) hb); have aZ := zK (blk_below (g := ai) (o := .cells #[.int .i64 ad, .int .i64 ae, .int .i64 ac] 52 (0, 0)) (zk af) hb); have a0 := zK (below_step (zb HB) hb); have a4 := zK (hbox); have cO := zK ((by rw [hg]; exact (below_size (zb HB)) : w.heap.size ≤ aj)); have cP := zK ((by rw [hg]; exact (below_size (zb HB)) : w.heap.size ≤ aj)); have cQ := zK ((by rw [hg]; exact Nat.ne_of_lt (blk_lt (g := an) (o := .cells #[.int .i64 ((rd_T89 l1 ab).f0), .int .i64 ((rd_T89 l1 ab).f1)] 89 (0, 0)) (zk ah)) : an ≠ aj)); have n8_ := zK ((by rw [hg]; exact Nat.ne_of_gt (blk_lt (g := an) (o := .cells #[.int .i64 ((rd_T89 l1 ab).f0), .int .i64 ((rd_T89 l1 ab).f1)] 89 (0, 0)) (zk ah)) : aj ≠ an)); have n9_ := zK ((by rw [hg]; exact Nat.ne_of_lt (blk_lt (g := ai) (o := .cells #[.int .i64 ad, .int .i64 ae, .int .i64 ac] 52 (0, 0)) (zk af)) : ai ≠ aj)); have cR := zK ((by rw [hg]; exact Nat.ne_of_gt (blk_lt (g := ai) (o := .cells #[.int .i64 ad, .int .i64 ae, .int .i64 ac] 52 (0, 0)) (zk af)) : aj ≠ ai)); clear ao; clear ah; clear af; clear HB; have ao := aE; have ah := aY; have af := aZ; have HB := a0; have ag := a4; have GW626 := cO; have ax := cP; have am := cQ; have aw := n8_; have al := n9_; have au := cR; clear aE aY aZ a0 a4 cO cP cQ n8_ n9_ cR; clear hb hbox hg; have hnb19 := aw.out; have hnc19 := am.out; have hnb20 := au.out; have hnc20 := al.out; have a6 : bF.cell? ⟨aj, 0, none⟩ = some (.int .i64 0) := (blk_cell ag.out 0).trans rfl; have a7 : bF.cell? ⟨aj, 1, none⟩ = some (.int .i64 0) := (blk_cell ag.out 1).trans rfl; have a8 : bF.cell? ⟨aj, 2, none⟩ = some (.int .i64 0) := (blk_cell ag.out 2).trans rfl; have a9 := blk_frozen ag.out 0; have ba := blk_frozen ag.out 1; have bb := blk_frozen ag.out 2))
            (try simp only [Act.put, zp, zq, zr])
            go_cut [38] (fun v38 wc => ∃ (kq : Nat) (aW : Bool), v38 = .bool aW ∧ Aside0 (impl_Assign.j2 kq l0 l1 av l1 (l1.length : Int) ab l0 (l0.length : Int) aa aW ((rd_T89 l1 ab).f0) ((rd_T89 l1 ab).f1) ad ae ac ((rd_T52 l0 aa).f0) ((rd_T52 l0 aa).f1) ((rd_T52 l0 aa).f2) = some r) ∧ Aside0 (kq ≤ k2) ∧ Aside0 (Kd.R (Kd.int .i64) 3 wc w.heap.size (fun _ => True) u5 av) ∧ Aside0 (wc.heap[an]? = some (.cells #[.int .i64 ((rd_T89 l1 ab).f0), .int .i64 ((rd_T89 l1 ab).f1)] 89 (0, 0))) ∧ Aside0 (wc.heap[ai]? = some (.cells #[.int .i64 ad, .int .i64 ae, .int .i64 ac] 52 (0, 0))) ∧ Aside0 (wc.heap[aj]? = some (.cells #[.int .i64 ((rd_T52 l0 aa).f0), .int .i64 ((rd_T52 l0 aa).f1), .int .i64 ((rd_T52 l0 aa).f2)] 52 (0, 0))) ∧ Aside0 (Below w.heap.size w wc))
            case first =>
             have H := cH.out; clear cH; replace H := Option.bind_eq_some_iff.mp H
             obtain ⟨cS, cT, H⟩ := H
             replace H : (if cS = true then ((slices_Contains_int_int.f k2 av ((rd_T52 l0 aa).f0)).bind fun a2 => (impl_Assign.j2 k2 l0 l1 av l1 (l1.length : Int) ab l0 (l0.length : Int) aa a2 ((rd_T89 l1 ab).f0) ((rd_T89 l1 ab).f1) ad ae ac ((rd_T52 l0 aa).f0) ((rd_T52 l0 aa).f1) ((rd_T52 l0 aa).f2))) else (impl_Assign.j2 k2 l0 l1 av l1 (l1.length : Int) ab l0 (l0.length : Int) aa true ((rd_T89 l1 ab).f0) ((rd_T89 l1 ab).f1) ad ae ac ((rd_T52 l0 aa).f0) ((rd_T52 l0 aa).f1) ((rd_T52 l0 aa).f2))) = some r := H
             have A22 := zK cT; clear cT
             by_cases cM : cS = true
             ·subst cM
              have H1 : ((slices_Contains_int_int.f k2 av ((rd_T52 l0 aa).f0)).bind fun a2 => (impl_Assign.j2 k2 l0 l1 av l1 (l1.length : Int) ab l0 (l0.length : Int) aa a2 ((rd_T89 l1 ab).f0) ((rd_T89 l1 ab).f1) ad ae ac ((rd_T52 l0 aa).f0) ((rd_T52 l0 aa).f1) ((rd_T52 l0 aa).f2))) = some r := by rw [if_pos rfl] at H; exact H
              clear H; have H := H1; clear H1; replace H := Option.bind_eq_some_iff.mp H
              obtain ⟨a2, cU, H⟩ := H
              replace H : (impl_Assign.j2 k2 l0 l1 av l1 (l1.length : Int) ab l0 (l0.length : Int) aa a2 ((rd_T89 l1 ab).f0) ((rd_T89 l1 ab).f1) ad ae ac ((rd_T52 l0 aa).f0) ((rd_T52 l0 aa).f1) ((rd_T52 l0 aa).f2)) = some r := H
              have A24 := zK cU; clear cU; have H' := zK H; clear H; have hnb25 := ak.out; have hnc25 := aq.out; have hnb26 := am.out; have hnc26 := aw.out
              have bc : bF.cell? ⟨an, 0, none⟩ = some (.int .i64 ((rd_T89 l1 ab).f0)) := (blk_cell ah.out 0).trans rfl
              have bd : bF.cell? ⟨an, 1, none⟩ = some (.int .i64 ((rd_T89 l1 ab).f1)) := (blk_cell ah.out 1).trans rfl
              have be := blk_frozen ah.out 0; have bf := blk_frozen ah.out 1; have hnb28 := au.out; have hnc28 := al.out
              have bg : bF.cell? ⟨aj, 0, none⟩ = some (.int .i64 0) := (blk_cell ag.out 0).trans rfl
              have bh : bF.cell? ⟨aj, 1, none⟩ = some (.int .i64 0) := (blk_cell ag.out 1).trans rfl
              have bi : bF.cell? ⟨aj, 2, none⟩ = some (.int .i64 0) := (blk_cell ag.out 2).trans rfl
              have bj := blk_frozen ag.out 0; have bk := blk_frozen ag.out 1; have bl := blk_frozen ag.out 2
              go_wp2_with (first | ((with_reducible refine gate_callee (f := 81) rfl ?_); refine goesL_ (some 31) rfl rfl Try.func81 (by kernel_rfl) rfl #[.slice (some cv) l1.length c1, .agg #[.int .i64 ((rd_T89 l1 ab).f0), .int .i64 ((rd_T89 l1 ab).f1)], .agg #[.int .i64 ((rd_T52 l0 aa).f0), .int .i64 ((rd_T52 l0 aa).f1), .int .i64 ((rd_T52 l0 aa).f2)]] rfl (by (try simp only [List.map_toArray, List.map_cons, List.map_nil]); first | done | rfl | (simp only [List.length_drop, List.length_take]; rfl)) ?_; (with_reducible refine (impl_fits.calls _ _ l1 ((rd_T89 l1 ab).f0) ((rd_T89 l1 ab).f1) ((rd_T52 l0 aa).f0) ((rd_T52 l0 aa).f1) ((rd_T52 l0 aa).f2) true _ ?side1 ?side2 A22.out).mono ?_); (case side1 => exact Kd.C_below cN.out (zb HB)); (case side2 => exact HC1.out); rintro e w30 ⟨rfl, hb⟩; refine ⟨_, rfl, ?_⟩; have aE := zK (Kd.R_below (by (with_reducible repeat (first | apply Kd.R_alloc | apply Kd.R_drewN | apply Kd.R_drew)); exact (Kd.R_mono (Kd.R_far (p := ⟨aj, 2, none⟩) (Kd.R_far (p := ⟨aj, 1, none⟩) (Kd.R_far (p := ⟨aj, 0, none⟩) (Kd.R_types ao.out ag.out (by decide)) (fun _ hk => hk.2) (.int .i64 ((rd_T52 l0 aa).f0))) (fun _ hk => hk.2) (.int .i64 ((rd_T52 l0 aa).f1))) (fun _ hk => hk.2) (.int .i64 ((rd_T52 l0 aa).f2))) (fun _ h_ => h_.1))) hb); have aY := zK (blk_below (g := an) (o := .cells #[.int .i64 ((rd_T89 l1 ab).f0), .int .i64 ((rd_T89 l1 ab).f1)] 89 (0, 0)) (by (with_reducible repeat (first | refine zN ?_ _ | refine zD ?_ | refine zA ?_ _)); refine blk_far ?_ am.out _; (with_reducible repeat (first | refine zN ?_ _ | refine zD ?_ | refine zA ?_ _)); refine blk_far ?_ am.out _; (with_reducible repeat (first | refine zN ?_ _ | refine zD ?_ | refine zA ?_ _)); refine blk_far ?_ am.out _; (with_reducible repeat (first | refine zN ?_ _ | refine zD ?_ | refine zA ?_ _)); exact ah.out) hb); have aZ := zK (blk_below (g := ai) (o := .cells #[.int .i64 ad, .int .i64 ae, .int .i64 ac] 52 (0, 0)) (by (with_reducible repeat (first | refine zN ?_ _ | refine zD ?_ | refine zA ?_ _)); refine blk_far ?_ al.out _; (with_reducible repeat (first | refine zN ?_ _ | refine zD ?_ | refine zA ?_ _)); refine blk_far ?_ al.out _; (with_reducible repeat (first | refine zN ?_ _ | refine zD ?_ | refine zA ?_ _)); refine blk_far ?_ al.out _; (with_reducible repeat (first | refine zN ?_ _ | refine zD ?_ | refine zA ?_ _)); exact af.out) hb); have a0 := zK (blk_below (g := aj) (o := .cells #[.int .i64 ((rd_T52 l0 aa).f0), .int .i64 ((rd_T52 l0 aa).f1), .int .i64 ((rd_T52 l0 aa).f2)] 52 (0, 0)) (by (with_reducible repeat (first | refine zN ?_ _ | refine zD ?_ | refine zA ?_ _)); refine blk_put (cs := #[.int .i64 ((rd_T52 l0 aa).f0), .int .i64 ((rd_T52 l0 aa).f1), .int .i64 0]) ?_ 2 _ rfl; (with_reducible repeat (first | refine zN ?_ _ | refine zD ?_ | refine zA ?_ _)); refine blk_put (cs := #[.int .i64 ((rd_T52 l0 aa).f0), .int .i64 0, .int .i64 0]) ?_ 1 _ rfl; (with_reducible repeat (first | refine zN ?_ _ | refine zD ?_ | refine zA ?_ _)); refine blk_put (cs := #[.int .i64 0, .int .i64 0, .int .i64 0]) ?_ 0 _ rfl; (with_reducible repeat (first | refine zN ?_ _ | refine zD ?_ | refine zA ?_ _)); exact ag.out) hb); have a4 := zK (below_step (zb HB) hb); clear ao; clear ah; clear af; clear ag; clear HB; have ao := aE; have ah := aY; have af := aZ; have ag := a0; have HB := a4; clear aE aY aZ a0 a4; (try clear hb); (try clear hk); have bm : w30.cell? ⟨aj, 0, none⟩ = some (.int .i64 ((rd_T52 l0 aa).f0)) := (blk_cell ag.out 0).trans rfl; have bn : w30.cell? ⟨aj, 1, none⟩ = some (.int .i64 ((rd_T52 l0 aa).f1)) := (blk_cell ag.out 1).trans rfl; have bo : w30.cell? ⟨aj, 2, none⟩ = some (.int .i64 ((rd_T52 l0 aa).f2)) := (blk_cell ag.out 2).trans rfl; have bp := blk_frozen ag.out 0; have bq := blk_frozen ag.out 1; have br := blk_frozen ag.out 2; obtain ⟨Ao32, co32, eo32⟩ := Kd.R_slice ao.out; subst eo32) | (go_at_call 74; (with_reducible refine (slices_Contains_int_int.calls k2 _ _ av ((rd_T52 l0 aa).f0) a2 _ ?side1 ?side2 A24.out).mono ?_); (case side1 => repeat (first | exact (Kd.R_reads' ao.out).2.2 | (with_reducible refine Kd.C_alloc ?_ _) | (with_reducible refine Kd.C_drewN ?_ _) | (with_reducible refine Kd.C_drew ?_))); (case side2 => exact (Kd.R_reads' ao.out).2.1); rintro e w' ⟨rfl, ⟨nd, rfl⟩⟩))
              go_meet
              case rel => exact ⟨_, (a2), (by first | rfl | (simp; done) | (simp [*]; done)), H', ⟨by have := a3.out; have := a5.out; first | omega | exact Nat.le_refl _⟩, ⟨zR ao⟩, ⟨zk ah⟩, ⟨zk af⟩, ⟨zk ag⟩, ⟨zb HB⟩⟩
             ·replace cM := Bool.eq_false_iff.mpr cM
              subst cM
              have H1 : (impl_Assign.j2 k2 l0 l1 av l1 (l1.length : Int) ab l0 (l0.length : Int) aa true ((rd_T89 l1 ab).f0) ((rd_T89 l1 ab).f1) ad ae ac ((rd_T52 l0 aa).f0) ((rd_T52 l0 aa).f1) ((rd_T52 l0 aa).f2)) = some r := by rw [if_neg (show ¬ (false = true) by decide)] at H; exact H
              clear H; have H := H1; clear H1; have H' := zK H; clear H; have hnb33 := ak.out; have hnc33 := aq.out; have hnb34 := am.out; have hnc34 := aw.out
              have bs : bF.cell? ⟨an, 0, none⟩ = some (.int .i64 ((rd_T89 l1 ab).f0)) := (blk_cell ah.out 0).trans rfl
              have bt : bF.cell? ⟨an, 1, none⟩ = some (.int .i64 ((rd_T89 l1 ab).f1)) := (blk_cell ah.out 1).trans rfl
              have bu := blk_frozen ah.out 0; have bv := blk_frozen ah.out 1; have hnb36 := au.out; have hnc36 := al.out
              have bw : bF.cell? ⟨aj, 0, none⟩ = some (.int .i64 0) := (blk_cell ag.out 0).trans rfl
              have bx : bF.cell? ⟨aj, 1, none⟩ = some (.int .i64 0) := (blk_cell ag.out 1).trans rfl
              have bz : bF.cell? ⟨aj, 2, none⟩ = some (.int .i64 0) := (blk_cell ag.out 2).trans rfl
              have bA := blk_frozen ag.out 0; have bB := blk_frozen ag.out 1; have bC := blk_frozen ag.out 2
              go_wp2_with (first | ((with_reducible refine gate_callee (f := 81) rfl ?_); refine goesL_ (some 31) rfl rfl Try.func81 (by kernel_rfl) rfl #[.slice (some cv) l1.length c1, .agg #[.int .i64 ((rd_T89 l1 ab).f0), .int .i64 ((rd_T89 l1 ab).f1)], .agg #[.int .i64 ((rd_T52 l0 aa).f0), .int .i64 ((rd_T52 l0 aa).f1), .int .i64 ((rd_T52 l0 aa).f2)]] rfl (by (try simp only [List.map_toArray, List.map_cons, List.map_nil]); first | done | rfl | (simp only [List.length_drop, List.length_take]; rfl)) ?_; (with_reducible refine (impl_fits.calls _ _ l1 ((rd_T89 l1 ab).f0) ((rd_T89 l1 ab).f1) ((rd_T52 l0 aa).f0) ((rd_T52 l0 aa).f1) ((rd_T52 l0 aa).f2) false _ ?side1 ?side2 A22.out).mono ?_); (case side1 => exact Kd.C_below cN.out (zb HB)); (case side2 => exact HC1.out); rintro e w38 ⟨rfl, hb⟩; refine ⟨_, rfl, ?_⟩; have aE := zK (Kd.R_below (by (with_reducible repeat (first | apply Kd.R_alloc | apply Kd.R_drewN | apply Kd.R_drew)); exact (Kd.R_mono (Kd.R_far (p := ⟨aj, 2, none⟩) (Kd.R_far (p := ⟨aj, 1, none⟩) (Kd.R_far (p := ⟨aj, 0, none⟩) (Kd.R_types ao.out ag.out (by decide)) (fun _ hk => hk.2) (.int .i64 ((rd_T52 l0 aa).f0))) (fun _ hk => hk.2) (.int .i64 ((rd_T52 l0 aa).f1))) (fun _ hk => hk.2) (.int .i64 ((rd_T52 l0 aa).f2))) (fun _ h_ => h_.1))) hb); have aY := zK (blk_below (g := an) (o := .cells #[.int .i64 ((rd_T89 l1 ab).f0), .int .i64 ((rd_T89 l1 ab).f1)] 89 (0, 0)) (by (with_reducible repeat (first | refine zN ?_ _ | refine zD ?_ | refine zA ?_ _)); refine blk_far ?_ am.out _; (with_reducible repeat (first | refine zN ?_ _ | refine zD ?_ | refine zA ?_ _)); refine blk_far ?_ am.out _; (with_reducible repeat (first | refine zN ?_ _ | refine zD ?_ | refine zA ?_ _)); refine blk_far ?_ am.out _; (with_reducible repeat (first | refine zN ?_ _ | refine zD ?_ | refine zA ?_ _)); exact ah.out) hb); have aZ := zK (blk_below (g := ai) (o := .cells #[.int .i64 ad, .int .i64 ae, .int .i64 ac] 52 (0, 0)) (by (with_reducible repeat (first | refine zN ?_ _ | refine zD ?_ | refine zA ?_ _)); refine blk_far ?_ al.out _; (with_reducible repeat (first | refine zN ?_ _ | refine zD ?_ | refine zA ?_ _)); refine blk_far ?_ al.out _; (with_reducible repeat (first | refine zN ?_ _ | refine zD ?_ | refine zA ?_ _)); refine blk_far ?_ al.out _; (with_reducible repeat (first | refine zN ?_ _ | refine zD ?_ | refine zA ?_ _)); exact af.out) hb); have a0 := zK (blk_below (g := aj) (o := .cells #[.int .i64 ((rd_T52 l0 aa).f0), .int .i64 ((rd_T52 l0 aa).f1), .int .i64 ((rd_T52 l0 aa).f2)] 52 (0, 0)) (by (with_reducible repeat (first | refine zN ?_ _ | refine zD ?_ | refine zA ?_ _)); refine blk_put (cs := #[.int .i64 ((rd_T52 l0 aa).f0), .int .i64 ((rd_T52 l0 aa).f1), .int .i64 0]) ?_ 2 _ rfl; (with_reducible repeat (first | refine zN ?_ _ | refine zD ?_ | refine zA ?_ _)); refine blk_put (cs := #[.int .i64 ((rd_T52 l0 aa).f0), .int .i64 0, .int .i64 0]) ?_ 1 _ rfl; (with_reducible repeat (first | refine zN ?_ _ | refine zD ?_ | refine zA ?_ _)); refine blk_put (cs := #[.int .i64 0, .int .i64 0, .int .i64 0]) ?_ 0 _ rfl; (with_reducible repeat (first | refine zN ?_ _ | refine zD ?_ | refine zA ?_ _)); exact ag.out) hb); have a4 := zK (below_step (zb HB) hb); clear ao; clear ah; clear af; clear ag; clear HB; have ao := aE; have ah := aY; have af := aZ; have ag := a0; have HB := a4; clear aE aY aZ a0 a4; (try clear hb); (try clear hk)))
              go_meet
              case rel => exact ⟨_, (true), (by first | rfl | (simp; done) | (simp [*]; done)), H', ⟨by have := a3.out; have := a5.out; first | omega | exact Nat.le_refl _⟩, ⟨zR ao⟩, ⟨zk ah⟩, ⟨zk af⟩, ⟨zk ag⟩, ⟨zb HB⟩⟩
            case rest =>
             clear cH
             try clear c1
             try clear c2
             try clear p2
             try clear c3
             try clear c4
             try clear c6
             try clear bM
             try clear p6
             try clear q6
             try clear hx6
             try clear c7
             try clear cF
             try clear c8
             try clear cG
             try clear c12
             try clear cw
             try clear bG
             try clear cK
             try clear cx
             try clear cL
             try clear cy
             try clear c19
             try clear c20
             try clear cM
             try clear c25
             try clear c26
             try clear c28
             try clear c33
             try clear c34
             try clear c36
             try clear aI
             try clear aJ
             try clear aN
             try clear aQ
             try clear aR
             try clear a6
             try clear a7
             try clear a8
             try clear bc
             try clear bd
             try clear bg
             try clear bh
             try clear bi
             try clear bm
             try clear bn
             try clear bo
             try clear bs
             try clear bt
             try clear bw
             try clear bx
             try clear bz
             try clear aK
             try clear aM
             try clear aT
             try clear aU
             try clear aV
             try clear a9
             try clear ba
             try clear bb
             try clear be
             try clear bf
             try clear bj
             try clear bk
             try clear bl
             try clear bp
             try clear bq
             try clear br
             try clear bu
             try clear bv
             try clear bA
             try clear bB
             try clear bC
             try clear ay
             try clear az
             try clear aA
             try clear aC
             try clear aD
             try clear p2
             try clear p6
             try clear bD
             try clear bH
             try clear q6
             try clear bE
             try clear bI
             obtain ⟨kq, aW, rfl, HA, aG, ao, ah, af, ag, HB⟩ := hcut
             cases kq with
             | zero => exact absurd HA.out (by simp [impl_Assign.j2])
             | succ kj16 =>
              have H := HA.out; clear HA
              simp only [impl_Assign.j2] at H
              by_cases cV : aW = true
              ·subst cV
               have H1 : (impl_Assign.l1 kj16 l0 l1 av l1 (l1.length : Int) ab l0 (l0.length : Int) (wrap64 (aa + 1)) ((rd_T89 l1 ab).f0) ((rd_T89 l1 ab).f1) ad ae ac) = some r := by rw [if_pos rfl] at H; exact H
               clear H; have H := H1; clear H1; have H' := zK H; clear H
               go_wp2
               go_roundg kj16
               case measure => have := a3.out; have := a5.out; have := aG.out; omega
               case rel => exact ⟨(wrap64 (aa + 1)), (ad), (ae), (ac), (by first | rfl | (simp; done) | (simp [*]; done)), H', ⟨by have := a3.out; have := a5.out; have := aG.out; omega⟩, ⟨zR ao⟩, ⟨zk ah⟩, ⟨zk af⟩, ⟨zb HB⟩⟩
              ·replace cV := Bool.eq_false_iff.mpr cV
               subst cV
               have H1 : (if ad = 0 then (impl_Assign.j3 kj16 l0 l1 av l1 (l1.length : Int) ab l0 (l0.length : Int) aa true ((rd_T89 l1 ab).f0) ((rd_T89 l1 ab).f1) ad ae ac ((rd_T52 l0 aa).f0) ((rd_T52 l0 aa).f1) ((rd_T52 l0 aa).f2)) else (if ((rd_T52 l0 aa).f2) < ac then (impl_Assign.j3 kj16 l0 l1 av l1 (l1.length : Int) ab l0 (l0.length : Int) aa true ((rd_T89 l1 ab).f0) ((rd_T89 l1 ab).f1) ad ae ac ((rd_T52 l0 aa).f0) ((rd_T52 l0 aa).f1) ((rd_T52 l0 aa).f2)) else (if ((rd_T52 l0 aa).f2) = ac then (impl_Assign.j3 kj16 l0 l1 av l1 (l1.length : Int) ab l0 (l0.length : Int) aa (decide (((rd_T52 l0 aa).f0) < ad)) ((rd_T89 l1 ab).f0) ((rd_T89 l1 ab).f1) ad ae ac ((rd_T52 l0 aa).f0) ((rd_T52 l0 aa).f1) ((rd_T52 l0 aa).f2)) else (impl_Assign.j3 kj16 l0 l1 av l1 (l1.length : Int) ab l0 (l0.length : Int) aa false ((rd_T89 l1 ab).f0) ((rd_T89 l1 ab).f1) ad ae ac ((rd_T52 l0 aa).f0) ((rd_T52 l0 aa).f1) ((rd_T52 l0 aa).f2))))) = some r := by rw [if_neg (show ¬ (false = true) by decide)] at H; exact H
               clear H; have H := H1; clear H1; have cI := zK H; clear H
               go_upto_region 12 with (fail)
               go_cut [62] (fun v62 wc => ∃ (kq : Nat) (aX : Bool), v62 = .bool aX ∧ Aside0 (impl_Assign.j3 kq l0 l1 av l1 (l1.length : Int) ab l0 (l0.length : Int) aa aX ((rd_T89 l1 ab).f0) ((rd_T89 l1 ab).f1) ad ae ac ((rd_T52 l0 aa).f0) ((rd_T52 l0 aa).f1) ((rd_T52 l0 aa).f2) = some r) ∧ Aside0 (kq ≤ kj16) ∧ Aside0 (Kd.R (Kd.int .i64) 3 wc w.heap.size (fun _ => True) u5 av) ∧ Aside0 (wc.heap[an]? = some (.cells #[.int .i64 ((rd_T89 l1 ab).f0), .int .i64 ((rd_T89 l1 ab).f1)] 89 (0, 0))) ∧ Aside0 (wc.heap[ai]? = some (.cells #[.int .i64 ad, .int .i64 ae, .int .i64 ac] 52 (0, 0))) ∧ Aside0 (wc.heap[aj]? = some (.cells #[.int .i64 ((rd_T52 l0 aa).f0), .int .i64 ((rd_T52 l0 aa).f1), .int .i64 ((rd_T52 l0 aa).f2)] 52 (0, 0))) ∧ Aside0 (Below w.heap.size w wc))
               case first =>
                have H := cI.out; clear cI
                by_cases cz : ad = 0
                ·rw [if_pos cz] at H
                 have aH : (ad == 0) = true := beq_iff_eq.mpr cz
                 have cA : (ad != 0) = false := bne_eq_false_iff_eq.mpr cz
                 clear cz
                 (first | rw [aH] | (simp only [i64_w, i32_w]; rw [aH]) | skip)
                 have H' := zK H; clear H; have hnb42 := aq.out; have hnc42 := ak.out; have hnb43 := al.out; have hnc43 := au.out
                 have bN : wc.cell? ⟨ai, 0, none⟩ = some (.int .i64 ad) := (blk_cell af.out 0).trans rfl
                 have bO : wc.cell? ⟨ai, 1, none⟩ = some (.int .i64 ae) := (blk_cell af.out 1).trans rfl
                 have bP : wc.cell? ⟨ai, 2, none⟩ = some (.int .i64 ac) := (blk_cell af.out 2).trans rfl
                 have bQ := blk_frozen af.out 0; have bR := blk_frozen af.out 1; have bS := blk_frozen af.out 2
                 go_wp2
                 go_meet
                 case rel => exact ⟨_, (true), (by first | rfl | (simp; done) | (simp [*]; done)), H', ⟨by have := a3.out; have := a5.out; have := aG.out; first | omega | exact Nat.le_refl _⟩, ⟨zR ao⟩, ⟨zk ah⟩, ⟨zk af⟩, ⟨zk ag⟩, ⟨zb HB⟩⟩
                ·rw [if_neg cz] at H
                 have aH : (ad == 0) = false := beq_eq_false_iff_ne.mpr cz
                 have cA : (ad != 0) = true := bne_iff_ne.mpr cz
                 (first | rw [aH] | (simp only [i64_w, i32_w]; rw [aH]) | skip)
                 by_cases cJ : ((rd_T52 l0 aa).f2) < ac
                 ·rw [if_pos cJ] at H
                  have cB : decide (((rd_T52 l0 aa).f2) < ac) = true := decide_eq_true cJ
                  clear cJ; have H' := zK H; clear H; have hnb46 := aq.out; have hnc46 := ak.out; have hnb47 := al.out; have hnc47 := au.out
                  have bT : wc.cell? ⟨ai, 0, none⟩ = some (.int .i64 ad) := (blk_cell af.out 0).trans rfl
                  have bU : wc.cell? ⟨ai, 1, none⟩ = some (.int .i64 ae) := (blk_cell af.out 1).trans rfl
                  have bV : wc.cell? ⟨ai, 2, none⟩ = some (.int .i64 ac) := (blk_cell af.out 2).trans rfl
                  have bW := blk_frozen af.out 0; have bX := blk_frozen af.out 1; have bY := blk_frozen af.out 2; have hnb49 := aw.out; have hnc49 := am.out
                  have bZ : wc.cell? ⟨aj, 0, none⟩ = some (.int .i64 ((rd_T52 l0 aa).f0)) := (blk_cell ag.out 0).trans rfl
                  have b0 : wc.cell? ⟨aj, 1, none⟩ = some (.int .i64 ((rd_T52 l0 aa).f1)) := (blk_cell ag.out 1).trans rfl
                  have b1 : wc.cell? ⟨aj, 2, none⟩ = some (.int .i64 ((rd_T52 l0 aa).f2)) := (blk_cell ag.out 2).trans rfl
                  have b2 := blk_frozen ag.out 0; have b3 := blk_frozen ag.out 1; have b4 := blk_frozen ag.out 2
                  go_wp2
                  go_meet
                  case rel => exact ⟨_, (true), (by first | rfl | (simp; done) | (simp [*]; done)), H', ⟨by have := a3.out; have := a5.out; have := aG.out; first | omega | exact Nat.le_refl _⟩, ⟨zR ao⟩, ⟨zk ah⟩, ⟨zk af⟩, ⟨zk ag⟩, ⟨zb HB⟩⟩
                 ·rw [if_neg cJ] at H
                  have cB : decide (((rd_T52 l0 aa).f2) < ac) = false := decide_eq_false cJ
                  clear cJ
                  by_cases cC : ((rd_T52 l0 aa).f2) = ac
                  ·rw [if_pos cC] at H
                   have cD : (((rd_T52 l0 aa).f2) == ac) = true := beq_iff_eq.mpr cC
                   have cE : (((rd_T52 l0 aa).f2) != ac) = false := bne_eq_false_iff_eq.mpr cC
                   clear cC; have H' := zK H; clear H; have hnb52 := aq.out; have hnc52 := ak.out; have hnb53 := al.out; have hnc53 := au.out
                   have b5 : wc.cell? ⟨ai, 0, none⟩ = some (.int .i64 ad) := (blk_cell af.out 0).trans rfl
                   have b6 : wc.cell? ⟨ai, 1, none⟩ = some (.int .i64 ae) := (blk_cell af.out 1).trans rfl
                   have b7 : wc.cell? ⟨ai, 2, none⟩ = some (.int .i64 ac) := (blk_cell af.out 2).trans rfl
                   have b8 := blk_frozen af.out 0; have b9 := blk_frozen af.out 1; have ca := blk_frozen af.out 2; have hnb55 := aw.out; have hnc55 := am.out
                   have cb : wc.cell? ⟨aj, 0, none⟩ = some (.int .i64 ((rd_T52 l0 aa).f0)) := (blk_cell ag.out 0).trans rfl
                   have cc : wc.cell? ⟨aj, 1, none⟩ = some (.int .i64 ((rd_T52 l0 aa).f1)) := (blk_cell ag.out 1).trans rfl
                   have cd : wc.cell? ⟨aj, 2, none⟩ = some (.int .i64 ((rd_T52 l0 aa).f2)) := (blk_cell ag.out 2).trans rfl
                   have ce := blk_frozen ag.out 0; have cf := blk_frozen ag.out 1; have cg := blk_frozen ag.out 2
                   go_wp2
                   go_meet
                   case rel => exact ⟨_, (decide (((rd_T52 l0 aa).f0) < ad)), (by first | rfl | (simp; done) | (simp [*]; done)), H', ⟨by have := a3.out; have := a5.out; have := aG.out; first | omega | exact Nat.le_refl _⟩, ⟨zR ao⟩, ⟨zk ah⟩, ⟨zk af⟩, ⟨zk ag⟩, ⟨zb HB⟩⟩
                  ·rw [if_neg cC] at H
                   have cD : (((rd_T52 l0 aa).f2) == ac) = false := beq_eq_false_iff_ne.mpr cC
                   have cE : (((rd_T52 l0 aa).f2) != ac) = true := bne_iff_ne.mpr cC
                   have H' := zK H; clear H; have hnb57 := aq.out; have hnc57 := ak.out; have hnb58 := al.out; have hnc58 := au.out
                   have ch : wc.cell? ⟨ai, 0, none⟩ = some (.int .i64 ad) := (blk_cell af.out 0).trans rfl
                   have ci : wc.cell? ⟨ai, 1, none⟩ = some (.int .i64 ae) := (blk_cell af.out 1).trans rfl
                   have cj : wc.cell? ⟨ai, 2, none⟩ = some (.int .i64 ac) := (blk_cell af.out 2).trans rfl
                   have ck := blk_frozen af.out 0; have cl := blk_frozen af.out 1; have cm := blk_frozen af.out 2; have hnb60 := aw.out; have hnc60 := am.out
                   have cn : wc.cell? ⟨aj, 0, none⟩ = some (.int .i64 ((rd_T52 l0 aa).f0)) := (blk_cell ag.out 0).trans rfl
                   have co : wc.cell? ⟨aj, 1, none⟩ = some (.int .i64 ((rd_T52 l0 aa).f1)) := (blk_cell ag.out 1).trans rfl
                   have cp : wc.cell? ⟨aj, 2, none⟩ = some (.int .i64 ((rd_T52 l0 aa).f2)) := (blk_cell ag.out 2).trans rfl
                   have cq := blk_frozen ag.out 0; have cr := blk_frozen ag.out 1; have ct := blk_frozen ag.out 2
                   go_wp2
                   go_meet
                   case rel => exact ⟨_, (false), (by first | rfl | (simp; done) | (simp [*]; done)), H', ⟨by have := a3.out; have := a5.out; have := aG.out; first | omega | exact Nat.le_refl _⟩, ⟨zR ao⟩, ⟨zk ah⟩, ⟨zk af⟩, ⟨zk ag⟩, ⟨zb HB⟩⟩
               case rest =>
                clear cI
                try clear c1
                try clear c2
                try clear p2
                try clear c3
                try clear c4
                try clear c5
                try clear c6
                try clear bM
                try clear p6
                try clear q6
                try clear hx6
                try clear c7
                try clear cF
                try clear c8
                try clear cG
                try clear c12
                try clear cw
                try clear bG
                try clear cK
                try clear cx
                try clear cL
                try clear cy
                try clear c19
                try clear c20
                try clear cM
                try clear c25
                try clear c26
                try clear c28
                try clear c33
                try clear c34
                try clear c36
                try clear cV
                try clear c40
                try clear cz
                try clear aH
                try clear cA
                try clear c42
                try clear c43
                try clear cJ
                try clear cB
                try clear c46
                try clear c47
                try clear c49
                try clear cC
                try clear cD
                try clear cE
                try clear c52
                try clear c53
                try clear c55
                try clear c57
                try clear c58
                try clear c60
                try clear p61
                try clear q61
                try clear hx61
                try clear aI
                try clear aJ
                try clear aN
                try clear aQ
                try clear aR
                try clear a6
                try clear a7
                try clear a8
                try clear bc
                try clear bd
                try clear bg
                try clear bh
                try clear bi
                try clear bm
                try clear bn
                try clear bo
                try clear bs
                try clear bt
                try clear bw
                try clear bx
                try clear bz
                try clear bN
                try clear bO
                try clear bP
                try clear bT
                try clear bU
                try clear bV
                try clear bZ
                try clear b0
                try clear b1
                try clear b5
                try clear b6
                try clear b7
                try clear cb
                try clear cc
                try clear cd
                try clear ch
                try clear ci
                try clear cj
                try clear cn
                try clear co
                try clear cp
                try clear aK
                try clear aM
                try clear aT
                try clear aU
                try clear aV
                try clear a9
                try clear ba
                try clear bb
                try clear be
                try clear bf
                try clear bj
                try clear bk
                try clear bl
                try clear bp
                try clear bq
                try clear br
                try clear bu
                try clear bv
                try clear bA
                try clear bB
                try clear bC
                try clear bQ
                try clear bR
                try clear bS
                try clear bW
                try clear bX
                try clear bY
                try clear b2
                try clear b3
                try clear b4
                try clear b8
                try clear b9
                try clear ca
                try clear ce
                try clear cf
                try clear cg
                try clear ck
                try clear cl
                try clear cm
                try clear cq
                try clear cr
                try clear ct
                try clear ay
                try clear az
                try clear aA
                try clear aC
                try clear aD
                try clear p2
                try clear p6
                try clear bD
                try clear bH
                try clear q6
                try clear bE
                try clear bI
                obtain ⟨kq, aX, rfl, HA, cu, ao, ah, af, ag, HB⟩ := hcut
                cases kq with
                | zero => exact absurd HA.out (by simp [impl_Assign.j3])
                | succ kj39 =>
                 have H := HA.out; clear HA
                 simp only [impl_Assign.j3] at H
                 by_cases c62 : aX = true
                 ·subst c62
                  have H1 : (impl_Assign.l1 kj39 l0 l1 av l1 (l1.length : Int) ab l0 (l0.length : Int) (wrap64 (aa + 1)) ((rd_T89 l1 ab).f0) ((rd_T89 l1 ab).f1) ((rd_T52 l0 aa).f0) ((rd_T52 l0 aa).f1) ((rd_T52 l0 aa).f2)) = some r := by rw [if_pos rfl] at H; exact H
                  clear H; have H := H1; clear H1; have H' := zK H; clear H; have hnb63 := aw.out; have hnc63 := am.out; have hnb64 := au.out; have hnc64 := al.out
                  have hcz65_0 : wc.cell? ⟨aj, 0, none⟩ = some (.int .i64 ((rd_T52 l0 aa).f0)) := (blk_cell ag.out 0).trans rfl
                  have hcz65_1 : wc.cell? ⟨aj, 1, none⟩ = some (.int .i64 ((rd_T52 l0 aa).f1)) := (blk_cell ag.out 1).trans rfl
                  have hcz65_2 : wc.cell? ⟨aj, 2, none⟩ = some (.int .i64 ((rd_T52 l0 aa).f2)) := (blk_cell ag.out 2).trans rfl
                  have hfz65_0 := blk_frozen ag.out 0; have hfz65_1 := blk_frozen ag.out 1; have hfz65_2 := blk_frozen ag.out 2; have hnb66 := aq.out; have hnc66 := ak.out
                  have hcz67_0 : wc.cell? ⟨ai, 0, none⟩ = some (.int .i64 ad) := (blk_cell af.out 0).trans rfl
                  have hcz67_1 : wc.cell? ⟨ai, 1, none⟩ = some (.int .i64 ae) := (blk_cell af.out 1).trans rfl
                  have hcz67_2 : wc.cell? ⟨ai, 2, none⟩ = some (.int .i64 ac) := (blk_cell af.out 2).trans rfl
                  have hfz67_0 := blk_frozen af.out 0; have hfz67_1 := blk_frozen af.out 1; have hfz67_2 := blk_frozen af.out 2
                  go_wp2
                  go_roundg kj39
                  case measure => have := a3.out; have := a5.out; have := aG.out; have := cu.out; omega
                  case rel => exact ⟨(wrap64 (aa + 1)), (((rd_T52 l0 aa).f0)), (((rd_T52 l0 aa).f1)), (((rd_T52 l0 aa).f2)), (by first | rfl | (simp; done) | (simp [*]; done)), H', ⟨by have := a3.out; have := a5.out; have := aG.out; have := cu.out; omega⟩, ⟨by (with_reducible repeat (first | apply Kd.R_alloc | apply Kd.R_drewN | apply Kd.R_drew)); exact Kd.R_mono (Kd.R_far (p := ⟨ai, 2, none⟩) (Kd.R_far (p := ⟨ai, 1, none⟩) (Kd.R_far (p := ⟨ai, 0, none⟩) (Kd.R_types ao.out af.out (by decide)) (fun _ hk => hk.2) (.int .i64 ((rd_T52 l0 aa).f0))) (fun _ hk => hk.2) (.int .i64 ((rd_T52 l0 aa).f1))) (fun _ hk => hk.2) (.int .i64 ((rd_T52 l0 aa).f2))) (fun _ hk => trivial)⟩, ⟨by (with_reducible repeat (first | refine zN ?_ _ | refine zD ?_ | refine zA ?_ _)); refine blk_far ?_ ak.out _; (with_reducible repeat (first | refine zN ?_ _ | refine zD ?_ | refine zA ?_ _)); refine blk_far ?_ ak.out _; (with_reducible repeat (first | refine zN ?_ _ | refine zD ?_ | refine zA ?_ _)); refine blk_far ?_ ak.out _; (with_reducible repeat (first | refine zN ?_ _ | refine zD ?_ | refine zA ?_ _)); exact ah.out⟩, ⟨by (with_reducible repeat (first | refine zN ?_ _ | refine zD ?_ | refine zA ?_ _)); refine blk_put (cs := #[.int .i64 ((rd_T52 l0 aa).f0), .int .i64 ((rd_T52 l0 aa).f1), .int .i64 ac]) ?_ 2 _ rfl; (with_reducible repeat (first | refine zN ?_ _ | refine zD ?_ | refine zA ?_ _)); refine blk_put (cs := #[.int .i64 ((rd_T52 l0 aa).f0), .int .i64 ae, .int .i64 ac]) ?_ 1 _ rfl; (with_reducible repeat (first | refine zN ?_ _ | refine zD ?_ | refine zA ?_ _)); refine blk_put (cs := #[.int .i64 ad, .int .i64 ae, .int .i64 ac]) ?_ 0 _ rfl; (with_reducible repeat (first | refine zN ?_ _ | refine zD ?_ | refine zA ?_ _)); exact af.out⟩, ⟨zb HB⟩⟩
                 ·replace c62 := Bool.eq_false_iff.mpr c62
                  subst c62
                  have H1 : (impl_Assign.l1 kj39 l0 l1 av l1 (l1.length : Int) ab l0 (l0.length : Int) (wrap64 (aa + 1)) ((rd_T89 l1 ab).f0) ((rd_T89 l1 ab).f1) ad ae ac) = some r := by rw [if_neg (show ¬ (false = true) by decide)] at H; exact H
                  clear H; have H := H1; clear H1; have H' := zK H; clear H
                  go_wp2
                  go_roundg kj39
                  case measure => have := a3.out; have := a5.out; have := aG.out; have := cu.out; omega
                  case rel => exact ⟨(wrap64 (aa + 1)), (ad), (ae), (ac), (by first | rfl | (simp; done) | (simp [*]; done)), H', ⟨by have := a3.out; have := a5.out; have := aG.out; have := cu.out; omega⟩, ⟨zR ao⟩, ⟨zk ah⟩, ⟨zk af⟩, ⟨zb HB⟩⟩
           ·rw [if_neg cL] at H
            exact absurd H (by simp)
          ·rw [if_neg cK] at H
           exact absurd H (by simp)
         ·rw [if_neg cw] at H
          have bG : decide (aa < (l0.length : Int)) = false := decide_eq_false cw
          clear cw
          obtain ⟨bJ, bK⟩ : ∃ j_ : Int, (mx ((rd_T89 l1 ab).f1) ad) = j_ := ⟨_, rfl⟩
          replace H : (if av.length < 17592186044416 then (impl_Assign.l0 k2 l0 l1 (av ++ [bJ]) l1 (l1.length : Int) (wrap64 (ab + 1))) else (none)) = some r := by first | (rw [bK] at H; exact H) | (simp only [bK] at H ⊢; exact H)
          have hji68_ : (if ((rd_T89 l1 ab).f1) < ad then ad else ((rd_T89 l1 ab).f1)) = bJ := bK
          by_cases c69 : av.length < 17592186044416
          ·rw [if_pos c69] at H
           have cW := zK c69; clear c69
           obtain ⟨cX, a1⟩ : ∃ y_ : List Int, y_ = (av ++ [bJ]) := ⟨_, rfl⟩
           replace H : (impl_Assign.l0 k2 l0 l1 cX l1 (l1.length : Int) (wrap64 (ab + 1))) = some r := by first | (rw [a1]; with_reducible exact H) | (have H2_ := (Option.bind_some _ _).symm.trans H; rw [a1]; with_reducible exact H2_) | (have H2_ := (Option.bind_some _ _).symm.trans H; with_reducible exact H2_) | with_reducible exact H | (rw [a1]; exact H) | exact H
           have Ny622 := zK a1; clear a1; have H' := zK H; clear H; have hnb70 := ak.out; have hnc70 := aq.out
           have hcz71_0 : wr.cell? ⟨an, 0, none⟩ = some (.int .i64 ((rd_T89 l1 ab).f0)) := (blk_cell ah.out 0).trans rfl
           have hcz71_1 : wr.cell? ⟨an, 1, none⟩ = some (.int .i64 ((rd_T89 l1 ab).f1)) := (blk_cell ah.out 1).trans rfl
           have hfz71_0 := blk_frozen ah.out 0; have hfz71_1 := blk_frozen ah.out 1
           have hcz72_0 : wr.cell? ⟨ai, 0, none⟩ = some (.int .i64 ad) := (blk_cell af.out 0).trans rfl
           have hcz72_1 : wr.cell? ⟨ai, 1, none⟩ = some (.int .i64 ae) := (blk_cell af.out 1).trans rfl
           have hcz72_2 : wr.cell? ⟨ai, 2, none⟩ = some (.int .i64 ac) := (blk_cell af.out 2).trans rfl
           have hfz72_0 := blk_frozen af.out 0; have hfz72_1 := blk_frozen af.out 1; have hfz72_2 := blk_frozen af.out 2
           go_wp2_with (first | ((with_reducible refine gate_builtin (b := .append) (xs := #[.tmp 65, .tmp 71]) rfl ?_); at_builtin; refine Kd.R_append (Kd.int .i64) (w0 := w) w.heap.size rfl (.tmp 65) (.tmp 71) 29 3 (.int .i64 0) 8 rfl Try.underlying29 info3 rfl (by decide) (by omega) u5 av bJ [.int .i64 bJ] (fun _ => True) (fun _ => False) rfl rfl ?aP (fun _ hk => hk.elim) ?aF ?aO ?aB ?aS ?aL ?_; (case aP => exact rfl); (case aB => exact (zb HB)); (case aF => exact (fun _ _ => trivial)); (case aO => exact (zR ao)); (case aS => exact (below_size (zb HB))); (case aL => have := cW.out; omega); intro v623 w73 ho hb hg hat; rw [← Ny622.out] at ho; have aE := zK (blk_grown (g := an) (o := .cells #[.int .i64 ((rd_T89 l1 ab).f0), .int .i64 ((rd_T89 l1 ab).f1)] 89 (0, 0)) (zk ah) hg (Kd.R_ne ao.out ah.out (by decide))); have aY := zK (blk_grown (g := ai) (o := .cells #[.int .i64 ad, .int .i64 ae, .int .i64 ac] 52 (0, 0)) (zk af) hg (Kd.R_ne ao.out af.out (by decide))); have aZ := zK (hb); have a0 := zK (ho); clear ah; clear af; clear HB; clear ao; have ah := aE; have af := aY; have HB := aZ; have cY := a0; clear aE aY aZ a0; clear ho hb hg hat))
           go_roundg k2
           case measure => have := a3.out; have := a5.out; omega
           case rel => exact ⟨(cX), (wrap64 (ab + 1)), (by first | rfl | (simp; done) | (simp [*]; done)), H', ⟨by have := a3.out; have := a5.out; omega⟩, ⟨zR cY⟩, ⟨zb HB⟩⟩
          ·rw [if_neg c69] at H
           exact absurd H (by simp)
      ·rw [if_neg c8] at H
       exact absurd H (by simp)
     ·rw [if_neg c7] at H
      exact absurd H (by simp)
    ·rw [if_neg c6] at H
     have bM : decide (ab < (l1.length : Int)) = false := decide_eq_false c6
     clear c6; obtain rfl := Option.some.inj H
     go_wp2
     go_ret
     exact ⟨_, by first | rfl | (simp [errW_none, errW_some] <;> rfl) | (simp [*, errW_none, errW_some] <;> rfl), by (with_reducible repeat (first | apply Kd.R_alloc | apply Kd.R_drewN | apply Kd.R_drew)); exact ao.out, by repeat (first | (with_reducible first | exact HB.out | apply zB | apply zC | apply zE) | exact HB.out)⟩
 ·replace c4 := Bool.eq_false_iff.mpr c4
  subst c4
  have H1 : (some ([] : List Int)) = some r := by rw [if_neg (show ¬ (false = true) by decide)] at H; exact H
  clear H; have H := H1; clear H1; obtain rfl := Option.some.inj H
  go_enter Try.func40, Try.ntmps40
  go_wp2_with (first | ((with_reducible refine gate_callee (f := 73) rfl ?_); refine goesL_ (some 13) rfl rfl Try.func73 (by kernel_rfl) rfl #[.slice A0 l0.length c0, .slice A1 l1.length c1] rfl (by (try simp only [List.map_toArray, List.map_cons, List.map_nil]); first | done | rfl | (simp only [List.length_drop, List.length_take]; rfl)) ?_; (with_reducible refine (impl_areSights.calls k _ _ l0 _ _ l1 false _ ?side1 ?side2 ?side3 ?side4 A3.out).mono ?_); (case side1 => repeat (first | exact HR0.out | (with_reducible refine Kd.C_alloc ?_ _) | (with_reducible refine Kd.C_drewN ?_ _) | (with_reducible refine Kd.C_drew ?_))); (case side2 => exact HC0.out); (case side3 => repeat (first | exact cN.out | (with_reducible refine Kd.C_alloc ?_ _) | (with_reducible refine Kd.C_drewN ?_ _) | (with_reducible refine Kd.C_drew ?_))); (case side4 => exact HC1.out); rintro e w74 ⟨rfl, hb⟩; refine ⟨_, rfl, ?_⟩; have aE := zK (below_step (zb HB) hb); clear HB; have HB := aE; clear aE; (try clear hb)))
  go_ret
  exact ⟨_, by first | rfl | (simp [errW_none, errW_some] <;> rfl) | (simp [*, errW_none, errW_some] <;> rfl), by first | exact Kd.R_nil _ _ _ _ _ | exact Kd.N_nil _ _ _ _ _ | exact Kd.V_nil _ _ _ _ _ | exact Kd.Q_nil _ _ _ _ _ | exact Kd.S_nil _ _ _ _ _, by repeat (first | (with_reducible first | exact HB.out | apply zB | apply zC | apply zE) | exact HB.out)⟩
end Go.Proofs.Ytdmbfmfdijgdkaa.Px
