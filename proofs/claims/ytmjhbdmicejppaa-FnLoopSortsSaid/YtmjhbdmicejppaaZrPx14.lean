import Derived.Test.YtmjhbdmicejppaaZrPx0
import Derived.Test.YtmjhbdmicejppaaZrPx1
import Derived.Test.YtmjhbdmicejppaaZrPx2
import Derived.Test.YtmjhbdmicejppaaZrPx7
namespace Go.Proofs.Ytmjhbdmicejppaa.Px
open Go.RowKit Go.Proofs.YtmjhbdmicejppaaW.PrintWords Go.Proofs.YtmjhbdmicejppaaW.PrintLast Go.Proofs.YtmjhbdmicejppaaW.PrintMore
attribute [local go_sem] max2_int min2_int max_two min_two max_three min_three max_four min_four   
set_option linter.unusedVariables false
set_option linter.unusedSimpArgs false
def impl_MostSorted_1.f (a0 : Int) : Option (Bool) := some (a0 == 0)
set_option maxHeartbeats 8000000 in
set_option maxRecDepth 100000 in
theorem impl_MostSorted_1.calls (a0 : Int) (r : Bool) (w : World) (h : impl_MostSorted_1.f a0 = some r) :
  Calls Try.prog 59 #[.int .i64 a0] w fun e w' => e = .returned (.bool r) ∧ Drawn0 w w' := by
 have H : (some (a0 == 0)) = some r := h
 clear h; obtain rfl := Option.some.inj H
 go_enter Try.func59, Try.ntmps59
 go_wp2
 go_ret
 exact ⟨by first | rfl | (simp; done) | (simp [*]; done), by repeat (first | exact Drawn0.refl _ | apply Drawn0.step)⟩
mutual
def impl_most.l0 : Nat → List Int → List Int → Int → List Int → Int → Int → List Int → Int → List (S69) → List (S74) → Option (Int × List Int)
 | 0, _, _, _, _, _, _, _, _, _, _ => none
 | k + 1, x1, x2, x7, x32, x33, x34, x346000, x346001, x346002, x346003 => if x34 < x33 then (if 0 ≤ x34 then (if x34 < (x32.length : Int) then (if 0 ≤ (rd x32 x34) then (if (rd x32 x34) < (x2.length : Int) then (if (rd x2 (rd x32 x34)) > 0 then (if 1 ≤ (x1.length : Int) then ((impl_most.f k x346000 x346001 x346002 x346003 (x1.drop 1) (x2.set ((rd x32 x34) : Int).toNat (wrap64 ((rd x2 (rd x32 x34)) - 1)))).bind fun bt363 => (impl_most.l0 k x1 (bt363.2.set ((rd x32 x34) : Int).toNat (wrap64 ((rd bt363.2 (rd x32 x34)) + 1))) (mx x7 (wrap64 (1 + bt363.1))) x32 x33 (wrap64 (x34 + 1)) x346000 x346001 x346002 x346003)) else (none)) else (impl_most.l0 k x1 x2 x7 x32 x33 (wrap64 (x34 + 1)) x346000 x346001 x346002 x346003)) else (none)) else (none)) else (none)) else (none)) else (some (x7, x2))
def impl_most.f : Nat → List Int → Int → List (S69) → List (S74) → List Int → List Int → Option (Int × List Int)
 | 0, _, _, _, _, _, _ => none
 | k + 1, l0_0, a0_1, l0_2, l0_3, l1, l2 => if (l1.length : Int) = 0 then (some (0, l2)) else (if 1 ≤ (l1.length : Int) then ((impl_most.f k l0_0 a0_1 l0_2 l0_3 (l1.drop 1) l2).bind fun bt350 => (if 0 < (l1.length : Int) then ((impl_wantOf.f l0_0 a0_1 l0_2 l0_3 (rd l1 0)).bind fun t353 => (if t353 < 0 then (some (bt350.1, bt350.2)) else (if 0 ≤ t353 then (if t353 < (l0_3.length : Int) then (impl_most.l0 k l1 bt350.2 bt350.1 ((rd_T74 l0_3 t353).f1) (((rd_T74 l0_3 t353).f1).length : Int) 0 l0_0 a0_1 l0_2 l0_3) else (none)) else (none)))) else (none))) else (none))
end
def impl_most.T12 : Bool × List (List Nat × List Nat) := (true, [([], []), ([], []), ([], []), ([2], [2]), ([], []), ([1, 3, 4], [1, 3, 4]), ([5], [5]), ([0, 6], [0, 6]), ([7, 5, 0, 1, 2, 3, 4, 5, 6, 7], [0, 7])])
def impl_most.B12 : List Nat := [0, 0, 0, 4, 0, 30, 62, 127, 255]
theorem impl_most.tab12 : rtab .any (opsOf Try.f60 12) = impl_most.T12 := by kernel_rfl
theorem impl_most.bits12 : waitsOk impl_most.T12.2 impl_most.B12 = true := by kernel_rfl
theorem zy10 {p q : Prop} (h : Aside0 p) (s : p → q := by intro h_; repeat (first | (with_reducible first | exact h_ | apply Kept.alloc | apply Kept.drewN | apply Kept.drew | refine Kept.setCell ?_ (.inr (Aside0.out (by assumption))) _) | exact h_)) : q := s h.out
set_option maxHeartbeats 8000000 in
set_option maxRecDepth 100000 in
theorem impl_most.calls (k : Nat) : ∀ (am : Option Addr) (an : Nat) (ag : List Int) (a0_1 : Int) (ao : Option Addr) (ap : Nat) (ah : List (S69)) (aA : Option Addr) (aq : Nat) (ab : List (S74)) (A1 : Option Addr) (c1 : Nat) (l1 : List Int) (P2_ : Nat → Prop) (u9000_ : Value) (l2 : List Int) (r1 : Int) (r2 : List Int) (w0 w : World) (hB : Below w0.heap.size w0 w) (bb : ∀ W_, Kept w W_ (fun k_ => P2_ k_) → Kd.C (Kd.int .i64) W_ am ag.length ag) (hc0_0 : ag.length ≤ an) (bc : ∀ W_, Kept w W_ (fun k_ => P2_ k_) → Kd.C k69 W_ ao ah.length ah) (hc0_2 : ah.length ≤ ap) (bd : ∀ W_, Kept w W_ (fun k_ => P2_ k_) → Kd.C k74 W_ aA ab.length ab) (hc0_3 : ab.length ≤ aq) (hr1 : ∀ W_, Kept w W_ (fun k_ => P2_ k_) → Kd.C (Kd.int .i64) W_ A1 l1.length l1) (hc1 : l1.length ≤ c1) (ho2 : Kd.R (Kd.int .i64) 3 w w0.heap.size P2_ u9000_ l2) (h : impl_most.f k ag a0_1 ah ab l1 l2 = some (r1, r2)),
  Calls Try.prog 60 #[.agg #[.slice am ag.length an, .int .i64 a0_1, .slice ao ah.length ap, .slice aA ab.length aq], .slice A1 l1.length c1, u9000_] w fun e w' => e = .returned (.int .i64 r1) ∧ Kd.R (Kd.int .i64) 3 w' w0.heap.size (fun k_ => (P2_ k_ ∨ w.heap.size ≤ k_)) u9000_ r2 ∧ Below w0.heap.size w0 w' ∧ Kept w w' (fun k_ => P2_ k_) := by
 induction k using Nat.strongRecOn with
 | _ k ih =>
 intro am an ag a0_1 ao ap ah aA aq ab A1 c1 l1 P2_ u9000_ l2 r1 r2 w0 w hB bb hc0_0 bc hc0_2 bd hc0_3 hr1 hc1 ho2 h
 cases k with
 | zero => exact absurd h (by simp [impl_most.f])
 | succ k =>
 simp only [impl_most.f] at h
 have hu28 := Try.underlying28; have aQ := zK bb; have aR := zK hc0_0; clear bb hc0_0; have aS := zK bc; have aT := zK hc0_2; clear bc hc0_2; have aC := zK bd; have aU := zK hc0_3; clear bd hc0_3; have ba := zK hr1; have b6 := zK hc1; clear hr1 hc1
 have aj := zK (show Kd.R (Kd.int .i64) 3 w w0.heap.size (fun k_ => (P2_ k_ ∨ w.heap.size ≤ k_)) u9000_ l2 from Kd.R_mono ho2 (fun k_ hk => (.inl hk)))
 have HK := zK (Kept.refl w (fun k_ => P2_ k_))
 have HW0 := zK hB.size; have HB := zK hB; clear hB
 have H : (if (l1.length : Int) = 0 then (some (0, l2)) else (if 1 ≤ (l1.length : Int) then ((impl_most.f k ag a0_1 ah ab (l1.drop 1) l2).bind fun bt350 => (if 0 < (l1.length : Int) then ((impl_wantOf.f ag a0_1 ah ab (rd l1 0)).bind fun ad => (if ad < 0 then (some (bt350.1, bt350.2)) else (if 0 ≤ ad then (if ad < (ab.length : Int) then (impl_most.l0 k l1 bt350.2 bt350.1 ((rd_T74 ab ad).f1) (((rd_T74 ab ad).f1).length : Int) 0 ag a0_1 ah ab) else (none)) else (none)))) else (none))) else (none))) = some (r1, r2) := h
 clear h
 by_cases c4 : (l1.length : Int) = 0
 ·rw [if_pos c4] at H
  have b9 : ((l1.length : Int) == 0) = true := beq_iff_eq.mpr c4
  have ca : ((l1.length : Int) != 0) = false := bne_eq_false_iff_eq.mpr c4
  clear c4
  simp only [Option.some.injEq, Prod.mk.injEq] at H
  obtain ⟨rfl, rfl⟩ := H
  go_enter Try.func60, Try.ntmps60
  go_wp2_with (first | ((with_reducible refine gate_dst (N := 3) rfl ?_); refine zX 3 #[.slice am ag.length an, .int .i64 a0_1, .slice ao ah.length ap, .slice aA ab.length aq] 28 ?_; intro ae hg w5 hbox hb; have ar := zK (Kd.R_below (zR aj) hb); have au := zK (Kept.below (S := (fun k_ => P2_ k_)) (zy10 HK) hb); have av := zK (below_step (zb HB) hb); have aw := zK (hbox); have bG := zK ((by rw [hg]; exact (by first | exact HK.out.1 | exact (show Kept w _ (fun k_ => P2_ k_) from zy10 HK).1) : w.heap.size ≤ ae)); have bH := zK ((by rw [hg]; exact (below_size (zb HB)) : w0.heap.size ≤ ae)); clear aj; clear HK; clear HB; have aj := ar; have HK := au; have HB := av; have aa := aw; have af := bG; have ax := bH; clear ar au av aw bG bH; clear hb hbox hg))
  go_ret
  exact ⟨ze, by (with_reducible repeat (first | apply Kd.R_alloc | apply Kd.R_drewN | apply Kd.R_drew)); exact aj.out, zb HB, zy10 HK⟩
 ·rw [if_neg c4] at H
  have b9 : ((l1.length : Int) == 0) = false := beq_eq_false_iff_ne.mpr c4
  have ca : ((l1.length : Int) != 0) = true := bne_iff_ne.mpr c4
  have c4b2 : ¬ (l1 = []) := fun h_ => c4 (by rw [h_]; rfl)
  by_cases c6 : 1 ≤ (l1.length : Int)
  ·rw [if_pos c6] at H
   have c6b0 := eq_true c6
   have c6b1 : decide (1 ≤ (l1.length : Int)) = true := decide_eq_true c6
   clear c6
   obtain ⟨ay, aV⟩ : ∃ y_ : List Int, y_ = (l1.drop 1) := ⟨_, rfl⟩
   replace H : ((impl_most.f k ag a0_1 ah ab ay l2).bind fun bt350 => (if 0 < (l1.length : Int) then ((impl_wantOf.f ag a0_1 ah ab (rd l1 0)).bind fun ad => (if ad < 0 then (some (bt350.1, bt350.2)) else (if 0 ≤ ad then (if ad < (ab.length : Int) then (impl_most.l0 k l1 bt350.2 bt350.1 ((rd_T74 ab ad).f1) (((rd_T74 ab ad).f1).length : Int) 0 ag a0_1 ah ab) else (none)) else (none)))) else (none))) = some (r1, r2) := by first | (rw [aV]; with_reducible exact H) | (have H2_ := (Option.bind_some _ _).symm.trans H; rw [aV]; with_reducible exact H2_) | (have H2_ := (Option.bind_some _ _).symm.trans H; with_reducible exact H2_) | with_reducible exact H | (rw [aV]; exact H) | exact H
   have Ny346 := zK aV; clear aV; replace H := Option.bind_eq_some_iff.mp H
   obtain ⟨⟨a1, a2⟩, A70, H⟩ := H
   replace H : (if 0 < (l1.length : Int) then ((impl_wantOf.f ag a0_1 ah ab (rd l1 0)).bind fun ad => (if ad < 0 then (some (a1, a2)) else (if 0 ≤ ad then (if ad < (ab.length : Int) then (impl_most.l0 k l1 a2 a1 ((rd_T74 ab ad).f1) (((rd_T74 ab ad).f1).length : Int) 0 ag a0_1 ah ab) else (none)) else (none)))) else (none)) = some (r1, r2) := H
   have A7 := zK A70; clear A70
   by_cases c8 : 0 < (l1.length : Int)
   ·rw [if_pos c8] at H
    have c8b0 : decide (0 < (l1.length : Int)) = true := decide_eq_true c8
    have c8b1 : decide (0 < l1.length) = true := decide_eq_true (by omega)
    clear c8; replace H := Option.bind_eq_some_iff.mp H
    obtain ⟨ad, A90, H⟩ := H
    replace H : (if ad < 0 then (some (a1, a2)) else (if 0 ≤ ad then (if ad < (ab.length : Int) then (impl_most.l0 k l1 a2 a1 ((rd_T74 ab ad).f1) (((rd_T74 ab ad).f1).length : Int) 0 ag a0_1 ah ab) else (none)) else (none))) = some (r1, r2) := H
    have A9 := zK A90; clear A90
    by_cases c10 : ad < 0
    ·rw [if_pos c10] at H
     have bI : decide (ad < 0) = true := decide_eq_true c10
     clear c10
     simp only [Option.some.injEq, Prod.mk.injEq] at H
     obtain ⟨rfl, rfl⟩ := H
     go_enter Try.func60, Try.ntmps60
     try go_wp2_with (first | ((with_reducible refine gate_dst (N := 3) rfl ?_); refine zX 3 #[.slice am ag.length an, .int .i64 a0_1, .slice ao ah.length ap, .slice aA ab.length aq] 28 ?_; intro ae hg w11 hbox hb; have ar := zK (Kd.R_below (zR aj) hb); have au := zK (Kept.below (S := (fun k_ => P2_ k_)) (zy10 HK) hb); have av := zK (below_step (zb HB) hb); have aw := zK (hbox); have bG := zK ((by rw [hg]; exact (by first | exact HK.out.1 | exact (show Kept w _ (fun k_ => P2_ k_) from zy10 HK).1) : w.heap.size ≤ ae)); have bH := zK ((by rw [hg]; exact (below_size (zb HB)) : w0.heap.size ≤ ae)); clear aj; clear HK; clear HB; have aj := ar; have HK := au; have HB := av; have aa := aw; have af := bG; have ax := bH; clear ar au av aw bG bH; clear hb hbox hg))
     have ar := zK (Kd.R_drew aj.out)
     have au := zK (zD aa.out)
     have av := zK (Kept.drew HK.out)
     have aw := zK (zE HB.out)
     clear aj aa HK HB; have aj := ar; have aa := au; have HK := av; have HB := aw; clear ar au av aw
     have q13 : (1 : Int) ≤ ((l1.length : Int) : Int) := zd
     obtain ⟨i013, bJ, _, bK, _⟩ := info_parts info3
     have aK : l1.length ≤ c1 := b6.out
     have cb : Kd.C (Kd.int .i64) _ A1 l1.length l1 := (Kd.C_kept_now ba.out HK.out)
     have bR := cut_from (P := Try.prog) 24 3 .i64 Try.underlying24 bJ 1 bK A1 l1.length c1 1 (by omega) q13
     have be := Kd.C_drop (m := (1 : Int).toNat) (c := c1) cb (by omega) aK
     obtain ⟨A13, hA13⟩ : ∃ a_, a_ = (if c1 = (1 : Int).toNat then A1 else (A1 : Option Addr).map (·.add ((1 : Int).toNat * 1))) := ⟨_, rfl⟩
     obtain ⟨c13, hc13⟩ : ∃ c_, c_ = c1 - (1 : Int).toNat := ⟨_, rfl⟩
     have bn : ay.length = l1.length - (1 : Int).toNat := (by rw [Ny346.out, List.length_drop] <;> omega)
     rw [show (l1).drop (1 : Int).toNat = ay from Ny346.out.symm] at be
     replace be : Kd.C (Kd.int .i64) _ A13 ay.length ay := (by rw [hA13]; exact be)
     rw [← bn, ← hA13, ← hc13] at bR
     have bf := zK be
     have bg := zK (show ay.length ≤ c13 from by rw [bn, hc13]; exact Nat.sub_le_sub_right aK _)
     clear be cb aK bJ bK hc13; have KY13 := zK bn; have KA13 := zK hA13; clear bn hA13
     have KL13 := zK (show 1 ≤ l1.length from by omega)
     replace q13 := eq_true q13
     obtain ⟨bS, bT, cc⟩ := Kd.R_slice aj.out
     (first | subst cc | (injection cc with f1_ f2_ f3_; have f4_ := f1_.symm; have f5_ := f3_.symm; clear f1_ f2_ f3_; subst f4_; subst f5_))
     refine start_ (n := 6) (S := fun w' => w'.cell? ⟨ae, 0, none⟩ = some (.slice am ag.length an) ∧ w'.cell? ⟨ae, 1, none⟩ = some (.int .i64 a0_1) ∧ w'.cell? ⟨ae, 2, none⟩ = some (.slice ao ah.length ap) ∧ w'.cell? ⟨ae, 3, none⟩ = some (.slice aA ab.length aq)) (ds := []) #[ff, ff, ff, ff, ff, ff] (by kernel_rfl) rfl rfl ⟨(blk_cell aa.out 0).trans rfl, (blk_cell aa.out 1).trans rfl, (blk_cell aa.out 2).trans rfl, (blk_cell aa.out 3).trans rfl⟩ (fun hHeld => ?_)
     generalize w11.drew = w12 at aj aa HK HB bf hHeld ⊢
     refine zu 1 (some 15) #[ff, tt, ff, ff, ff, ff] (by kernel_rfl) ?_
     refine zu 2 (some 16) #[ff, tt, tt, ff, ff, ff] (by kernel_rfl) ?_
     refine zu 3 (some 17) #[ff, tt, tt, tt, ff, ff] (by kernel_rfl) ?_
     refine zt 0 (some 14) #[tt, tt, tt, tt, ff, ff] (by kernel_rfl) hHeld ?_
     refine one_ (i := 4) (N := some 18) #[tt, tt, tt, tt, tt, ff] rfl rfl (by kernel_rfl) (by decide) (fun K hK => ?_)
     refine goes_ Try.func60 (by kernel_rfl) rfl #[.agg #[.slice am ag.length an, .int .i64 a0_1, .slice ao ah.length ap, .slice aA ab.length aq], .slice A13 ay.length c13, .slice bS l2.length bT] (by rfl) rfl rfl zg ?_
     with_reducible refine (ih k (by omega) _ _ ag a0_1 _ _ ah _ _ ab _ _ ay (fun k_ => some k_ = (.slice bS l2.length bT : Value).ownBlock) (.slice bS l2.length bT) l2 a1 a2 w0 _ ?side1 ?side2 ?side3 ?side4 ?side5 ?side6 ?side7 ?side8 ?side9 ?side10 A7.out).mono ?_
     (case side1 => exact zb HB)
     (case side2 => exact Kd.C_kept_call aQ.out (zy10 HK) (fun k_ hs_ => (fun e_ => (aj.out.1 k_ e_.symm)) hs_))
     (case side3 => exact aR.out)
     (case side4 => exact Kd.C_kept_call aS.out (zy10 HK) (fun k_ hs_ => (fun e_ => (aj.out.1 k_ e_.symm)) hs_))
     (case side5 => exact aT.out)
     (case side6 => exact Kd.C_kept_call aC.out (zy10 HK) (fun k_ hs_ => (fun e_ => (aj.out.1 k_ e_.symm)) hs_))
     (case side7 => exact aU.out)
     (case side8 => exact fun W_ hk_ => (show Kd.C (Kd.int .i64) W_ A13 ay.length ay from by rw [Ny346.out, KA13.out]; exact Kd.C_drop (m := 1) (c := c1) ((Kd.C_kept_call ba.out (zy10 HK) (fun k_ hs_ => (fun e_ => (aj.out.1 k_ e_.symm)) hs_)) W_ hk_) KL13.out b6.out))
     (case side9 => exact bg.out)
     (case side10 => exact Kd.R_tight rfl aj.out)
     rintro e w15 ⟨rfl, bL, hb, hkp⟩
     refine ⟨_, rfl, ?_⟩
     have ar := zK (Kd.R_reok rfl bL (fun k_ e_ => aj.out.1 k_ e_))
     have au := zK (blk_kept (zk aa) hkp (fun hs_ => (fun e_ => (Kd.R_ne aj.out aa.out (by decide)) e_) hs_))
     have av := zK (Kept.then_ (S := (fun k_ => P2_ k_)) (zy10 HK) hkp (fun k_ hs_ => (fun e_ => (aj.out.1 k_ e_.symm)) hs_))
     have aw := zK (hb)
     clear aj aa HK HB; have aj := ar; have aa := au; have HK := av; have HB := aw; clear ar au av aw; (try clear hb); (try clear hkp); (try clear bL)
     refine hK.out _ _ ⟨(blk_cell aa.out 0).trans rfl, (blk_cell aa.out 1).trans rfl, (blk_cell aa.out 2).trans rfl, (blk_cell aa.out 3).trans rfl⟩ (fun hHeld => ?_)
     clear hK K
     refine norm_ (a' := ?_) ?_ ?_
     rotate_left
     ·show Act.put _ (some 18) _ = _
      simp only [Act.put, zp, zq, zr, i64_w, i32_w]
      rfl
     refine zu 5 (some 7) #[tt, tt, tt, tt, tt, tt] (by kernel_rfl) ?_
     refine done_ (by kernel_rfl) ?_
     try go_wp2
     have ar := zK (Kd.R_drew aj.out)
     have au := zK (zD aa.out)
     have av := zK (Kept.drew HK.out)
     have aw := zK (zE HB.out)
     clear aj aa HK HB; have aj := ar; have aa := au; have HK := av; have HB := aw; clear ar au av aw
     have aD : 0 ≤ (0 : Int) := (by omega)
     have aE : 0 < (l1.length : Int) := zd
     obtain ⟨aG, bU, ak⟩ := Kd.at_int (Kd.C_kept_now ba.out HK.out) 0 aD aE
     have az := ak; (try rw [show ((0 : Int)).toNat = 0 from rfl] at az); (try rw [show 0 * 1 = 0 from rfl] at az); (try rw [Addr.add_zero'] at az)
     cases bU
     have cd : (0 < l1.length) = True := eq_true (by omega)
     (try rw [show ((0 : Int)).toNat = 0 from rfl] at ak); (try rw [Addr.add_zero'] at ak); replace aD := eq_true aD; replace aE := eq_true aE
     refine start_ (n := 6) (S := fun w' => w'.cell? ⟨ae, 0, none⟩ = some (.slice am ag.length an) ∧ w'.cell? ⟨ae, 1, none⟩ = some (.int .i64 a0_1) ∧ w'.cell? ⟨ae, 2, none⟩ = some (.slice ao ah.length ap) ∧ w'.cell? ⟨ae, 3, none⟩ = some (.slice aA ab.length aq) ∧ w'.cell? aG = some (.int .i64 (rd l1 0))) (ds := []) #[ff, ff, ff, ff, ff, ff] (by kernel_rfl) rfl rfl ⟨(blk_cell aa.out 0).trans rfl, (blk_cell aa.out 1).trans rfl, (blk_cell aa.out 2).trans rfl, (blk_cell aa.out 3).trans rfl, (by have h_ := Kd.foot_int (ba.out _ (by repeat (first | exact HK.out | apply Kept.alloc | apply Kept.drewN | apply Kept.drew))) (0 : Int) (of_eq_true aD) (of_eq_true aE); rw [show ((0 : Int)).toNat = 0 from rfl, Addr.add_zero'] at h_; exact h_)⟩ (fun hHeld => ?_)
     generalize w15.drew = w16 at aj aa HK HB ak hHeld ⊢
     refine zu 1 (some 20) #[ff, tt, ff, ff, ff, ff] (by kernel_rfl) ?_
     refine zu 2 (some 21) #[ff, tt, tt, ff, ff, ff] (by kernel_rfl) ?_
     refine zt 0 (some 19) #[tt, tt, tt, ff, ff, ff] (by kernel_rfl) hHeld ?_
     refine zt 3 (some 22) #[tt, tt, tt, tt, ff, ff] (by kernel_rfl) hHeld ?_
     refine one_ (i := 4) (N := some 23) #[tt, tt, tt, tt, tt, ff] rfl rfl (by kernel_rfl) (by decide) (fun K hK => ?_)
     refine goes_ Try.func79 (by kernel_rfl) rfl #[.agg #[.slice am ag.length an, .int .i64 a0_1, .slice ao ah.length ap, .slice aA ab.length aq], .int .i64 (rd l1 0)] (by rfl) rfl rfl zg ?_
     with_reducible refine (impl_wantOf.calls _ _ ag a0_1 _ _ ah _ _ ab (rd l1 0) ad _ ?side1 ?side2 ?side3 ?side4 ?side5 ?side6 A9.out).mono ?_
     (case side1 => exact Kd.C_kept_now aQ.out (zy10 HK))
     (case side2 => exact aR.out)
     (case side3 => exact Kd.C_kept_now aS.out (zy10 HK))
     (case side4 => exact aT.out)
     (case side5 => exact Kd.C_kept_now aC.out (zy10 HK))
     (case side6 => exact aU.out)
     rintro e w17 ⟨rfl, hb⟩
     refine ⟨_, rfl, ?_⟩
     have ar := zK (Kd.R_below (zR aj) hb)
     have au := zK (blk_below (g := ae) (o := .cells #[.slice am ag.length an, .int .i64 a0_1, .slice ao ah.length ap, .slice aA ab.length aq] 28 (0, 0)) (zk aa) hb)
     have av := zK (Kept.below (S := (fun k_ => P2_ k_)) (zy10 HK) hb)
     have aw := zK (below_step (zb HB) hb)
     clear aj aa HK HB; have aj := ar; have aa := au; have HK := av; have HB := aw; clear ar au av aw; (try clear hb); (try clear hb2); (try clear hk); (try clear hi)
     refine hK.out _ _ ⟨(blk_cell aa.out 0).trans rfl, (blk_cell aa.out 1).trans rfl, (blk_cell aa.out 2).trans rfl, (blk_cell aa.out 3).trans rfl, (by have h_ := Kd.foot_int (ba.out _ (by repeat (first | exact HK.out | apply Kept.alloc | apply Kept.drewN | apply Kept.drew))) (0 : Int) (of_eq_true aD) (of_eq_true aE); rw [show ((0 : Int)).toNat = 0 from rfl, Addr.add_zero'] at h_; exact h_)⟩ (fun hHeld => ?_)
     clear hK K
     refine norm_ (a' := ?_) ?_ ?_
     rotate_left
     ·show Act.put _ (some 23) _ = _
      simp only [Act.put, zp, zq, zr, i64_w, i32_w]
      rfl
     refine zu 5 (some 8) #[tt, tt, tt, tt, tt, tt] (by kernel_rfl) ?_
     refine done_ (by kernel_rfl) ?_
     try go_wp2
     go_ret
     exact ⟨ze, by (with_reducible repeat (first | apply Kd.R_alloc | apply Kd.R_drewN | apply Kd.R_drew)); exact aj.out, zb HB, zy10 HK⟩
    ·rw [if_neg c10] at H
     have bI : decide (ad < 0) = false := decide_eq_false c10
     clear c10
     by_cases c18 : 0 ≤ ad
     ·rw [if_pos c18] at H
      have ce : decide (0 ≤ ad) = true := decide_eq_true c18
      clear c18
      by_cases c19 : ad < (ab.length : Int)
      ·rw [if_pos c19] at H
       have cf : decide (ad < (ab.length : Int)) = true := decide_eq_true c19
       clear c19; have H' := zK H; clear H
       go_enter Try.func60, Try.ntmps60
       try go_wp2_with (first | ((with_reducible refine gate_dst (N := 3) rfl ?_); refine zX 3 #[.slice am ag.length an, .int .i64 a0_1, .slice ao ah.length ap, .slice aA ab.length aq] 28 ?_; intro ae hg w20 hbox hb; have ar := zK (Kd.R_below (zR aj) hb); have au := zK (Kept.below (S := (fun k_ => P2_ k_)) (zy10 HK) hb); have av := zK (below_step (zb HB) hb); have aw := zK (hbox); have bG := zK ((by rw [hg]; exact (by first | exact HK.out.1 | exact (show Kept w _ (fun k_ => P2_ k_) from zy10 HK).1) : w.heap.size ≤ ae)); have bH := zK ((by rw [hg]; exact (below_size (zb HB)) : w0.heap.size ≤ ae)); clear aj; clear HK; clear HB; have aj := ar; have HK := au; have HB := av; have aa := aw; have af := bG; have ax := bH; clear ar au av aw bG bH; clear hb hbox hg))
       have ar := zK (Kd.R_drew aj.out)
       have au := zK (zD aa.out)
       have av := zK (Kept.drew HK.out)
       have aw := zK (zE HB.out)
       clear aj aa HK HB; have aj := ar; have aa := au; have HK := av; have HB := aw; clear ar au av aw
       have q22 : (1 : Int) ≤ ((l1.length : Int) : Int) := zd
       obtain ⟨i022, bM, _, bN, _⟩ := info_parts info3
       have aL : l1.length ≤ c1 := b6.out
       have cg : Kd.C (Kd.int .i64) _ A1 l1.length l1 := (Kd.C_kept_now ba.out HK.out)
       have bh := cut_from (P := Try.prog) 24 3 .i64 Try.underlying24 bM 1 bN A1 l1.length c1 1 (by omega) q22
       have bi := Kd.C_drop (m := (1 : Int).toNat) (c := c1) cg (by omega) aL
       obtain ⟨A22, hA22⟩ : ∃ a_, a_ = (if c1 = (1 : Int).toNat then A1 else (A1 : Option Addr).map (·.add ((1 : Int).toNat * 1))) := ⟨_, rfl⟩
       obtain ⟨c22, hc22⟩ : ∃ c_, c_ = c1 - (1 : Int).toNat := ⟨_, rfl⟩
       have bo : ay.length = l1.length - (1 : Int).toNat := (by rw [Ny346.out, List.length_drop] <;> omega)
       rw [show (l1).drop (1 : Int).toNat = ay from Ny346.out.symm] at bi
       replace bi : Kd.C (Kd.int .i64) _ A22 ay.length ay := (by rw [hA22]; exact bi)
       rw [← bo, ← hA22, ← hc22] at bh
       have bf := zK bi
       have bg := zK (show ay.length ≤ c22 from by rw [bo, hc22]; exact Nat.sub_le_sub_right aL _)
       clear bi cg aL bM bN hc22; have KY22 := zK bo; have KA22 := zK hA22; clear bo hA22
       have KL22 := zK (show 1 ≤ l1.length from by omega)
       replace q22 := eq_true q22
       obtain ⟨bp, aM, ch⟩ := Kd.R_slice aj.out
       (first | subst ch | (injection ch with f1_ f2_ f3_; have f4_ := f1_.symm; have f5_ := f3_.symm; clear f1_ f2_ f3_; subst f4_; subst f5_))
       refine start_ (n := 6) (S := fun w' => w'.cell? ⟨ae, 0, none⟩ = some (.slice am ag.length an) ∧ w'.cell? ⟨ae, 1, none⟩ = some (.int .i64 a0_1) ∧ w'.cell? ⟨ae, 2, none⟩ = some (.slice ao ah.length ap) ∧ w'.cell? ⟨ae, 3, none⟩ = some (.slice aA ab.length aq)) (ds := []) #[ff, ff, ff, ff, ff, ff] (by kernel_rfl) rfl rfl ⟨(blk_cell aa.out 0).trans rfl, (blk_cell aa.out 1).trans rfl, (blk_cell aa.out 2).trans rfl, (blk_cell aa.out 3).trans rfl⟩ (fun hHeld => ?_)
       generalize w20.drew = w21 at aj aa HK HB bf hHeld ⊢
       refine zu 1 (some 15) #[ff, tt, ff, ff, ff, ff] (by kernel_rfl) ?_
       refine zu 2 (some 16) #[ff, tt, tt, ff, ff, ff] (by kernel_rfl) ?_
       refine zu 3 (some 17) #[ff, tt, tt, tt, ff, ff] (by kernel_rfl) ?_
       refine zt 0 (some 14) #[tt, tt, tt, tt, ff, ff] (by kernel_rfl) hHeld ?_
       refine one_ (i := 4) (N := some 18) #[tt, tt, tt, tt, tt, ff] rfl rfl (by kernel_rfl) (by decide) (fun K hK => ?_)
       refine goes_ Try.func60 (by kernel_rfl) rfl #[.agg #[.slice am ag.length an, .int .i64 a0_1, .slice ao ah.length ap, .slice aA ab.length aq], .slice A22 ay.length c22, .slice bp l2.length aM] (by rfl) rfl rfl zg ?_
       with_reducible refine (ih k (by omega) _ _ ag a0_1 _ _ ah _ _ ab _ _ ay (fun k_ => some k_ = (.slice bp l2.length aM : Value).ownBlock) (.slice bp l2.length aM) l2 a1 a2 w0 _ ?side1 ?side2 ?side3 ?side4 ?side5 ?side6 ?side7 ?side8 ?side9 ?side10 A7.out).mono ?_
       (case side1 => exact zb HB)
       (case side2 => exact Kd.C_kept_call aQ.out (zy10 HK) (fun k_ hs_ => (fun e_ => (aj.out.1 k_ e_.symm)) hs_))
       (case side3 => exact aR.out)
       (case side4 => exact Kd.C_kept_call aS.out (zy10 HK) (fun k_ hs_ => (fun e_ => (aj.out.1 k_ e_.symm)) hs_))
       (case side5 => exact aT.out)
       (case side6 => exact Kd.C_kept_call aC.out (zy10 HK) (fun k_ hs_ => (fun e_ => (aj.out.1 k_ e_.symm)) hs_))
       (case side7 => exact aU.out)
       (case side8 => exact fun W_ hk_ => (show Kd.C (Kd.int .i64) W_ A22 ay.length ay from by rw [Ny346.out, KA22.out]; exact Kd.C_drop (m := 1) (c := c1) ((Kd.C_kept_call ba.out (zy10 HK) (fun k_ hs_ => (fun e_ => (aj.out.1 k_ e_.symm)) hs_)) W_ hk_) KL22.out b6.out))
       (case side9 => exact bg.out)
       (case side10 => exact Kd.R_tight rfl aj.out)
       rintro e w24 ⟨rfl, bL, hb, hkp⟩
       refine ⟨_, rfl, ?_⟩
       have ar := zK (Kd.R_reok rfl bL (fun k_ e_ => aj.out.1 k_ e_))
       have au := zK (blk_kept (zk aa) hkp (fun hs_ => (fun e_ => (Kd.R_ne aj.out aa.out (by decide)) e_) hs_))
       have av := zK (Kept.then_ (S := (fun k_ => P2_ k_)) (zy10 HK) hkp (fun k_ hs_ => (fun e_ => (aj.out.1 k_ e_.symm)) hs_))
       have aw := zK (hb)
       clear aj aa HK HB; have aj := ar; have aa := au; have HK := av; have HB := aw; clear ar au av aw; (try clear hb); (try clear hkp); (try clear bL)
       refine hK.out _ _ ⟨(blk_cell aa.out 0).trans rfl, (blk_cell aa.out 1).trans rfl, (blk_cell aa.out 2).trans rfl, (blk_cell aa.out 3).trans rfl⟩ (fun hHeld => ?_)
       clear hK K
       refine norm_ (a' := ?_) ?_ ?_
       rotate_left
       ·show Act.put _ (some 18) _ = _
        simp only [Act.put, zp, zq, zr, i64_w, i32_w]
        rfl
       refine zu 5 (some 7) #[tt, tt, tt, tt, tt, tt] (by kernel_rfl) ?_
       refine done_ (by kernel_rfl) ?_
       try go_wp2
       have ar := zK (Kd.R_drew aj.out)
       have au := zK (zD aa.out)
       have av := zK (Kept.drew HK.out)
       have aw := zK (zE HB.out)
       clear aj aa HK HB; have aj := ar; have aa := au; have HK := av; have HB := aw; clear ar au av aw
       have aD : 0 ≤ (0 : Int) := (by omega)
       have aE : 0 < (l1.length : Int) := zd
       obtain ⟨aG, bU, ak⟩ := Kd.at_int (Kd.C_kept_now ba.out HK.out) 0 aD aE
       have az := ak; (try rw [show ((0 : Int)).toNat = 0 from rfl] at az); (try rw [show 0 * 1 = 0 from rfl] at az); (try rw [Addr.add_zero'] at az)
       cases bU
       have cd : (0 < l1.length) = True := eq_true (by omega)
       (try rw [show ((0 : Int)).toNat = 0 from rfl] at ak); (try rw [Addr.add_zero'] at ak); replace aD := eq_true aD; replace aE := eq_true aE
       refine start_ (n := 6) (S := fun w' => w'.cell? ⟨ae, 0, none⟩ = some (.slice am ag.length an) ∧ w'.cell? ⟨ae, 1, none⟩ = some (.int .i64 a0_1) ∧ w'.cell? ⟨ae, 2, none⟩ = some (.slice ao ah.length ap) ∧ w'.cell? ⟨ae, 3, none⟩ = some (.slice aA ab.length aq) ∧ w'.cell? aG = some (.int .i64 (rd l1 0))) (ds := []) #[ff, ff, ff, ff, ff, ff] (by kernel_rfl) rfl rfl ⟨(blk_cell aa.out 0).trans rfl, (blk_cell aa.out 1).trans rfl, (blk_cell aa.out 2).trans rfl, (blk_cell aa.out 3).trans rfl, (by have h_ := Kd.foot_int (ba.out _ (by repeat (first | exact HK.out | apply Kept.alloc | apply Kept.drewN | apply Kept.drew))) (0 : Int) (of_eq_true aD) (of_eq_true aE); rw [show ((0 : Int)).toNat = 0 from rfl, Addr.add_zero'] at h_; exact h_)⟩ (fun hHeld => ?_)
       generalize w24.drew = w25 at aj aa HK HB ak hHeld ⊢
       refine zu 1 (some 20) #[ff, tt, ff, ff, ff, ff] (by kernel_rfl) ?_
       refine zu 2 (some 21) #[ff, tt, tt, ff, ff, ff] (by kernel_rfl) ?_
       refine zt 0 (some 19) #[tt, tt, tt, ff, ff, ff] (by kernel_rfl) hHeld ?_
       refine zt 3 (some 22) #[tt, tt, tt, tt, ff, ff] (by kernel_rfl) hHeld ?_
       refine one_ (i := 4) (N := some 23) #[tt, tt, tt, tt, tt, ff] rfl rfl (by kernel_rfl) (by decide) (fun K hK => ?_)
       refine goes_ Try.func79 (by kernel_rfl) rfl #[.agg #[.slice am ag.length an, .int .i64 a0_1, .slice ao ah.length ap, .slice aA ab.length aq], .int .i64 (rd l1 0)] (by rfl) rfl rfl zg ?_
       with_reducible refine (impl_wantOf.calls _ _ ag a0_1 _ _ ah _ _ ab (rd l1 0) ad _ ?side1 ?side2 ?side3 ?side4 ?side5 ?side6 A9.out).mono ?_
       (case side1 => exact Kd.C_kept_now aQ.out (zy10 HK))
       (case side2 => exact aR.out)
       (case side3 => exact Kd.C_kept_now aS.out (zy10 HK))
       (case side4 => exact aT.out)
       (case side5 => exact Kd.C_kept_now aC.out (zy10 HK))
       (case side6 => exact aU.out)
       rintro e w26 ⟨rfl, hb⟩
       refine ⟨_, rfl, ?_⟩
       have ar := zK (Kd.R_below (zR aj) hb)
       have au := zK (blk_below (g := ae) (o := .cells #[.slice am ag.length an, .int .i64 a0_1, .slice ao ah.length ap, .slice aA ab.length aq] 28 (0, 0)) (zk aa) hb)
       have av := zK (Kept.below (S := (fun k_ => P2_ k_)) (zy10 HK) hb)
       have aw := zK (below_step (zb HB) hb)
       clear aj aa HK HB; have aj := ar; have aa := au; have HK := av; have HB := aw; clear ar au av aw; (try clear hb); (try clear hb2); (try clear hk); (try clear hi)
       refine hK.out _ _ ⟨(blk_cell aa.out 0).trans rfl, (blk_cell aa.out 1).trans rfl, (blk_cell aa.out 2).trans rfl, (blk_cell aa.out 3).trans rfl, (by have h_ := Kd.foot_int (ba.out _ (by repeat (first | exact HK.out | apply Kept.alloc | apply Kept.drewN | apply Kept.drew))) (0 : Int) (of_eq_true aD) (of_eq_true aE); rw [show ((0 : Int)).toNat = 0 from rfl, Addr.add_zero'] at h_; exact h_)⟩ (fun hHeld => ?_)
       clear hK K
       refine norm_ (a' := ?_) ?_ ?_
       rotate_left
       ·show Act.put _ (some 23) _ = _
        simp only [Act.put, zp, zq, zr, i64_w, i32_w]
        rfl
       refine zu 5 (some 8) #[tt, tt, tt, tt, tt, tt] (by kernel_rfl) ?_
       refine done_ (by kernel_rfl) ?_
       have bq : w26.cell? ⟨ae, 0, none⟩ = some (.slice am ag.length an) := (blk_cell aa.out 0).trans rfl
       have br : w26.cell? ⟨ae, 1, none⟩ = some (.int .i64 a0_1) := (blk_cell aa.out 1).trans rfl
       have bs : w26.cell? ⟨ae, 2, none⟩ = some (.slice ao ah.length ap) := (blk_cell aa.out 2).trans rfl
       have bu : w26.cell? ⟨ae, 3, none⟩ = some (.slice aA ab.length aq) := (blk_cell aa.out 3).trans rfl
       have bv := blk_frozen aa.out 0; have bw := blk_frozen aa.out 1; have bx := blk_frozen aa.out 2; have bz := blk_frozen aa.out 3
       have bj : 0 ≤ (ad : Int) := zd
       have bk : ad < (ab.length : Int) := zd
       obtain ⟨aW, bV, c354_1, e354, bA, a7, aN, a8⟩ := at_T74 (Kd.C_kept_now aC.out HK.out) ad bj bk
       cases e354
       have HRk354_1 := zK (show ∀ W_, Kept w W_ (fun k_ => P2_ k_) → Kd.C (Kd.int .i64) W_ bV ((rd_T74 ab ad).f1).length ((rd_T74 ab ad).f1) from fun W_ hk_ => by obtain ⟨_, _, _, ek_, hxk_0, hxk_1, _, hik_1⟩ := at_T74 (aC.out W_ hk_) ad bj bk; cases ek_; have hn_ := Kd.foot_neS aC.out (by omega) (by decide); have hl_ := Kd.foot_ltS aC.out (by omega) (by decide); have e1_ := HK.out.2 _ hl_ hn_; have e2_ := hk_.2 _ hl_ hn_; have he_ := a7.symm.trans (Eq.trans (by simp only [World.cell?, add_block, e1_, e2_]) hxk_1); injection he_ with he_; injection he_ with hA_ _ _; rw [hA_]; exact hik_1)
       have ci := zK aN; have HR354_1 := zK a8; have HC354_1 := zK aN; clear a8 aN; replace bj := eq_true bj; replace bk := eq_true bk
       try go_wp2
       go_loopg [7, 34] k (fun kq v7 v34 w' => ∃ (al : List Int) (aH : Int) (ac : Int), v7 = .int .i64 aH ∧ v34 = .int .i64 ac ∧ Aside0 (impl_most.l0 kq l1 al aH ((rd_T74 ab ad).f1) (((rd_T74 ab ad).f1).length : Int) ac ag a0_1 ah ab = some (r1, r2)) ∧ Aside0 (kq ≤ k) ∧ Aside0 (Kd.R (Kd.int .i64) 3 w' w0.heap.size (fun k_ => (P2_ k_ ∨ w.heap.size ≤ k_)) (.slice bp l2.length aM) al) ∧ Aside0 (w'.heap[ae]? = some (.cells #[(.slice am ag.length an), .int .i64 a0_1, (.slice ao ah.length ap), (.slice (some aW) ab.length aq)] 28 (0, 0))) ∧ Aside0 (Kept w w' (fun k_ => P2_ k_)) ∧ Aside0 (Below w0.heap.size w0 w'))
       case atStart => exact ⟨(a2), (a1), (0), zf, zf, H', ⟨Nat.le_refl _⟩, ⟨zR aj⟩, ⟨zk aa⟩, ⟨zy10 HK⟩, ⟨zb HB⟩⟩
       case round =>
        clear H' c4 b9 ca c4b2 c6b0 c6b1 c8b0 c8b1 bI ce cf q22 bq br bs bu bv bw bx bz ak bA a7 aD bj aE bk
        obtain ⟨al, aH, ac, rfl, rfl, HA, cj, ai, aa, HK, HB⟩ := hrel
        have aB := (Kd.R_reads' ai.out).1
        rw [aB] at ai
        (try simp only [aB]); (try simp only [aB] at aa)
        cases gk with
        | zero => exact absurd HA.out (by simp [impl_most.l0])
        | succ k1 =>
         have H := HA.out; clear HA
         simp only [impl_most.l0] at H
         by_cases b7 : ac < (((rd_T74 ab ad).f1).length : Int)
         ·rw [if_pos b7] at H
          have ck : decide (ac < (((rd_T74 ab ad).f1).length : Int)) = true := decide_eq_true b7
          clear b7
          by_cases c29 : 0 ≤ ac
          ·rw [if_pos c29] at H
           have c29b0 : decide (0 ≤ ac) = true := decide_eq_true c29
           clear c29
           by_cases c30 : ac < (((rd_T74 ab ad).f1).length : Int)
           ·rw [if_pos c30] at H
            have c30b0 : decide (ac < (((rd_T74 ab ad).f1).length : Int)) = true := decide_eq_true c30
            clear c30
            by_cases c31 : 0 ≤ (rd ((rd_T74 ab ad).f1) ac)
            ·rw [if_pos c31] at H
             have c31b0 : decide (0 ≤ (rd ((rd_T74 ab ad).f1) ac)) = true := decide_eq_true c31
             clear c31
             by_cases c32 : (rd ((rd_T74 ab ad).f1) ac) < (al.length : Int)
             ·rw [if_pos c32] at H
              have c32b0 : decide ((rd ((rd_T74 ab ad).f1) ac) < (al.length : Int)) = true := decide_eq_true c32
              clear c32
              by_cases b8 : (rd al (rd ((rd_T74 ab ad).f1) ac)) > 0
              ·rw [if_pos b8] at H
               have cl : decide (0 < (rd al (rd ((rd_T74 ab ad).f1) ac))) = true := decide_eq_true b8
               clear b8
               obtain ⟨bB, aX⟩ : ∃ y_ : List Int, y_ = (al.set ((rd ((rd_T74 ab ad).f1) ac) : Int).toNat (wrap64 ((rd al (rd ((rd_T74 ab ad).f1) ac)) - 1))) := ⟨_, rfl⟩
               replace H : (if 1 ≤ (l1.length : Int) then ((impl_most.f k1 ag a0_1 ah ab (l1.drop 1) bB).bind fun bt363 => (impl_most.l0 k1 l1 (bt363.2.set ((rd ((rd_T74 ab ad).f1) ac) : Int).toNat (wrap64 ((rd bt363.2 (rd ((rd_T74 ab ad).f1) ac)) + 1))) (mx aH (wrap64 (1 + bt363.1))) ((rd_T74 ab ad).f1) (((rd_T74 ab ad).f1).length : Int) (wrap64 (ac + 1)) ag a0_1 ah ab)) else (none)) = some (r1, r2) := by first | (rw [aX]; with_reducible exact H) | (have H2_ := (Option.bind_some _ _).symm.trans H; rw [aX]; with_reducible exact H2_) | (have H2_ := (Option.bind_some _ _).symm.trans H; with_reducible exact H2_) | with_reducible exact H | (rw [aX]; exact H) | exact H
               have Ny358 := zK aX; clear aX
               by_cases cm : 1 ≤ (l1.length : Int)
               ·rw [if_pos cm] at H
                have c35b0 := eq_true cm
                have c35b1 : decide (1 ≤ (l1.length : Int)) = true := decide_eq_true cm
                clear cm
                obtain ⟨aI, aY⟩ : ∃ y_ : List Int, y_ = (l1.drop 1) := ⟨_, rfl⟩
                replace H : ((impl_most.f k1 ag a0_1 ah ab aI bB).bind fun bt363 => (impl_most.l0 k1 l1 (bt363.2.set ((rd ((rd_T74 ab ad).f1) ac) : Int).toNat (wrap64 ((rd bt363.2 (rd ((rd_T74 ab ad).f1) ac)) + 1))) (mx aH (wrap64 (1 + bt363.1))) ((rd_T74 ab ad).f1) (((rd_T74 ab ad).f1).length : Int) (wrap64 (ac + 1)) ag a0_1 ah ab)) = some (r1, r2) := by first | (rw [aY]; with_reducible exact H) | (have H2_ := (Option.bind_some _ _).symm.trans H; rw [aY]; with_reducible exact H2_) | (have H2_ := (Option.bind_some _ _).symm.trans H; with_reducible exact H2_) | with_reducible exact H | (rw [aY]; exact H) | exact H
                have Ny359 := zK aY; clear aY; replace H := Option.bind_eq_some_iff.mp H
                obtain ⟨⟨bl, aJ⟩, cn, H⟩ := H
                replace H : (impl_most.l0 k1 l1 (aJ.set ((rd ((rd_T74 ab ad).f1) ac) : Int).toNat (wrap64 ((rd aJ (rd ((rd_T74 ab ad).f1) ac)) + 1))) (mx aH (wrap64 (1 + bl))) ((rd_T74 ab ad).f1) (((rd_T74 ab ad).f1).length : Int) (wrap64 (ac + 1)) ag a0_1 ah ab) = some (r1, r2) := H
                have A36 := zK cn; clear cn
                obtain ⟨bC, aZ⟩ : ∃ j_ : Int, (mx aH (wrap64 (1 + bl))) = j_ := ⟨_, rfl⟩
                replace H : (impl_most.l0 k1 l1 (aJ.set ((rd ((rd_T74 ab ad).f1) ac) : Int).toNat (wrap64 ((rd aJ (rd ((rd_T74 ab ad).f1) ac)) + 1))) bC ((rd_T74 ab ad).f1) (((rd_T74 ab ad).f1).length : Int) (wrap64 (ac + 1)) ag a0_1 ah ab) = some (r1, r2) := by first | (rw [aZ] at H; exact H) | (simp only [aZ] at H ⊢; exact H)
                (try rw [aZ] at A36)
                have hji37_ : (if aH < (wrap64 (1 + bl)) then (wrap64 (1 + bl)) else aH) = bC := aZ
                obtain ⟨bW, a0⟩ : ∃ y_ : List Int, y_ = (aJ.set ((rd ((rd_T74 ab ad).f1) ac) : Int).toNat (wrap64 ((rd aJ (rd ((rd_T74 ab ad).f1) ac)) + 1))) := ⟨_, rfl⟩
                replace H : (impl_most.l0 k1 l1 bW bC ((rd_T74 ab ad).f1) (((rd_T74 ab ad).f1).length : Int) (wrap64 (ac + 1)) ag a0_1 ah ab) = some (r1, r2) := by first | (rw [a0]; with_reducible exact H) | (have H2_ := (Option.bind_some _ _).symm.trans H; rw [a0]; with_reducible exact H2_) | (have H2_ := (Option.bind_some _ _).symm.trans H; with_reducible exact H2_) | with_reducible exact H | (rw [a0]; exact H) | exact H
                have Ny366 := zK a0; clear a0; have H' := zK H; clear H
                have a3 : 0 ≤ (ac : Int) := zd
                have a4 : ac < (((rd_T74 ab ad).f1).length : Int) := zd
                obtain ⟨co, bX, bD⟩ := Kd.at_int (Kd.C_kept_now HRk354_1.out HK.out) ac a3 a4
                cases bX
                replace a3 := eq_true a3; replace a4 := eq_true a4
                have a5 : 0 ≤ ((rd ((rd_T74 ab ad).f1) ac) : Int) := zd
                have a6 : (rd ((rd_T74 ab ad).f1) ac) < (al.length : Int) := zd
                obtain ⟨bO, bY, a9⟩ := Kd.at_int (Kd.R_reads' ai.out).2.2 (rd ((rd_T74 ab ad).f1) ac) a5 a6
                cases bY
                replace a5 := eq_true a5; replace a6 := eq_true a6
                have bZ : 0 ≤ ((rd ((rd_T74 ab ad).f1) ac) : Int) := zd
                have b0 : (rd ((rd_T74 ab ad).f1) ac) < (al.length : Int) := zd
                obtain ⟨cp, e357, bE⟩ := Kd.at_int (Kd.R_reads' ai.out).2.2 (rd ((rd_T74 ab ad).f1) ac) bZ b0
                obtain rfl : bO = cp := (by injection e357)
                replace bZ := eq_true bZ; replace b0 := eq_true b0
                have p34 : 0 ≤ ((rd ((rd_T74 ab ad).f1) ac) : Int) := zd
                have q34 : ((rd ((rd_T74 ab ad).f1) ac) : Int) < ((al.length : Int) : Int) := zd
                obtain ⟨aF, co34, cq, cr, gl34, cl34, ct⟩ := Kd.R_form ai.out (by omega)
                (first | cases cq | (injection cq with ea_ en_ ec_; (first | subst ea_ | (injection ea_ with ea_; subst ea_)); subst ec_; clear en_))
                have cu := zK cr; have GG34 := zK ct; clear cr gl34 ct
                have HMgo34 := zK (show (P2_ aF ∨ w.heap.size ≤ aF) from (ai.out.1 _ rfl))
                (first | simp only [add_plain] at a9 | skip)
                (first | simp only [add_plain] at bE | skip)
                obtain ⟨hx34_0, hf34_0⟩ := Kd.R_celln 0 ai.out ((rd ((rd_T74 ab ad).f1) ac) : Int) p34 q34
                replace p34 := eq_true p34; replace q34 := eq_true q34
                have b1 := Kd.R_putg ai.out ((rd ((rd_T74 ab ad).f1) ac) : Int) (wrap64 ((rd al (rd ((rd_T74 ab ad).f1) ac)) - 1))
                try go_wp2_with (first | ((with_reducible refine gate_store (t := 3) (p := 48) rfl ?_); refine store_event (t := 3) (p := 48) (v := ?vo_w40) (w1 := (wr.setCell ⟨aF, ((rd ((rd_T74 ab ad).f1) ac) : Int).toNat, none⟩ (.int .i64 (wrap64 ((rd al (rd ((rd_T74 ab ad).f1) ac)) - 1))))) ?hg ?ho ?hn ?hr ?_; (case ho => rfl); (case hg => rfl); (case hn => rfl); (case hr => first | (go_simp; done) | (go_simp; rfl)); intro w40 hw; have hg : wr.grownBy w40 (some aF) := (by rw [hw]; exact b1.2); have hp_ : Kd.R (Kd.int .i64) 3 w40 w0.heap.size (fun k_ => (P2_ k_ ∨ w.heap.size ≤ k_)) (.slice (some ⟨aF, 0, none⟩) al.length aM) bB := (by rw [hw, Ny358.out]; exact b1.1); clear b1; have ar := zK (hp_); have au := zK (blk_grown (g := ae) (o := .cells #[.slice am ag.length an, .int .i64 a0_1, .slice ao ah.length ap, .slice (some aW) ab.length aq] 28 (0, 0)) (zk aa) hg (Kd.R_ne ai.out aa.out (by decide))); have av := zK ((by rw [hw]; exact zS (HB.out) cu.out : Below w0.heap.size w0 w40)); have aw := zK (Kept.of_grown (S := (fun k_ => P2_ k_)) hg (zy10 HK) (fun k_ e_ => (ai.out.1 k_ e_))); clear ai; clear aa; clear HB; clear HK; have ai := ar; have aa := au; have HB := av; have HK := aw; clear ar au av aw; clear hg hw hp_))
                have ar := zK (Kd.R_drew ai.out)
                have au := zK (zD aa.out)
                have av := zK (Kept.drew HK.out)
                have aw := zK (zE HB.out)
                clear ai aa HK HB; have ai := ar; have aa := au; have HK := av; have HB := aw; clear ar au av aw
                have q42 : (1 : Int) ≤ ((l1.length : Int) : Int) := zd
                obtain ⟨i042, bP, _, bQ, _⟩ := info_parts info3
                have aO : l1.length ≤ c1 := b6.out
                have cv : Kd.C (Kd.int .i64) _ (some aG) l1.length l1 := (Kd.C_kept_now ba.out HK.out)
                clear bh
                have b2 := cut_from (P := Try.prog) 24 3 .i64 Try.underlying24 bP 1 bQ (some aG) l1.length c1 1 (by omega) q42
                have bm := Kd.C_drop (m := (1 : Int).toNat) (c := c1) cv (by omega) aO
                obtain ⟨A42, hA42⟩ : ∃ a_, a_ = (if c1 = (1 : Int).toNat then (some aG) else ((some aG) : Option Addr).map (·.add ((1 : Int).toNat * 1))) := ⟨_, rfl⟩
                obtain ⟨c42, hc42⟩ : ∃ c_, c_ = c1 - (1 : Int).toNat := ⟨_, rfl⟩
                have bF : aI.length = l1.length - (1 : Int).toNat := (by rw [Ny359.out, List.length_drop] <;> omega)
                rw [show (l1).drop (1 : Int).toNat = aI from Ny359.out.symm] at bm
                replace bm : Kd.C (Kd.int .i64) _ A42 aI.length aI := (by rw [hA42]; exact bm)
                rw [← bF, ← hA42, ← hc42] at b2
                have cw := zK bm
                have cx := zK (show aI.length ≤ c42 from by rw [bF, hc42]; exact Nat.sub_le_sub_right aO _)
                clear bm cv aO bP bQ hc42; have KY42 := zK bF; have KA42 := zK hA42; clear bF hA42
                have KL42 := zK (show 1 ≤ l1.length from by omega)
                replace q42 := eq_true q42
                refine start_ (n := 9) (S := fun w' => w'.cell? ⟨ae, 0, none⟩ = some (.slice am ag.length an) ∧ w'.cell? ⟨ae, 1, none⟩ = some (.int .i64 a0_1) ∧ w'.cell? ⟨ae, 2, none⟩ = some (.slice ao ah.length ap) ∧ w'.cell? ⟨ae, 3, none⟩ = some (.slice (some aW) ab.length aq)) (ds := []) #[ff, ff, ff, ff, ff, ff, ff, ff, ff] (by kernel_rfl) rfl rfl ⟨(blk_cell aa.out 0).trans rfl, (blk_cell aa.out 1).trans rfl, (blk_cell aa.out 2).trans rfl, (blk_cell aa.out 3).trans rfl⟩ (fun hHeld => ?_); refine with_tabW impl_most.tab12 impl_most.bits12 (fun HT_ HW_ => ?_)
                generalize w40.drew = w41 at ai aa HK HB cw hHeld ⊢
                refine zu 0 (some 49) #[tt, ff, ff, ff, ff, ff, ff, ff, ff] (any_of HT_.out (by kernel_rfl)) ?_
                refine zu 2 (some 51) #[tt, ff, tt, ff, ff, ff, ff, ff, ff] (any_of HT_.out (by kernel_rfl)) ?_
                refine zu 3 (some 52) #[tt, ff, tt, tt, ff, ff, ff, ff, ff] (any_of HT_.out (by kernel_rfl)) ?_
                refine zu 4 (some 53) #[tt, ff, tt, tt, tt, ff, ff, ff, ff] (any_of HT_.out (by kernel_rfl)) ?_
                refine zt 1 (some 50) #[tt, tt, tt, tt, tt, ff, ff, ff, ff] (take_ofW HT_.out HW_.out (by kernel_rfl)) hHeld ?_
                refine one_ (i := 5) (N := some 54) #[tt, tt, tt, tt, tt, tt, ff, ff, ff] rfl rfl (one_of HT_.out (by kernel_rfl)) (by decide) (fun K hK => ?_)
                refine goes_ Try.func60 (by kernel_rfl) rfl #[.agg #[.slice am ag.length an, .int .i64 a0_1, .slice ao ah.length ap, .slice (some aW) ab.length aq], .slice A42 aI.length c42, .slice (some ⟨aF, 0, none⟩) al.length aM] (by rfl) rfl rfl zg ?_
                with_reducible refine (ih k1 (by have := cj.out; omega) _ _ ag a0_1 _ _ ah _ _ ab _ _ aI (fun k_ => some k_ = (.slice (some ⟨aF, 0, none⟩) al.length aM : Value).ownBlock) (.slice (some ⟨aF, 0, none⟩) al.length aM) bB bl aJ w0 _ ?side1 ?side2 ?side3 ?side4 ?side5 ?side6 ?side7 ?side8 ?side9 ?side10 A36.out).mono ?_
                (case side1 => exact zb HB)
                (case side2 => exact Kd.C_kept_call aQ.out (zy10 HK) (fun k_ hs_ => (fun e_ => (ai.out.1 k_ e_.symm)) hs_))
                (case side3 => exact aR.out)
                (case side4 => exact Kd.C_kept_call aS.out (zy10 HK) (fun k_ hs_ => (fun e_ => (ai.out.1 k_ e_.symm)) hs_))
                (case side5 => exact aT.out)
                (case side6 => exact Kd.C_kept_call aC.out (zy10 HK) (fun k_ hs_ => (fun e_ => (ai.out.1 k_ e_.symm)) hs_))
                (case side7 => exact aU.out)
                (case side8 => exact fun W_ hk_ => (show Kd.C (Kd.int .i64) W_ A42 aI.length aI from by rw [Ny359.out, KA42.out]; exact Kd.C_drop (m := 1) (c := c1) ((Kd.C_kept_call ba.out (zy10 HK) (fun k_ hs_ => (fun e_ => (ai.out.1 k_ e_.symm)) hs_)) W_ hk_) KL42.out b6.out))
                (case side9 => exact cx.out)
                (case side10 => exact Kd.R_tight rfl ai.out)
                rintro e w43 ⟨rfl, bL, hb, hkp⟩
                refine ⟨_, rfl, ?_⟩
                have ar := zK (Kd.R_reok rfl bL (fun k_ e_ => ai.out.1 k_ e_))
                have au := zK (blk_kept (zk aa) hkp (fun hs_ => (fun e_ => (Kd.R_ne ai.out aa.out (by decide)) e_) hs_))
                have av := zK (Kept.then_ (S := (fun k_ => P2_ k_)) (zy10 HK) hkp (fun k_ hs_ => (fun e_ => (ai.out.1 k_ e_.symm)) hs_))
                have aw := zK (hb)
                clear ai aa HK HB; have ai := ar; have aa := au; have HK := av; have HB := aw; clear ar au av aw; (try clear hb); (try clear hkp); (try clear bL)
                refine hK.out _ _ ⟨(blk_cell aa.out 0).trans rfl, (blk_cell aa.out 1).trans rfl, (blk_cell aa.out 2).trans rfl, (blk_cell aa.out 3).trans rfl⟩ (fun hHeld => ?_)
                clear hK K
                refine norm_ (a' := ?_) ?_ ?_
                rotate_left
                ·show Act.put _ (some 54) _ = _
                 simp only [Act.put, zp, zq, zr, i64_w, i32_w]
                 rfl
                refine zu 6 (some 55) #[tt, tt, tt, tt, tt, tt, tt, ff, ff] (any_of HT_.out (by kernel_rfl)) ?_
                refine zu 7 (some 56) #[tt, tt, tt, tt, tt, tt, tt, tt, ff] (any_of HT_.out (by kernel_rfl)) ?_
                refine zu 8 (some 7) #[tt, tt, tt, tt, tt, tt, tt, tt, tt] (any_of HT_.out (by kernel_rfl)) ?_
                refine done_ (done_of HT_.out (by kernel_rfl)) ?_
                have b3 : 0 ≤ ((rd ((rd_T74 ab ad).f1) ac) : Int) := zd
                have b4 : (rd ((rd_T74 ab ad).f1) ac) < (aJ.length : Int) := (by have h_ : ((rd ((rd_T74 ab ad).f1) ac) : Int) < ((al.length : Int) : Int) := zd; have e_ := (Kd.R_reads' ai.out).1; omega)
                have ql365 : (((rd ((rd_T74 ab ad).f1) ac) : Int) < ((al.length : Int) : Int)) = True := eq_true (zd)
                obtain ⟨cy, e365, aP⟩ := Kd.at_int (Kd.R_reads' ai.out).2.2 (rd ((rd_T74 ab ad).f1) ac) b3 b4
                obtain rfl : (⟨aF, 0, none⟩ : Addr) = cy := (by injection e365)
                (first | simp only [add_plain] at aP | simp only [add_at] at aP | simp only [Addr.add, Nat.zero_add] at aP | skip)
                replace b3 := eq_true b3; replace b4 := eq_true b4
                have p38 : 0 ≤ ((rd ((rd_T74 ab ad).f1) ac) : Int) := zd
                have q38 : ((rd ((rd_T74 ab ad).f1) ac) : Int) < ((al.length : Int) : Int) := zd
                obtain ⟨hx38_0, hf38_0⟩ := Kd.R_celln 0 ai.out ((rd ((rd_T74 ab ad).f1) ac) : Int) p38 q38
                replace p38 := eq_true p38; replace q38 := eq_true q38
                obtain ⟨hy44_, hz44_⟩ := Kd.R_celln 0 ai.out ((rd ((rd_T74 ab ad).f1) ac) : Int) (zd) (zd)
                have b5 := Kd.R_putg ai.out ((rd ((rd_T74 ab ad).f1) ac) : Int) (wrap64 ((rd aJ (rd ((rd_T74 ab ad).f1) ac)) + 1))
                try go_wp2_with (first | ((with_reducible refine gate_store (t := 3) (p := 62) rfl ?_); refine store_event (t := 3) (p := 62) (v := ?vo_w45) (w1 := (w43.setCell ⟨aF, ((rd ((rd_T74 ab ad).f1) ac) : Int).toNat, none⟩ (.int .i64 (wrap64 ((rd aJ (rd ((rd_T74 ab ad).f1) ac)) + 1))))) ?hg ?ho ?hn ?hr ?_; (case ho => rfl); (case hg => rfl); (case hn => rfl); (case hr => first | (go_simp; done) | (go_simp; rfl)); intro w45 hw; have hg : w43.grownBy w45 (some aF) := (by rw [hw]; exact b5.2); have hp_ : Kd.R (Kd.int .i64) 3 w45 w0.heap.size (fun k_ => (P2_ k_ ∨ w.heap.size ≤ k_)) (.slice (some ⟨aF, 0, none⟩) al.length aM) bW := (by rw [hw, Ny366.out]; exact b5.1); clear b5; have ar := zK (hp_); have au := zK (blk_grown (g := ae) (o := .cells #[.slice am ag.length an, .int .i64 a0_1, .slice ao ah.length ap, .slice (some aW) ab.length aq] 28 (0, 0)) (zk aa) hg (Kd.R_ne ai.out aa.out (by decide))); have av := zK ((by rw [hw]; exact zS (HB.out) cu.out : Below w0.heap.size w0 w45)); have aw := zK (Kept.of_grown (S := (fun k_ => P2_ k_)) hg (zy10 HK) (fun k_ e_ => (ai.out.1 k_ e_))); clear ai; clear aa; clear HB; clear HK; have ai := ar; have aa := au; have HB := av; have HK := aw; clear ar au av aw; clear hg hw hp_))
                (try simp only [← aB])
                go_roundg k1
                case measure => have := cj.out; omega
                case rel => exact ⟨(bW), (bC), (wrap64 (ac + 1)), (by first | rfl | (simp; done) | (simp only [← aZ] <;> (first | rfl | simp)) | (simp [*]; done)), zf, H', ⟨by have := cj.out; omega⟩, ⟨by (try simp only [aB]); (with_reducible repeat (first | apply Kd.R_alloc | apply Kd.R_drewN | apply Kd.R_drew)); exact ai.out⟩, ⟨by (try simp only [aB]); (with_reducible repeat (first | refine zN ?_ _ | refine zD ?_ | refine zA ?_ _)); exact aa.out⟩, ⟨zy10 HK⟩, ⟨zb HB⟩⟩
               ·rw [if_neg cm] at H
                exact absurd H (by simp)
              ·rw [if_neg b8] at H
               have cl : decide (0 < (rd al (rd ((rd_T74 ab ad).f1) ac))) = false := decide_eq_false b8
               clear b8; have H' := zK H; clear H
               have a3 : 0 ≤ (ac : Int) := zd
               have a4 : ac < (((rd_T74 ab ad).f1).length : Int) := zd
               obtain ⟨co, bX, bD⟩ := Kd.at_int (Kd.C_kept_now HRk354_1.out HK.out) ac a3 a4
               cases bX
               replace a3 := eq_true a3; replace a4 := eq_true a4
               have a5 : 0 ≤ ((rd ((rd_T74 ab ad).f1) ac) : Int) := zd
               have a6 : (rd ((rd_T74 ab ad).f1) ac) < (al.length : Int) := zd
               obtain ⟨bO, bY, a9⟩ := Kd.at_int (Kd.R_reads' ai.out).2.2 (rd ((rd_T74 ab ad).f1) ac) a5 a6
               cases bY
               replace a5 := eq_true a5; replace a6 := eq_true a6
               go_wp2
               (try simp only [← aB])
               go_roundg k1
               case measure => have := cj.out; omega
               case rel => exact ⟨(al), (aH), (wrap64 (ac + 1)), zf, zf, H', ⟨by have := cj.out; omega⟩, ⟨by (try simp only [aB]); (with_reducible repeat (first | apply Kd.R_alloc | apply Kd.R_drewN | apply Kd.R_drew)); exact ai.out⟩, ⟨by (try simp only [aB]); (with_reducible repeat (first | refine zN ?_ _ | refine zD ?_ | refine zA ?_ _)); exact aa.out⟩, ⟨zy10 HK⟩, ⟨zb HB⟩⟩
             ·rw [if_neg c32] at H
              exact absurd H (by simp)
            ·rw [if_neg c31] at H
             exact absurd H (by simp)
           ·rw [if_neg c30] at H
            exact absurd H (by simp)
          ·rw [if_neg c29] at H
           exact absurd H (by simp)
         ·rw [if_neg b7] at H
          have ck : decide (ac < (((rd_T74 ab ad).f1).length : Int)) = false := decide_eq_false b7
          clear b7
          simp only [Option.some.injEq, Prod.mk.injEq] at H
          obtain ⟨rfl, rfl⟩ := H
          go_wp2
          go_ret
          exact ⟨ze, (by first | exact (zR ai) | (simp only [aB]; exact (zR ai))), zb HB, zy10 HK⟩
      ·rw [if_neg c19] at H
       exact absurd H (by simp)
     ·rw [if_neg c18] at H
      exact absurd H (by simp)
   ·rw [if_neg c8] at H
    exact absurd H (by simp)
  ·rw [if_neg c6] at H
   exact absurd H (by simp)
def vc_impl_MostSorted_1_del.p (x : Int) : Bool := (impl_MostSorted_1.f x).getD false
theorem vc_impl_MostSorted_1_del.tot (x : Int) : impl_MostSorted_1.f x = some (vc_impl_MostSorted_1_del.p x) := by
 unfold vc_impl_MostSorted_1_del.p
 cases h : impl_MostSorted_1.f x with
 | some b => rfl
 | none => exact absurd h (by simp only [impl_MostSorted_1.f]; (repeat' split) <;> simp_all)
theorem vc_impl_MostSorted_1_del.del (w0 w : World) (v : Value) (l : List Int) (hB : Below w0.heap.size w0 w) (ho : Kd.R (Kd.int .i64) 3 w w0.heap.size (fun _ => True) v l) :
  Calls Try.prog 57 #[v, .func (.func 59) #[] #[]] w fun e w' => ∃ v', e = .returned v' ∧ Kd.R (Kd.int .i64) 3 w' w0.heap.size (fun _ => True) v' (l.filter (fun z_ => !vc_impl_MostSorted_1_del.p z_)) ∧ Below w0.heap.size w0 w' ∧ w.grownBy w' v.ownBlock :=
 delF57 59 #[] (enters_of Try.func59 (by kernel_rfl) rfl) vc_impl_MostSorted_1_del.p w0 w v l (fun W x _ _ => (impl_MostSorted_1.calls x _ W (vc_impl_MostSorted_1_del.tot x)).mono fun e w' h_ => ⟨h_.1, h_.2.below⟩) hB ho
def impl_MostSorted.l0 : Nat → List Int → List Int → List (S69) → Int → Int → List Int → Int → List (S69) → List (S74) → Option (Int)
 | 0, _, _, _, _, _, _, _, _, _ => none
 | k + 1, x3, x4, x18, x19, x20, x368000, x368001, x368002, x368003 => if x20 < x19 then (if 0 ≤ x20 then (if x20 < (x18.length : Int) then (if x4.length < 17592186044416 then (impl_MostSorted.l0 k x3 (x4 ++ [wrap64 (((rd_T69 x18 x20).f1) - (((rd_T69 x18 x20).f2).length : Int))]) x18 x19 (wrap64 (x20 + 1)) x368000 x368001 x368002 x368003) else (none)) else (none)) else (none)) else ((impl_most.f k x368000 x368001 x368002 x368003 x3 x4).bind fun bt380 => (some bt380.1))
def impl_MostSorted.f (k : Nat) (l0_0 : List Int) (a0_1 : Int) (l0_2 : List (S69)) (l0_3 : List (S74)) : Option (Int) := (impl_LoopOk.f k l0_0 a0_1 l0_2 l0_3).bind fun t368 => (if t368 = true then ((slices_Clone_int_int.f l0_0).bind fun t369 => ((some (t369.filter (fun z_ => !vc_impl_MostSorted_1_del.p z_) : List Int)).bind fun y372 => (if (y372.length : Int) > 7 then (some (-1)) else (impl_MostSorted.l0 k y372 ([] : List Int) l0_2 (l0_2.length : Int) 0 l0_0 a0_1 l0_2 l0_3)))) else (some (-1)))
set_option maxHeartbeats 8000000 in
set_option maxRecDepth 100000 in
theorem impl_MostSorted.calls (k : Nat) (ah : Option Addr) (ai : Nat) (ae : List Int) (a0_1 : Int) (ao : Option Addr) (aj : Nat) (ab : List (S69)) (ak : Option Addr) (al : Nat) (af : List (S74)) (r : Int) (w : World) (bv : Kd.C (Kd.int .i64) w ah ae.length ae) (hc0_0 : ae.length ≤ ai) (bw : Kd.C k69 w ao ab.length ab) (hc0_2 : ab.length ≤ aj) (bx : Kd.C k74 w ak af.length af) (hc0_3 : af.length ≤ al) (h : impl_MostSorted.f k ae a0_1 ab af = some r) :
  Calls Try.prog 21 #[.agg #[.slice ah ae.length ai, .int .i64 a0_1, .slice ao ab.length aj, .slice ak af.length al]] w fun e w' => e = .returned (.int .i64 r) ∧ Below w.heap.size w w' := by
 have hu28 := Try.underlying28; have hu69 := Try.underlying69; have aC := zK bv; have aD := zK hc0_0; clear bv hc0_0; have aK := zK bw; have aR := zK hc0_2; clear bw hc0_2; have aT := zK bx; have aU := zK hc0_3; clear bx hc0_3
 have HB := zK (Below.refl w.heap.size w)
 have H : ((impl_LoopOk.f k ae a0_1 ab af).bind fun a1 => (if a1 = true then ((slices_Clone_int_int.f ae).bind fun az => ((some (az.filter (fun z_ => !vc_impl_MostSorted_1_del.p z_) : List Int)).bind fun am => (if (am.length : Int) > 7 then (some (-1)) else (impl_MostSorted.l0 k am ([] : List Int) ab (ab.length : Int) 0 ae a0_1 ab af)))) else (some (-1)))) = some r := h
 clear h; replace H := Option.bind_eq_some_iff.mp H
 obtain ⟨a1, A20, H⟩ := H
 replace H : (if a1 = true then ((slices_Clone_int_int.f ae).bind fun az => ((some (az.filter (fun z_ => !vc_impl_MostSorted_1_del.p z_) : List Int)).bind fun am => (if (am.length : Int) > 7 then (some (-1)) else (impl_MostSorted.l0 k am ([] : List Int) ab (ab.length : Int) 0 ae a0_1 ab af)))) else (some (-1))) = some r := H
 have A2 := zK A20; clear A20
 by_cases c3 : a1 = true
 ·subst c3
  have H1 : ((slices_Clone_int_int.f ae).bind fun az => ((some (az.filter (fun z_ => !vc_impl_MostSorted_1_del.p z_) : List Int)).bind fun am => (if (am.length : Int) > 7 then (some (-1)) else (impl_MostSorted.l0 k am ([] : List Int) ab (ab.length : Int) 0 ae a0_1 ab af)))) = some r := by rw [if_pos rfl] at H; exact H
  clear H; have H := H1; clear H1; replace H := Option.bind_eq_some_iff.mp H
  obtain ⟨az, A40, H⟩ := H
  replace H : ((some (az.filter (fun z_ => !vc_impl_MostSorted_1_del.p z_) : List Int)).bind fun am => (if (am.length : Int) > 7 then (some (-1)) else (impl_MostSorted.l0 k am ([] : List Int) ab (ab.length : Int) 0 ae a0_1 ab af))) = some r := H
  have A4 := zK A40; clear A40
  obtain ⟨am, aM⟩ : ∃ y_ : List Int, y_ = (az.filter (fun z_ => !vc_impl_MostSorted_1_del.p z_)) := ⟨_, rfl⟩
  replace H : (if (am.length : Int) > 7 then (some (-1)) else (impl_MostSorted.l0 k am ([] : List Int) ab (ab.length : Int) 0 ae a0_1 ab af)) = some r := by first | (rw [aM]; with_reducible exact H) | (have H2_ := (Option.bind_some _ _).symm.trans H; rw [aM]; with_reducible exact H2_) | (have H2_ := (Option.bind_some _ _).symm.trans H; with_reducible exact H2_) | with_reducible exact H | (rw [aM]; exact H) | exact H
  have Ny372 := zK aM; clear aM
  by_cases c5 : (am.length : Int) > 7
  ·rw [if_pos c5] at H
   have bD : decide (7 < (am.length : Int)) = true := decide_eq_true c5
   have bE : decide (7 < am.length) = true := decide_eq_true (by omega)
   clear c5; obtain rfl := Option.some.inj H
   go_enter Try.func21, Try.ntmps21
   go_wp2_with (first | ((with_reducible refine gate_dst (N := 1) rfl ?_); refine zX 1 #[.slice ah ae.length ai, .int .i64 a0_1, .slice ao ab.length aj, .slice ak af.length al] 28 ?_; intro ac hg w6 hbox hb; have aq := zK (below_step (zb HB) hb); have ar := zK (hbox); have aw := zK ((by rw [hg]; exact (below_size (zb HB)) : w.heap.size ≤ ac)); have aN := zK ((by rw [hg]; exact (below_size (zb HB)) : w.heap.size ≤ ac)); clear HB; have HB := aq; have aa := ar; have bz := aw; have ag := aN; clear aq ar aw aN; clear hb hbox hg; have hcz7_0 : w6.cell? ⟨ac, 0, none⟩ = some (.slice ah ae.length ai) := (blk_cell aa.out 0).trans rfl; have hcz7_1 : w6.cell? ⟨ac, 1, none⟩ = some (.int .i64 a0_1) := (blk_cell aa.out 1).trans rfl; have hcz7_2 : w6.cell? ⟨ac, 2, none⟩ = some (.slice ao ab.length aj) := (blk_cell aa.out 2).trans rfl; have hcz7_3 : w6.cell? ⟨ac, 3, none⟩ = some (.slice ak af.length al) := (blk_cell aa.out 3).trans rfl; have hfz7_0 := blk_frozen aa.out 0; have hfz7_1 := blk_frozen aa.out 1; have hfz7_2 := blk_frozen aa.out 2; have hfz7_3 := blk_frozen aa.out 3) | ((with_reducible refine gate_callee (f := 24) rfl ?_); refine goesL_ (some 8) rfl rfl Try.func24 (by kernel_rfl) rfl #[.agg #[.slice ah ae.length ai, .int .i64 a0_1, .slice ao ab.length aj, .slice ak af.length al]] rfl zg ?_; (with_reducible refine (impl_LoopOk.calls k _ _ ae a0_1 _ _ ab _ _ af true _ ?side1 ?side2 ?side3 ?side4 ?side5 ?side6 A2.out).mono ?_); (case side1 => exact zs (Kd.C_below aC.out HB.out)); (case side2 => exact aD.out); (case side3 => exact zs (Kd.C_below aK.out HB.out)); (case side4 => exact aR.out); (case side5 => exact zs (Kd.C_below aT.out HB.out)); (case side6 => exact aU.out); rintro e w8 ⟨rfl, hb⟩; refine ⟨_, rfl, ?_⟩; have aq := zK (blk_below (g := ac) (o := .cells #[.slice ah ae.length ai, .int .i64 a0_1, .slice ao ab.length aj, .slice ak af.length al] 28 (0, 0)) (zk aa) hb); have ar := zK (below_step (zb HB) hb); clear aa; clear HB; have aa := aq; have HB := ar; clear aq ar; (try clear hb); have hcz9_0 : w8.cell? ⟨ac, 0, none⟩ = some (.slice ah ae.length ai) := (blk_cell aa.out 0).trans rfl; have hcz9_1 : w8.cell? ⟨ac, 1, none⟩ = some (.int .i64 a0_1) := (blk_cell aa.out 1).trans rfl; have hcz9_2 : w8.cell? ⟨ac, 2, none⟩ = some (.slice ao ab.length aj) := (blk_cell aa.out 2).trans rfl; have hcz9_3 : w8.cell? ⟨ac, 3, none⟩ = some (.slice ak af.length al) := (blk_cell aa.out 3).trans rfl; have hfz9_0 := blk_frozen aa.out 0; have hfz9_1 := blk_frozen aa.out 1; have hfz9_2 := blk_frozen aa.out 2; have hfz9_3 := blk_frozen aa.out 3) | ((with_reducible refine gate_callee (f := 58) rfl ?_); refine goesL_ (some 12) rfl rfl Try.func58 (by kernel_rfl) rfl #[.slice ah ae.length ai] rfl zg ?_; (with_reducible refine (slices_Clone_int_int.calls _ _ ae az _ ?side1 ?side2 A4.out).mono ?_); (case side1 => exact zs (Kd.C_below aC.out HB.out)); (case side2 => exact aD.out); rintro e w10 ⟨v370, rfl, ho0, hb⟩; refine ⟨_, rfl, ?_⟩; have aq := zK (Kd.R_lower ho0 (below_size (zb HB))); have ar := zK (blk_below (g := ac) (o := .cells #[.slice ah ae.length ai, .int .i64 a0_1, .slice ao ab.length aj, .slice ak af.length al] 28 (0, 0)) (zk aa) hb); have aw := zK (below_step (zb HB) hb); clear aa; clear HB; have ax := aq; have aa := ar; have HB := aw; clear aq ar aw; (try clear hb); (try clear ho0); obtain ⟨Ao12, co12, eo12⟩ := Kd.R_slice ax.out; subst eo12) | (go_at_call 57; refine (vc_impl_MostSorted_1_del.del w _ _ az (zb HB) (zR ax)).mono ?_; rintro e w11 ⟨v373, rfl, ho, hb, hg⟩; rw [← Ny372.out] at ho; have aq := zK (blk_grown (g := ac) (o := .cells #[.slice ah ae.length ai, .int .i64 a0_1, .slice ao ab.length aj, .slice ak af.length al] 28 (0, 0)) (zk aa) hg (Kd.R_ne ax.out aa.out (by decide))); have ar := zK (hb); have aw := zK (ho); clear aa; clear HB; clear ax; have aa := aq; have HB := ar; have aV := aw; clear aq ar aw; clear ho hb hg; obtain ⟨Ao13, co13, eo13⟩ := Kd.R_slice aV.out; subst eo13))
   go_ret
   exact ⟨ze, zb HB⟩
  ·rw [if_neg c5] at H
   have bD : decide (7 < (am.length : Int)) = false := decide_eq_false c5
   have bE : decide (7 < am.length) = false := decide_eq_false (by omega)
   clear c5; have H' := zK H; clear H
   go_enter Try.func21, Try.ntmps21
   go_wp2_with (first | ((with_reducible refine gate_dst (N := 1) rfl ?_); refine zX 1 #[.slice ah ae.length ai, .int .i64 a0_1, .slice ao ab.length aj, .slice ak af.length al] 28 ?_; intro ac hg w14 hbox hb; have aq := zK (below_step (zb HB) hb); have ar := zK (hbox); have aw := zK ((by rw [hg]; exact (below_size (zb HB)) : w.heap.size ≤ ac)); have aN := zK ((by rw [hg]; exact (below_size (zb HB)) : w.heap.size ≤ ac)); clear HB; have HB := aq; have aa := ar; have bz := aw; have ag := aN; clear aq ar aw aN; clear hb hbox hg; have a2 : w14.cell? ⟨ac, 0, none⟩ = some (.slice ah ae.length ai) := (blk_cell aa.out 0).trans rfl; have a3 : w14.cell? ⟨ac, 1, none⟩ = some (.int .i64 a0_1) := (blk_cell aa.out 1).trans rfl; have a4 : w14.cell? ⟨ac, 2, none⟩ = some (.slice ao ab.length aj) := (blk_cell aa.out 2).trans rfl; have a5 : w14.cell? ⟨ac, 3, none⟩ = some (.slice ak af.length al) := (blk_cell aa.out 3).trans rfl; have a6 := blk_frozen aa.out 0; have a7 := blk_frozen aa.out 1; have a8 := blk_frozen aa.out 2; have a9 := blk_frozen aa.out 3) | ((with_reducible refine gate_callee (f := 24) rfl ?_); refine goesL_ (some 8) rfl rfl Try.func24 (by kernel_rfl) rfl #[.agg #[.slice ah ae.length ai, .int .i64 a0_1, .slice ao ab.length aj, .slice ak af.length al]] rfl zg ?_; (with_reducible refine (impl_LoopOk.calls k _ _ ae a0_1 _ _ ab _ _ af true _ ?side1 ?side2 ?side3 ?side4 ?side5 ?side6 A2.out).mono ?_); (case side1 => exact zs (Kd.C_below aC.out HB.out)); (case side2 => exact aD.out); (case side3 => exact zs (Kd.C_below aK.out HB.out)); (case side4 => exact aR.out); (case side5 => exact zs (Kd.C_below aT.out HB.out)); (case side6 => exact aU.out); rintro e w16 ⟨rfl, hb⟩; refine ⟨_, rfl, ?_⟩; have aq := zK (blk_below (g := ac) (o := .cells #[.slice ah ae.length ai, .int .i64 a0_1, .slice ao ab.length aj, .slice ak af.length al] 28 (0, 0)) (zk aa) hb); have ar := zK (below_step (zb HB) hb); clear aa; clear HB; have aa := aq; have HB := ar; clear aq ar; (try clear hb); have ba : w16.cell? ⟨ac, 0, none⟩ = some (.slice ah ae.length ai) := (blk_cell aa.out 0).trans rfl; have bb : w16.cell? ⟨ac, 1, none⟩ = some (.int .i64 a0_1) := (blk_cell aa.out 1).trans rfl; have bc : w16.cell? ⟨ac, 2, none⟩ = some (.slice ao ab.length aj) := (blk_cell aa.out 2).trans rfl; have bd : w16.cell? ⟨ac, 3, none⟩ = some (.slice ak af.length al) := (blk_cell aa.out 3).trans rfl; have be := blk_frozen aa.out 0; have bf := blk_frozen aa.out 1; have bg := blk_frozen aa.out 2; have bh := blk_frozen aa.out 3) | ((with_reducible refine gate_callee (f := 58) rfl ?_); refine goesL_ (some 12) rfl rfl Try.func58 (by kernel_rfl) rfl #[.slice ah ae.length ai] rfl zg ?_; (with_reducible refine (slices_Clone_int_int.calls _ _ ae az _ ?side1 ?side2 A4.out).mono ?_); (case side1 => exact zs (Kd.C_below aC.out HB.out)); (case side2 => exact aD.out); rintro e w18 ⟨v370, rfl, ho0, hb⟩; refine ⟨_, rfl, ?_⟩; have aq := zK (Kd.R_lower ho0 (below_size (zb HB))); have ar := zK (blk_below (g := ac) (o := .cells #[.slice ah ae.length ai, .int .i64 a0_1, .slice ao ab.length aj, .slice ak af.length al] 28 (0, 0)) (zk aa) hb); have aw := zK (below_step (zb HB) hb); clear aa; clear HB; have ax := aq; have aa := ar; have HB := aw; clear aq ar aw; (try clear hb); (try clear ho0); obtain ⟨Ao20, co20, eo20⟩ := Kd.R_slice ax.out; subst eo20) | (go_at_call 57; refine (vc_impl_MostSorted_1_del.del w _ _ az (zb HB) (zR ax)).mono ?_; rintro e w19 ⟨v373, rfl, ho, hb, hg⟩; rw [← Ny372.out] at ho; have aq := zK (blk_grown (g := ac) (o := .cells #[.slice ah ae.length ai, .int .i64 a0_1, .slice ao ab.length aj, .slice ak af.length al] 28 (0, 0)) (zk aa) hg (Kd.R_ne ax.out aa.out (by decide))); have ar := zK (hb); have aw := zK (ho); clear aa; clear HB; clear ax; have aa := aq; have HB := ar; have aV := aw; clear aq ar aw; clear ho hb hg; obtain ⟨bi, bj, eo21⟩ := Kd.R_slice aV.out; subst eo21; have bk : w19.cell? ⟨ac, 0, none⟩ = some (.slice ah ae.length ai) := (blk_cell aa.out 0).trans rfl; have bl : w19.cell? ⟨ac, 1, none⟩ = some (.int .i64 a0_1) := (blk_cell aa.out 1).trans rfl; have bm : w19.cell? ⟨ac, 2, none⟩ = some (.slice ao ab.length aj) := (blk_cell aa.out 2).trans rfl; have bn : w19.cell? ⟨ac, 3, none⟩ = some (.slice ak af.length al) := (blk_cell aa.out 3).trans rfl; have bo := blk_frozen aa.out 0; have bp := blk_frozen aa.out 1; have bq := blk_frozen aa.out 2; have br := blk_frozen aa.out 3))
   go_loopg [4, 20] k (fun kq v4 v20 w' => ∃ (aA : List Int) (ad : Int), v20 = .int .i64 ad ∧ Aside0 (impl_MostSorted.l0 kq am aA ab (ab.length : Int) ad ae a0_1 ab af = some r) ∧ Aside0 (kq ≤ k) ∧ Aside0 (Kd.R (Kd.int .i64) 3 w' w.heap.size (fun k_ => some k_ ≠ (v4 : Value).ownBlock) (.slice bi am.length bj) am) ∧ Aside0 (Kd.R (Kd.int .i64) 3 w' w.heap.size (fun k_ => some k_ ≠ ((.slice bi am.length bj) : Value).ownBlock) v4 aA) ∧ Aside0 (w'.heap[ac]? = some (.cells #[(.slice ah ae.length ai), .int .i64 a0_1, (.slice ao ab.length aj), (.slice ak af.length al)] 28 (0, 0))) ∧ Aside0 (Below w.heap.size w w'))
   case atStart => exact ⟨(([] : List Int)), (0), zf, H', ⟨Nat.le_refl _⟩, ⟨by (with_reducible repeat (first | apply Kd.R_alloc | apply Kd.R_drewN | apply Kd.R_drew)); exact Kd.R_mono aV.out (fun _ hk => (by simp [Value.ownBlock]))⟩, ⟨by first | exact Kd.R_nil _ _ _ _ _ | exact Kd.N_nil _ _ _ _ _ | exact Kd.V_nil _ _ _ _ _ | exact Kd.Q_nil _ _ _ _ _ | exact Kd.S_nil _ _ _ _ _⟩, ⟨zk aa⟩, ⟨zb HB⟩⟩
   case round =>
    clear H' bD bE a2 a3 a4 a5 ba bb bc bd bk bl bm bn a6 a7 a8 a9 be bf bg bh bo bp bq br
    obtain ⟨aA, ad, rfl, HA, HK1, ay, av, aa, HB⟩ := hrel
    cases gk with
    | zero => exact absurd HA.out (by simp [impl_MostSorted.l0])
    | succ k1 =>
     have H := HA.out; clear HA
     simp only [impl_MostSorted.l0] at H
     by_cases bC : ad < (ab.length : Int)
     ·rw [if_pos bC] at H
      have bF : decide (ad < (ab.length : Int)) = true := decide_eq_true bC
      clear bC
      by_cases c24 : 0 ≤ ad
      ·rw [if_pos c24] at H
       have c24b0 : decide (0 ≤ ad) = true := decide_eq_true c24
       clear c24
       by_cases c25 : ad < (ab.length : Int)
       ·rw [if_pos c25] at H
        have c25b0 : decide (ad < (ab.length : Int)) = true := decide_eq_true c25
        clear c25
        by_cases c26 : aA.length < 17592186044416
        ·rw [if_pos c26] at H
         have bG := zK c26; clear c26
         obtain ⟨bH, aQ⟩ : ∃ y_ : List Int, y_ = (aA ++ [wrap64 (((rd_T69 ab ad).f1) - (((rd_T69 ab ad).f2).length : Int))]) := ⟨_, rfl⟩
         replace H : (impl_MostSorted.l0 k1 am bH ab (ab.length : Int) (wrap64 (ad + 1)) ae a0_1 ab af) = some r := by first | (rw [aQ]; with_reducible exact H) | (have H2_ := (Option.bind_some _ _).symm.trans H; rw [aQ]; with_reducible exact H2_) | (have H2_ := (Option.bind_some _ _).symm.trans H; with_reducible exact H2_) | with_reducible exact H | (rw [aQ]; exact H) | exact H
         have Ny377 := zK aQ; clear aQ; have H' := zK H; clear H
         have bA : 0 ≤ (ad : Int) := zd
         have bB : ad < (ab.length : Int) := zd
         obtain ⟨aW, aE, aG, e375, aH, aI, aJ, aX, aY⟩ := at_T69 aK.out ad bA bB
         cases e375
         replace aH := (HB.out.cell (World.block_lt_of_cell? w _ aH)).trans aH
         replace aI := (HB.out.cell (World.block_lt_of_cell? w _ aI)).trans aI
         replace aJ := (HB.out.cell (World.block_lt_of_cell? w _ aJ)).trans aJ
         have HR375_2 := zK aY; have HC375_2 := zK aX; clear aY aX; replace bA := eq_true bA; replace bB := eq_true bB
         go_wp2_with (first | ((with_reducible refine gate_dst (N := 6) rfl ?_); refine zX 6 #[.int .i64 0, .int .i64 0, .slice none 0 0] 69 ?_; intro an hg w27 hbox hb; have aq := zK (Kd.R_below (zR ay) hb); have ar := zK (Kd.R_below (zR av) hb); have aw := zK (blk_below (g := ac) (o := .cells #[.slice ah ae.length ai, .int .i64 a0_1, .slice (some aW) ab.length aj, .slice ak af.length al] 28 (0, 0)) (zk aa) hb); have aN := zK (below_step (zb HB) hb); have bI := zK (hbox); have n5_ := zK ((by rw [hg]; exact (below_size (zb HB)) : w.heap.size ≤ an)); have n6_ := zK ((by rw [hg]; exact (below_size (zb HB)) : w.heap.size ≤ an)); have n7_ := zK ((by rw [hg]; exact Nat.ne_of_lt (blk_lt (g := ac) (o := .cells #[.slice ah ae.length ai, .int .i64 a0_1, .slice (some aW) ab.length aj, .slice ak af.length al] 28 (0, 0)) (zk aa)) : ac ≠ an)); have n8_ := zK ((by rw [hg]; exact Nat.ne_of_gt (blk_lt (g := ac) (o := .cells #[.slice ah ae.length ai, .int .i64 a0_1, .slice (some aW) ab.length aj, .slice ak af.length al] 28 (0, 0)) (zk aa)) : an ≠ ac)); clear ay; clear av; clear aa; clear HB; have ay := aq; have av := ar; have aa := aw; have HB := aN; have ap := bI; have GW376 := n5_; have a0 := n6_; have au := n7_; have aZ := n8_; clear aq ar aw aN bI n5_ n6_ n7_ n8_; clear hb hbox hg; have hnb28 := aZ.out; have hnc28 := au.out; have hcz29_0 : w27.cell? ⟨an, 0, none⟩ = some (.int .i64 0) := (blk_cell ap.out 0).trans rfl; have hcz29_1 : w27.cell? ⟨an, 1, none⟩ = some (.int .i64 0) := (blk_cell ap.out 1).trans rfl; have hcz29_2 : w27.cell? ⟨an, 2, none⟩ = some (.slice none 0 0) := (blk_cell ap.out 2).trans rfl; have hfz29_0 := blk_frozen ap.out 0; have hfz29_1 := blk_frozen ap.out 1; have hfz29_2 := blk_frozen ap.out 2) | ((with_reducible refine gate_builtin (b := .append) (xs := #[.tmp 24, .tmp 31]) rfl ?_); at_builtin; refine Kd.R_append (Kd.int .i64) (w0 := w) w.heap.size rfl (.tmp 24) (.tmp 31) 24 3 (.int .i64 0) 8 rfl Try.underlying24 info3 rfl (by decide) (by omega) u4 aA (wrap64 (((rd_T69 ab ad).f1) - (((rd_T69 ab ad).f2).length : Int))) [.int .i64 (wrap64 (((rd_T69 ab ad).f1) - (((rd_T69 ab ad).f2).length : Int)))] (fun k_ => some k_ ≠ (.slice bi am.length bj : Value).ownBlock) (fun _ => False) rfl (by first | (go_simp; done) | (go_simp; rfl)) ?aP (fun _ hk => hk.elim) ?aF ?aO ?aB ?aS ?aL ?_; (case aP => exact rfl); (case aB => exact (zb HB)); (case aF => exact (fun k_ hk => Kd.fresh' (Kd.R_lt (by (with_reducible repeat (first | apply Kd.R_alloc | apply Kd.R_drewN | apply Kd.R_drew)); exact (Kd.R_mono (Kd.R_far (p := ⟨an, 2, none⟩) (Kd.R_far (p := ⟨an, 1, none⟩) (Kd.R_far (p := ⟨an, 0, none⟩) (Kd.R_types ay.out ap.out (by decide)) (fun _ hk => hk.2) (.int .i64 ((rd_T69 ab ad).f0))) (fun _ hk => hk.2) (.int .i64 ((rd_T69 ab ad).f1))) (fun _ hk => hk.2) (.slice aE ((rd_T69 ab ad).f2).length aG)) (fun _ h_ => h_.1)))) k_ hk)); (case aO => exact (by (with_reducible repeat (first | apply Kd.R_alloc | apply Kd.R_drewN | apply Kd.R_drew)); exact Kd.R_mono (Kd.R_far (p := ⟨an, 2, none⟩) (Kd.R_far (p := ⟨an, 1, none⟩) (Kd.R_far (p := ⟨an, 0, none⟩) (Kd.R_types av.out ap.out (by decide)) (fun _ hk => hk.2) (.int .i64 ((rd_T69 ab ad).f0))) (fun _ hk => hk.2) (.int .i64 ((rd_T69 ab ad).f1))) (fun _ hk => hk.2) (.slice aE ((rd_T69 ab ad).f2).length aG)) (fun _ hk => hk.1))); (case aS => exact (below_size (zb HB))); (case aL => have := bG.out; omega); intro v378 w30 ho hb hg hat; rw [← Ny377.out] at ho; have aq := zK (Kd.R_after (ok := (fun _ => True)) (by (with_reducible repeat (first | apply Kd.R_alloc | apply Kd.R_drewN | apply Kd.R_drew)); exact Kd.R_mono (Kd.R_far (p := ⟨an, 2, none⟩) (Kd.R_far (p := ⟨an, 1, none⟩) (Kd.R_far (p := ⟨an, 0, none⟩) (Kd.R_types ay.out ap.out (by decide)) (fun _ hk => hk.2) (.int .i64 ((rd_T69 ab ad).f0))) (fun _ hk => hk.2) (.int .i64 ((rd_T69 ab ad).f1))) (fun _ hk => hk.2) (.slice aE ((rd_T69 ab ad).f2).length aG)) (fun _ hk => ⟨trivial, hk.1⟩)) hg hat); have ar := zK (blk_grown (g := ac) (o := .cells #[.slice ah ae.length ai, .int .i64 a0_1, .slice (some aW) ab.length aj, .slice ak af.length al] 28 (0, 0)) (zh aa au) hg (Kd.R_ne av.out aa.out (by decide))); have aw := zK (blk_grown (g := an) (o := .cells #[.int .i64 ((rd_T69 ab ad).f0), .int .i64 ((rd_T69 ab ad).f1), .slice aE ((rd_T69 ab ad).f2).length aG] 69 (0, 0)) (by (with_reducible repeat (first | refine zN ?_ _ | refine zD ?_ | refine zA ?_ _)); refine blk_put (cs := #[.int .i64 ((rd_T69 ab ad).f0), .int .i64 ((rd_T69 ab ad).f1), .slice none 0 0]) ?_ 2 _ rfl; (with_reducible repeat (first | refine zN ?_ _ | refine zD ?_ | refine zA ?_ _)); refine blk_put (cs := #[.int .i64 ((rd_T69 ab ad).f0), .int .i64 0, .slice none 0 0]) ?_ 1 _ rfl; (with_reducible repeat (first | refine zN ?_ _ | refine zD ?_ | refine zA ?_ _)); refine blk_put (cs := #[.int .i64 0, .int .i64 0, .slice none 0 0]) ?_ 0 _ rfl; (with_reducible repeat (first | refine zN ?_ _ | refine zD ?_ | refine zA ?_ _)); exact ap.out) hg (Kd.R_ne av.out ap.out (by decide))); have aN := zK (hb); have bI := zK (ho); clear ay; clear aa; clear ap; clear HB; clear av; have ay := aq; have aa := ar; have ap := aw; have HB := aN; have bJ := bI; clear aq ar aw aN bI; clear ho hb hg hat))
         go_roundg k1
         case measure => have := HK1.out; omega
         case rel => exact ⟨(bH), (wrap64 (ad + 1)), zf, H', ⟨by have := HK1.out; omega⟩, ⟨by (with_reducible repeat (first | apply Kd.R_alloc | apply Kd.R_drewN | apply Kd.R_drew)); exact Kd.R_mono ay.out (fun _ hk => hk.2)⟩, ⟨zR bJ⟩, ⟨zk aa⟩, ⟨zb HB⟩⟩
        ·rw [if_neg c26] at H
         exact absurd H (by simp)
       ·rw [if_neg c25] at H
        exact absurd H (by simp)
      ·rw [if_neg c24] at H
       exact absurd H (by simp)
     ·rw [if_neg bC] at H
      have bF : decide (ad < (ab.length : Int)) = false := decide_eq_false bC
      clear bC; replace H := Option.bind_eq_some_iff.mp H
      obtain ⟨⟨bK, t381⟩, bL, H⟩ := H
      replace H : (some bK) = some r := H
      have A31 := zK bL; clear bL; obtain rfl := Option.some.inj H
      have hcz32_0 : wr.cell? ⟨ac, 0, none⟩ = some (.slice ah ae.length ai) := (blk_cell aa.out 0).trans rfl
      have hcz32_1 : wr.cell? ⟨ac, 1, none⟩ = some (.int .i64 a0_1) := (blk_cell aa.out 1).trans rfl
      have hcz32_2 : wr.cell? ⟨ac, 2, none⟩ = some (.slice ao ab.length aj) := (blk_cell aa.out 2).trans rfl
      have hcz32_3 : wr.cell? ⟨ac, 3, none⟩ = some (.slice ak af.length al) := (blk_cell aa.out 3).trans rfl
      have hfz32_0 := blk_frozen aa.out 0; have hfz32_1 := blk_frozen aa.out 1; have hfz32_2 := blk_frozen aa.out 2; have hfz32_3 := blk_frozen aa.out 3
      obtain ⟨bs, bu, eo33⟩ := Kd.R_slice av.out
      subst eo33
      go_wp2_with (first | ((with_reducible refine gate_callee (f := 60) rfl ?_); refine goesL_ (some 37) rfl rfl Try.func60 (by kernel_rfl) rfl #[.agg #[.slice ah ae.length ai, .int .i64 a0_1, .slice ao ab.length aj, .slice ak af.length al], .slice bi am.length bj, .slice bs aA.length bu] rfl zg ?_; (with_reducible refine (impl_most.calls k1 _ _ ae a0_1 _ _ ab _ _ af _ _ am (fun k_ => some k_ = (.slice bs aA.length bu : Value).ownBlock) (.slice bs aA.length bu) aA bK t381 w _ ?side1 ?side2 ?side3 ?side4 ?side5 ?side6 ?side7 ?side8 ?side9 ?side10 A31.out).mono ?_); (case side1 => exact zb HB); (case side2 => exact Kd.C_kept_came (Kd.heap_int .i64) aC.out (zb HB) (fun k_ hs_ => (fun e_ => Kd.R_base av.out k_ e_.symm) hs_)); (case side3 => exact aD.out); (case side4 => exact Kd.C_kept_came k69_heap aK.out (zb HB) (fun k_ hs_ => (fun e_ => Kd.R_base av.out k_ e_.symm) hs_)); (case side5 => exact aR.out); (case side6 => exact Kd.C_kept_came k74_heap aT.out (zb HB) (fun k_ hs_ => (fun e_ => Kd.R_base av.out k_ e_.symm) hs_)); (case side7 => exact aU.out); (case side8 => exact Kd.C_kept_own (ay.out) (fun k_ hk_ hs_ => (hk_) hs_)); (case side9 => exact (Kd.R_reads' ay.out).2.1); (case side10 => exact Kd.R_tight rfl av.out); rintro e w34 ⟨rfl, hy0, hb, hkp⟩; refine ⟨_, rfl, ?_⟩; have aq := zK (Kd.R_mono (ok' := fun k_ => some k_ ≠ (.slice bs aA.length bu : Value).ownBlock) (Kd.R_keptB (ay.out) hkp (fun k_ hk_ hs_ => (hk_) hs_)) (fun k_ hk_ => hk_.1)); have ar := zK (Kd.R_reok rfl hy0 (fun k_ e_ => av.out.1 k_ e_)); have aw := zK (blk_kept (zk aa) hkp (fun hs_ => (fun e_ => (Kd.R_ne av.out aa.out (by decide)) e_) hs_)); have aN := zK (hb); clear ay; clear av; clear aa; clear HB; have ay := aq; have av := ar; have aa := aw; have HB := aN; clear aq ar aw aN; (try clear hb); (try clear hkp); (try clear hy0)))
      go_ret
      exact ⟨ze, zb HB⟩
 ·replace c3 := Bool.eq_false_iff.mpr c3
  subst c3
  have H1 : (some (-1)) = some r := by rw [if_neg (show ¬ (false = true) by decide)] at H; exact H
  clear H; have H := H1; clear H1; obtain rfl := Option.some.inj H
  go_enter Try.func21, Try.ntmps21
  go_wp2_with (first | ((with_reducible refine gate_dst (N := 1) rfl ?_); refine zX 1 #[.slice ah ae.length ai, .int .i64 a0_1, .slice ao ab.length aj, .slice ak af.length al] 28 ?_; intro ac hg w35 hbox hb; have aq := zK (below_step (zb HB) hb); have ar := zK (hbox); have aw := zK ((by rw [hg]; exact (below_size (zb HB)) : w.heap.size ≤ ac)); have aN := zK ((by rw [hg]; exact (below_size (zb HB)) : w.heap.size ≤ ac)); clear HB; have HB := aq; have aa := ar; have bz := aw; have ag := aN; clear aq ar aw aN; clear hb hbox hg; have hcz36_0 : w35.cell? ⟨ac, 0, none⟩ = some (.slice ah ae.length ai) := (blk_cell aa.out 0).trans rfl; have hcz36_1 : w35.cell? ⟨ac, 1, none⟩ = some (.int .i64 a0_1) := (blk_cell aa.out 1).trans rfl; have hcz36_2 : w35.cell? ⟨ac, 2, none⟩ = some (.slice ao ab.length aj) := (blk_cell aa.out 2).trans rfl; have hcz36_3 : w35.cell? ⟨ac, 3, none⟩ = some (.slice ak af.length al) := (blk_cell aa.out 3).trans rfl; have hfz36_0 := blk_frozen aa.out 0; have hfz36_1 := blk_frozen aa.out 1; have hfz36_2 := blk_frozen aa.out 2; have hfz36_3 := blk_frozen aa.out 3) | ((with_reducible refine gate_callee (f := 24) rfl ?_); refine goesL_ (some 8) rfl rfl Try.func24 (by kernel_rfl) rfl #[.agg #[.slice ah ae.length ai, .int .i64 a0_1, .slice ao ab.length aj, .slice ak af.length al]] rfl zg ?_; (with_reducible refine (impl_LoopOk.calls k _ _ ae a0_1 _ _ ab _ _ af false _ ?side1 ?side2 ?side3 ?side4 ?side5 ?side6 A2.out).mono ?_); (case side1 => exact zs (Kd.C_below aC.out HB.out)); (case side2 => exact aD.out); (case side3 => exact zs (Kd.C_below aK.out HB.out)); (case side4 => exact aR.out); (case side5 => exact zs (Kd.C_below aT.out HB.out)); (case side6 => exact aU.out); rintro e w37 ⟨rfl, hb⟩; refine ⟨_, rfl, ?_⟩; have aq := zK (blk_below (g := ac) (o := .cells #[.slice ah ae.length ai, .int .i64 a0_1, .slice ao ab.length aj, .slice ak af.length al] 28 (0, 0)) (zk aa) hb); have ar := zK (below_step (zb HB) hb); clear aa; clear HB; have aa := aq; have HB := ar; clear aq ar; (try clear hb)))
  go_ret
  exact ⟨ze, zb HB⟩
mutual
def spec_l05Most.l0 : Nat → List Int → Int → List Int → Int → Int → List Int → Int → List (S69) → List (S74) → Option (Int)
 | 0, _, _, _, _, _, _, _, _, _ => none
 | k + 1, x1, x2, x3, x9, x10, x383000, x383001, x383002, x383003 => if x10 < (x3.length : Int) then (if 0 ≤ x10 then (if (rd x3 x10) > 0 then (if 0 ≤ x2 then (if x2 < (x1.length : Int) then ((spec_l05Wants.f k x383000 x383001 x383002 x383003 (rd x1 x2) x10).bind fun t386 => (if t386 = true then ((some (([] : List Int) : List Int)).bind fun y387 => (if y387.length + x3.length < 17592186044416 then ((some (y387 ++ x3 : List Int)).bind fun y390 => (if x10 < (y390.length : Int) then ((spec_l05Most.f k x383000 x383001 x383002 x383003 x1 (wrap64 (x2 + 1)) (y390.set (x10 : Int).toNat (wrap64 ((rd y390 x10) - 1)))).bind fun t395 => (spec_l05Most.l0 k x1 x2 x3 (mx x9 (wrap64 (1 + t395))) (wrap64 (x10 + 1)) x383000 x383001 x383002 x383003)) else (none))) else (none))) else (spec_l05Most.l0 k x1 x2 x3 x9 (wrap64 (x10 + 1)) x383000 x383001 x383002 x383003))) else (none)) else (none)) else (spec_l05Most.l0 k x1 x2 x3 x9 (wrap64 (x10 + 1)) x383000 x383001 x383002 x383003)) else (none)) else (some x9)
def spec_l05Most.f : Nat → List Int → Int → List (S69) → List (S74) → List Int → Int → List Int → Option (Int)
 | 0, _, _, _, _, _, _, _ => none
 | k + 1, l0_0, a0_1, l0_2, l0_3, l1, a2, l3 => if a2 ≥ (l1.length : Int) then (some 0) else ((spec_l05Most.f k l0_0 a0_1 l0_2 l0_3 l1 (wrap64 (a2 + 1)) l3).bind fun t383 => (spec_l05Most.l0 k l1 a2 l3 t383 0 l0_0 a0_1 l0_2 l0_3))
end
def spec_l05Most.T7 : Bool × List (List Nat × List Nat) := (true, [([], []), ([], []), ([0, 1], [0, 1]), ([2], [2]), ([3], [3]), ([4], [4]), ([5], [5]), ([5], [5]), ([5], [5]), ([7, 8, 5], [5, 7, 8]), ([9, 5], [5, 9]), ([5], [5]), ([6, 10, 11, 5, 5], [5, 6, 10, 11]), ([5, 12], [5, 12])])
def spec_l05Most.B7 : List Nat := [0, 0, 3, 7, 15, 31, 63, 63, 63, 447, 959, 63, 4095, 8191]
theorem spec_l05Most.tab7 : rtab .any (opsOf Try.f61 7) = spec_l05Most.T7 := by kernel_rfl
theorem spec_l05Most.bits7 : waitsOk spec_l05Most.T7.2 spec_l05Most.B7 = true := by kernel_rfl
set_option maxHeartbeats 8000000 in
set_option maxRecDepth 100000 in
theorem spec_l05Most.calls (k : Nat) : ∀ (an : Option Addr) (ao : Nat) (ac : List Int) (a0_1 : Int) (ap : Option Addr) (aq : Nat) (ad : List (S69)) (ar : Option Addr) (au : Nat) (ae : List (S74)) (A1 : Option Addr) (c1 : Nat) (l1 : List Int) (a2 : Int) (A3 : Option Addr) (c3 : Nat) (l3 : List Int) (r : Int) (w : World) (aY : Kd.C (Kd.int .i64) w an ac.length ac) (hc0_0 : ac.length ≤ ao) (aZ : Kd.C k69 w ap ad.length ad) (hc0_2 : ad.length ≤ aq) (a0 : Kd.C k74 w ar ae.length ae) (hc0_3 : ae.length ≤ au) (hr1 : Kd.C (Kd.int .i64) w A1 l1.length l1) (hc1 : l1.length ≤ c1) (hr3 : Kd.C (Kd.int .i64) w A3 l3.length l3) (hc3 : l3.length ≤ c3) (h : spec_l05Most.f k ac a0_1 ad ae l1 a2 l3 = some r),
  Calls Try.prog 61 #[.agg #[.slice an ac.length ao, .int .i64 a0_1, .slice ap ad.length aq, .slice ar ae.length au], .slice A1 l1.length c1, .int .i64 a2, .slice A3 l3.length c3] w fun e w' => e = .returned (.int .i64 r) ∧ Below w.heap.size w w' := by
 induction k using Nat.strongRecOn with
 | _ k ih =>
 intro an ao ac a0_1 ap aq ad ar au ae A1 c1 l1 a2 A3 c3 l3 r w aY hc0_0 aZ hc0_2 a0 hc0_3 hr1 hc1 hr3 hc3 h
 cases k with
 | zero => exact absurd h (by simp [spec_l05Most.f])
 | succ k =>
 simp only [spec_l05Most.f] at h
 have hu28 := Try.underlying28; have aN := zK aY; have aP := zK hc0_0; clear aY hc0_0; have aQ := zK aZ; have aT := zK hc0_2; clear aZ hc0_2; have aU := zK a0; have aV := zK hc0_3; clear a0 hc0_3; have HR1 := zK hr1; have HC1 := zK hc1; clear hr1 hc1; have bo := zK hr3; have HC3 := zK hc3; clear hr3 hc3
 have HB := zK (Below.refl w.heap.size w)
 have H : (if a2 ≥ (l1.length : Int) then (some 0) else ((spec_l05Most.f k ac a0_1 ad ae l1 (wrap64 (a2 + 1)) l3).bind fun a1 => (spec_l05Most.l0 k l1 a2 l3 a1 0 ac a0_1 ad ae))) = some r := h
 clear h
 by_cases c5 : a2 ≥ (l1.length : Int)
 ·rw [if_pos c5] at H
  have bp : decide ((l1.length : Int) ≤ a2) = true := decide_eq_true c5
  clear c5; obtain rfl := Option.some.inj H
  go_enter Try.func61, Try.ntmps61
  go_wp2_with (first | ((with_reducible refine gate_dst (N := 4) rfl ?_); refine zX 4 #[.slice an ac.length ao, .int .i64 a0_1, .slice ap ad.length aq, .slice ar ae.length au] 28 ?_; intro af hg w6 hbox hb; have av := zK (below_step (zb HB) hb); have aw := zK (hbox); have aE := zK ((by rw [hg]; exact (below_size (zb HB)) : w.heap.size ≤ af)); have bq := zK ((by rw [hg]; exact (below_size (zb HB)) : w.heap.size ≤ af)); clear HB; have HB := av; have aa := aw; have br := aE; have am := bq; clear av aw aE bq; clear hb hbox hg))
  go_ret
  exact ⟨ze, zb HB⟩
 ·rw [if_neg c5] at H
  have bp : decide ((l1.length : Int) ≤ a2) = false := decide_eq_false c5
  clear c5; replace H := Option.bind_eq_some_iff.mp H
  obtain ⟨a1, A70, H⟩ := H
  replace H : (spec_l05Most.l0 k l1 a2 l3 a1 0 ac a0_1 ad ae) = some r := H
  have A7 := zK A70; clear A70; have H' := zK H; clear H
  go_enter Try.func61, Try.ntmps61
  go_wp2_with (first | ((with_reducible refine gate_dst (N := 4) rfl ?_); refine zX 4 #[.slice an ac.length ao, .int .i64 a0_1, .slice ap ad.length aq, .slice ar ae.length au] 28 ?_; intro af hg w8 hbox hb; have av := zK (below_step (zb HB) hb); have aw := zK (hbox); have aE := zK ((by rw [hg]; exact (below_size (zb HB)) : w.heap.size ≤ af)); have bq := zK ((by rw [hg]; exact (below_size (zb HB)) : w.heap.size ≤ af)); clear HB; have HB := av; have aa := aw; have br := aE; have am := bq; clear av aw aE bq; clear hb hbox hg; have a7 : w8.cell? ⟨af, 0, none⟩ = some (.slice an ac.length ao) := (blk_cell aa.out 0).trans rfl; have a8 : w8.cell? ⟨af, 1, none⟩ = some (.int .i64 a0_1) := (blk_cell aa.out 1).trans rfl; have a9 : w8.cell? ⟨af, 2, none⟩ = some (.slice ap ad.length aq) := (blk_cell aa.out 2).trans rfl; have ba : w8.cell? ⟨af, 3, none⟩ = some (.slice ar ae.length au) := (blk_cell aa.out 3).trans rfl; have bb := blk_frozen aa.out 0; have bc := blk_frozen aa.out 1; have bd := blk_frozen aa.out 2; have be := blk_frozen aa.out 3) | ((with_reducible refine gate_callee (f := 61) rfl ?_); refine goesL_ (some 21) rfl rfl Try.func61 (by kernel_rfl) rfl #[.agg #[.slice an ac.length ao, .int .i64 a0_1, .slice ap ad.length aq, .slice ar ae.length au], .slice A1 l1.length c1, .int .i64 (wrap64 (a2 + 1)), .slice A3 l3.length c3] rfl zg ?_; (with_reducible refine (ih k (by omega) _ _ ac a0_1 _ _ ad _ _ ae _ _ l1 (wrap64 (a2 + 1)) _ _ l3 a1 _ ?side1 ?side2 ?side3 ?side4 ?side5 ?side6 ?side7 ?side8 ?side9 ?side10 A7.out).mono ?_); (case side1 => exact zs (Kd.C_below aN.out HB.out)); (case side2 => exact aP.out); (case side3 => exact zs (Kd.C_below aQ.out HB.out)); (case side4 => exact aT.out); (case side5 => exact zs (Kd.C_below aU.out HB.out)); (case side6 => exact aV.out); (case side7 => exact zs (Kd.C_below HR1.out HB.out)); (case side8 => exact HC1.out); (case side9 => exact zs (Kd.C_below bo.out HB.out)); (case side10 => exact HC3.out); rintro e w10 ⟨rfl, hb⟩; refine ⟨_, rfl, ?_⟩; have av := zK (blk_below (g := af) (o := .cells #[.slice an ac.length ao, .int .i64 a0_1, .slice ap ad.length aq, .slice ar ae.length au] 28 (0, 0)) (zk aa) hb); have aw := zK (below_step (zb HB) hb); clear aa; clear HB; have aa := av; have HB := aw; clear av aw; (try clear hb)))
  go_loopg [9, 10] k (fun kq v9 v10 w' => ∃ (ax : Int) (ab : Int), v9 = .int .i64 ax ∧ v10 = .int .i64 ab ∧ Aside0 (spec_l05Most.l0 kq l1 a2 l3 ax ab ac a0_1 ad ae = some r) ∧ Aside0 (kq ≤ k) ∧ Aside0 (w'.heap[af]? = some (.cells #[(.slice an ac.length ao), .int .i64 a0_1, (.slice ap ad.length aq), (.slice ar ae.length au)] 28 (0, 0))) ∧ Aside0 (Below w.heap.size w w'))
  case atStart => exact ⟨(a1), (0), zf, zf, H', ⟨Nat.le_refl _⟩, ⟨zk aa⟩, ⟨zb HB⟩⟩
  case round =>
   clear H' bp a7 a8 a9 ba bb bc bd be
   obtain ⟨ax, ab, rfl, rfl, HA, bf, aa, HB⟩ := hrel
   cases gk with
   | zero => exact absurd HA.out (by simp [spec_l05Most.l0])
   | succ k1 =>
    have H := HA.out; clear HA
    simp only [spec_l05Most.l0] at H
    by_cases bm : ab < (l3.length : Int)
    ·rw [if_pos bm] at H
     have bs : decide (ab < (l3.length : Int)) = true := decide_eq_true bm
     clear bm
     by_cases c12 : 0 ≤ ab
     ·rw [if_pos c12] at H
      have c12b0 : decide (0 ≤ ab) = true := decide_eq_true c12
      clear c12
      by_cases bn : (rd l3 ab) > 0
      ·rw [if_pos bn] at H
       have bu : decide (0 < (rd l3 ab)) = true := decide_eq_true bn
       clear bn
       by_cases c14 : 0 ≤ a2
       ·rw [if_pos c14] at H
        have c14b0 : decide (0 ≤ a2) = true := decide_eq_true c14
        clear c14
        by_cases c15 : a2 < (l1.length : Int)
        ·rw [if_pos c15] at H
         have c15b0 : decide (a2 < (l1.length : Int)) = true := decide_eq_true c15
         clear c15; replace H := Option.bind_eq_some_iff.mp H
         obtain ⟨bv, bw, H⟩ := H
         replace H : (if bv = true then ((some (([] : List Int) : List Int)).bind fun az => (if az.length + l3.length < 17592186044416 then ((some (az ++ l3 : List Int)).bind fun aj => (if ab < (aj.length : Int) then ((spec_l05Most.f k1 ac a0_1 ad ae l1 (wrap64 (a2 + 1)) (aj.set (ab : Int).toNat (wrap64 ((rd aj ab) - 1)))).bind fun ay => (spec_l05Most.l0 k1 l1 a2 l3 (mx ax (wrap64 (1 + ay))) (wrap64 (ab + 1)) ac a0_1 ad ae)) else (none))) else (none))) else (spec_l05Most.l0 k1 l1 a2 l3 ax (wrap64 (ab + 1)) ac a0_1 ad ae)) = some r := H
         have A16 := zK bw; clear bw
         by_cases c17 : bv = true
         ·subst c17
          have H1 : ((some (([] : List Int) : List Int)).bind fun az => (if az.length + l3.length < 17592186044416 then ((some (az ++ l3 : List Int)).bind fun aj => (if ab < (aj.length : Int) then ((spec_l05Most.f k1 ac a0_1 ad ae l1 (wrap64 (a2 + 1)) (aj.set (ab : Int).toNat (wrap64 ((rd aj ab) - 1)))).bind fun ay => (spec_l05Most.l0 k1 l1 a2 l3 (mx ax (wrap64 (1 + ay))) (wrap64 (ab + 1)) ac a0_1 ad ae)) else (none))) else (none))) = some r := by rw [if_pos rfl] at H; exact H
          clear H; have H := H1; clear H1
          obtain ⟨az, aG⟩ : ∃ y_ : List Int, y_ = (([] : List Int)) := ⟨_, rfl⟩
          replace H : (if az.length + l3.length < 17592186044416 then ((some (az ++ l3 : List Int)).bind fun aj => (if ab < (aj.length : Int) then ((spec_l05Most.f k1 ac a0_1 ad ae l1 (wrap64 (a2 + 1)) (aj.set (ab : Int).toNat (wrap64 ((rd aj ab) - 1)))).bind fun ay => (spec_l05Most.l0 k1 l1 a2 l3 (mx ax (wrap64 (1 + ay))) (wrap64 (ab + 1)) ac a0_1 ad ae)) else (none))) else (none)) = some r := by first | (rw [aG]; with_reducible exact H) | (have H2_ := (Option.bind_some _ _).symm.trans H; rw [aG]; with_reducible exact H2_) | (have H2_ := (Option.bind_some _ _).symm.trans H; with_reducible exact H2_) | with_reducible exact H | (rw [aG]; exact H) | exact H
          have Ny387 := zK aG; clear aG
          by_cases c18 : az.length + l3.length < 17592186044416
          ·rw [if_pos c18] at H
           have bx := zK c18; clear c18
           obtain ⟨aj, aH⟩ : ∃ y_ : List Int, y_ = (az ++ l3) := ⟨_, rfl⟩
           replace H : (if ab < (aj.length : Int) then ((spec_l05Most.f k1 ac a0_1 ad ae l1 (wrap64 (a2 + 1)) (aj.set (ab : Int).toNat (wrap64 ((rd aj ab) - 1)))).bind fun ay => (spec_l05Most.l0 k1 l1 a2 l3 (mx ax (wrap64 (1 + ay))) (wrap64 (ab + 1)) ac a0_1 ad ae)) else (none)) = some r := by first | (rw [aH]; with_reducible exact H) | (have H2_ := (Option.bind_some _ _).symm.trans H; rw [aH]; with_reducible exact H2_) | (have H2_ := (Option.bind_some _ _).symm.trans H; with_reducible exact H2_) | with_reducible exact H | (rw [aH]; exact H) | exact H
           have Ny390 := zK aH; clear aH
           by_cases c19 : ab < (aj.length : Int)
           ·rw [if_pos c19] at H
            have c19b0 : decide (ab < (aj.length : Int)) = true := decide_eq_true c19
            clear c19
            obtain ⟨aX, aI⟩ : ∃ y_ : List Int, y_ = (aj.set (ab : Int).toNat (wrap64 ((rd aj ab) - 1))) := ⟨_, rfl⟩
            replace H : ((spec_l05Most.f k1 ac a0_1 ad ae l1 (wrap64 (a2 + 1)) aX).bind fun ay => (spec_l05Most.l0 k1 l1 a2 l3 (mx ax (wrap64 (1 + ay))) (wrap64 (ab + 1)) ac a0_1 ad ae)) = some r := by first | (rw [aI]; with_reducible exact H) | (have H2_ := (Option.bind_some _ _).symm.trans H; rw [aI]; with_reducible exact H2_) | (have H2_ := (Option.bind_some _ _).symm.trans H; with_reducible exact H2_) | with_reducible exact H | (rw [aI]; exact H) | exact H
            have Ny394 := zK aI; clear aI; replace H := Option.bind_eq_some_iff.mp H
            obtain ⟨ay, bz, H⟩ := H
            replace H : (spec_l05Most.l0 k1 l1 a2 l3 (mx ax (wrap64 (1 + ay))) (wrap64 (ab + 1)) ac a0_1 ad ae) = some r := H
            have A21 := zK bz; clear bz
            obtain ⟨bg, aD⟩ : ∃ j_ : Int, (mx ax (wrap64 (1 + ay))) = j_ := ⟨_, rfl⟩
            replace H : (spec_l05Most.l0 k1 l1 a2 l3 bg (wrap64 (ab + 1)) ac a0_1 ad ae) = some r := by first | (rw [aD] at H; exact H) | (simp only [aD] at H ⊢; exact H)
            (try rw [aD] at A16); (try rw [aD] at A21)
            have hji22_ : (if ax < (wrap64 (1 + ay)) then (wrap64 (1 + ay)) else ax) = bg := aD
            have H' := zK H; clear H
            try go_wp2
            have av := zK (zD aa.out)
            have aw := zK (zE HB.out)
            clear aa HB; have aa := av; have HB := aw; clear av aw
            have aA : 0 ≤ (ab : Int) := zd
            have aC : ab < (l3.length : Int) := zd
            obtain ⟨aJ, a3, ag⟩ := Kd.at_int bo.out ab aA aC
            have ah := ag
            cases a3
            replace ag := (HB.out.cell (World.block_lt_of_cell? w _ ag)).trans ag
            replace aA := eq_true aA; replace aC := eq_true aC
            have aK : 0 ≤ (a2 : Int) := zd
            have aM : a2 < (l1.length : Int) := zd
            obtain ⟨aW, bh, ai⟩ := Kd.at_int HR1.out a2 aK aM
            have al := ai
            cases bh
            replace ai := (HB.out.cell (World.block_lt_of_cell? w _ ai)).trans ai
            replace aK := eq_true aK; replace aM := eq_true aM
            refine start_ (n := 14) (S := fun w' => w'.cell? ⟨af, 0, none⟩ = some (.slice an ac.length ao) ∧ w'.cell? ⟨af, 1, none⟩ = some (.int .i64 a0_1) ∧ w'.cell? ⟨af, 2, none⟩ = some (.slice ap ad.length aq) ∧ w'.cell? ⟨af, 3, none⟩ = some (.slice ar ae.length au) ∧ w'.cell? (aJ.add (ab).toNat) = some (.int .i64 (rd l3 ab)) ∧ w'.cell? (aW.add (a2).toNat) = some (.int .i64 (rd l1 a2))) (ds := []) #[ff, ff, ff, ff, ff, ff, ff, ff, ff, ff, ff, ff, ff, ff] (by kernel_rfl) rfl rfl ⟨(blk_cell aa.out 0).trans rfl, (blk_cell aa.out 1).trans rfl, (blk_cell aa.out 2).trans rfl, (blk_cell aa.out 3).trans rfl, ((HB.out.cell (World.block_lt_of_cell? w _ ah)).trans ah), ((HB.out.cell (World.block_lt_of_cell? w _ al)).trans al)⟩ (fun hHeld => ?_); refine with_tabW spec_l05Most.tab7 spec_l05Most.bits7 (fun HT_ HW_ => ?_)
            generalize wr.drew = w23 at aa HB ag ai hHeld ⊢
            refine zu 0 (some 28) #[tt, ff, ff, ff, ff, ff, ff, ff, ff, ff, ff, ff, ff, ff] (any_of HT_.out (by kernel_rfl)) ?_
            refine zu 1 (some 29) #[tt, tt, ff, ff, ff, ff, ff, ff, ff, ff, ff, ff, ff, ff] (any_of HT_.out (by kernel_rfl)) ?_
            refine zu 2 (some 30) #[tt, tt, tt, ff, ff, ff, ff, ff, ff, ff, ff, ff, ff, ff] (any_of HT_.out (by kernel_rfl)) ?_
            refine zt 3 (some 31) #[tt, tt, tt, tt, ff, ff, ff, ff, ff, ff, ff, ff, ff, ff] (take_ofW HT_.out HW_.out (by kernel_rfl)) hHeld ?_
            refine zu 4 (some 32) #[tt, tt, tt, tt, tt, ff, ff, ff, ff, ff, ff, ff, ff, ff] (any_of HT_.out (by kernel_rfl)) ?_
            refine zu 5 (some 33) #[tt, tt, tt, tt, tt, tt, ff, ff, ff, ff, ff, ff, ff, ff] (any_of HT_.out (by kernel_rfl)) ?_
            refine zu 7 (some 35) #[tt, tt, tt, tt, tt, tt, ff, tt, ff, ff, ff, ff, ff, ff] (any_of HT_.out (by kernel_rfl)) ?_
            refine zu 8 (some 36) #[tt, tt, tt, tt, tt, tt, ff, tt, tt, ff, ff, ff, ff, ff] (any_of HT_.out (by kernel_rfl)) ?_
            refine zu 9 (some 37) #[tt, tt, tt, tt, tt, tt, ff, tt, tt, tt, ff, ff, ff, ff] (any_of HT_.out (by kernel_rfl)) ?_
            refine zu 11 (some 39) #[tt, tt, tt, tt, tt, tt, ff, tt, tt, tt, ff, tt, ff, ff] (any_of HT_.out (by kernel_rfl)) ?_
            refine zt 6 (some 34) #[tt, tt, tt, tt, tt, tt, tt, tt, tt, tt, ff, tt, ff, ff] (take_ofW HT_.out HW_.out (by kernel_rfl)) hHeld ?_
            refine zt 10 (some 38) #[tt, tt, tt, tt, tt, tt, tt, tt, tt, tt, tt, tt, ff, ff] (take_ofW HT_.out HW_.out (by kernel_rfl)) hHeld ?_
            refine one_ (i := 12) (N := some 40) #[tt, tt, tt, tt, tt, tt, tt, tt, tt, tt, tt, tt, tt, ff] rfl rfl (one_of HT_.out (by kernel_rfl)) (by decide) (fun K hK => ?_)
            refine goes_ Try.func91 (by kernel_rfl) rfl #[.agg #[.slice an ac.length ao, .int .i64 a0_1, .slice ap ad.length aq, .slice ar ae.length au], .int .i64 (rd l1 a2), .int .i64 ab] (by rfl) rfl rfl zg ?_
            with_reducible refine (spec_l05Wants.calls k1 _ _ ac a0_1 _ _ ad _ _ ae (rd l1 a2) ab true _ ?side1 ?side2 ?side3 ?side4 ?side5 ?side6 A16.out).mono ?_
            (case side1 => exact zs (Kd.C_below aN.out HB.out))
            (case side2 => exact aP.out)
            (case side3 => exact zs (Kd.C_below aQ.out HB.out))
            (case side4 => exact aT.out)
            (case side5 => exact zs (Kd.C_below aU.out HB.out))
            (case side6 => exact aV.out)
            rintro e w24 ⟨rfl, hb⟩
            refine ⟨_, rfl, ?_⟩
            have av := zK (blk_below (g := af) (o := .cells #[.slice an ac.length ao, .int .i64 a0_1, .slice ap ad.length aq, .slice ar ae.length au] 28 (0, 0)) (zk aa) hb)
            have aw := zK (below_step (zb HB) hb)
            clear aa HB; have aa := av; have HB := aw; clear av aw; (try clear hb); (try clear hb2); (try clear hk); (try clear hi)
            refine hK.out _ _ ⟨(blk_cell aa.out 0).trans rfl, (blk_cell aa.out 1).trans rfl, (blk_cell aa.out 2).trans rfl, (blk_cell aa.out 3).trans rfl, ((HB.out.cell (World.block_lt_of_cell? w _ ah)).trans ah), ((HB.out.cell (World.block_lt_of_cell? w _ al)).trans al)⟩ (fun hHeld => ?_)
            clear hK K
            refine norm_ (a' := ?_) ?_ ?_
            rotate_left
            ·show Act.put _ (some 40) _ = _
             simp only [Act.put, zp, zq, zr, i64_w, i32_w]
             rfl
            refine zu 13 (some 41) #[tt, tt, tt, tt, tt, tt, tt, tt, tt, tt, tt, tt, tt, tt] (any_of HT_.out (by kernel_rfl)) ?_
            refine done_ (done_of HT_.out (by kernel_rfl)) ?_
            try go_wp2_with (first | ((with_reducible refine gate_dst (N := 42) rfl ?_); refine Kd.R_lit (Kd.int .i64) _ 3 ?hg (N := 42) ?hd (xs := ([] : List Int)) (inner := []) (ok := fun _ => True) (okp := fun _ => True) ?hr ?hp (fun _ hk => hk) trivial (Below.refl _ _) (Nat.le_refl _) (by simp) ?_; (case hd => rfl); (case hg => rfl); (case hr => first | (go_simp; done) | (go_simp; rfl)); (case hp => exact (Reps.none _ _)); intro v388 w25 ho26 hb hg_ hnew_; clear hg_ hnew_; (first | rw [← Ny387.out] at ho26 | (simp only [Int.reduceToNat] at ho26; rw [← Ny387.out] at ho26)); have av := zK (Kd.R_lower ho26 (below_size (zb HB))); have aw := zK (blk_below (g := af) (o := .cells #[.slice an ac.length ao, .int .i64 a0_1, .slice ap ad.length aq, .slice ar ae.length au] 28 (0, 0)) (zk aa) hb); have aE := zK (below_step (zb HB) hb); clear aa; clear HB; have a4 := av; have aa := aw; have HB := aE; clear av aw aE; clear hb ho26) | ((with_reducible refine gate_builtin (b := .append) (xs := #[.tmp 42, .tmp 43]) rfl ?_); at_builtin; refine Kd.R_append_rows (Kd.int .i64) (w0 := w) w.heap.size rfl (.tmp 42) (.tmp 43) 24 3 (.int .i64 0) 8 rfl Try.underlying24 info3 rfl (by decide) (by omega) v388 az l3 _ _ _ (fun _ => True) (fun _ => False) rfl rfl ?aO ?aR (fun _ _ h => h) (fun _ h => h.elim) ?aF ?aB ?aS ?aL ?_; (case aR => repeat (first | exact (Kd.C_below bo.out HB.out) | (with_reducible refine Kd.C_alloc ?_ _) | (with_reducible refine Kd.C_drewN ?_ _) | (with_reducible refine Kd.C_drew ?_))); (case aB => exact (zb HB)); (case aF => exact (fun _ _ => trivial)); (case aO => exact (zR a4)); (case aS => exact (below_size (zb HB))); (case aL => have := bx.out; omega); intro v391 w27 ho hb hg hat; rw [← Ny390.out] at ho; have av := zK (blk_grown (g := af) (o := .cells #[.slice an ac.length ao, .int .i64 a0_1, .slice ap ad.length aq, .slice ar ae.length au] 28 (0, 0)) (zk aa) hg (Kd.R_ne a4.out aa.out (by decide))); have aw := zK (hb); have aE := zK (ho); clear aa; clear HB; clear a4; have aa := av; have HB := aw; have ak := aE; clear av aw aE; clear ho hb hg hat; obtain ⟨Ao28, bA, eo28⟩ := Kd.R_slice ak.out; subst eo28; have bi : 0 ≤ (ab : Int) := zd; have bj : ab < (aj.length : Int) := zd; obtain ⟨ad393, e393, a5⟩ := Kd.at_int (Kd.R_reads' ak.out).2.2 ab bi bj; cases e393; replace bi := eq_true bi; replace bj := eq_true bj; have p20 : 0 ≤ (ab : Int) := zd; have q20 : (ab : Int) < ((aj.length : Int) : Int) := zd; obtain ⟨a6, co20, bB, bC, gl20, cl20, bD⟩ := Kd.R_form ak.out (by omega); (first | cases bB | (injection bB with ea_ en_ ec_; (first | subst ea_ | (injection ea_ with ea_; subst ea_)); subst ec_; clear en_)); have GB20 := zK bC; have GG20 := zK bD; clear bC gl20 bD; (first | simp only [add_plain] at a5 | skip); obtain ⟨hx20_0, hf20_0⟩ := Kd.R_celln 0 ak.out (ab : Int) p20 q20; replace p20 := eq_true p20; replace q20 := eq_true q20; obtain ⟨hy29_, hz29_⟩ := Kd.R_celln 0 ak.out (ab : Int) (zd) (zd); have bk := Kd.R_putg ak.out (ab : Int) (wrap64 ((rd aj ab) - 1))) | ((with_reducible refine gate_store (t := 3) (p := 52) rfl ?_); refine store_event (t := 3) (p := 52) (v := ?vo_w30) (w1 := (w27.setCell ⟨a6, (ab : Int).toNat, none⟩ (.int .i64 (wrap64 ((rd aj ab) - 1))))) ?hg ?ho ?hn ?hr ?_; (case ho => rfl); (case hg => rfl); (case hn => rfl); (case hr => first | (go_simp; done) | (go_simp; rfl)); intro bl hw; have hg : w27.grownBy bl (some a6) := (by rw [hw]; exact bk.2); have hp_ : Kd.R (Kd.int .i64) 3 bl w.heap.size (fun _ => True) (.slice (some ⟨a6, 0, none⟩) aj.length bA) aX := (by rw [hw, Ny394.out]; exact bk.1); clear bk; have av := zK (blk_grown (g := af) (o := .cells #[.slice an ac.length ao, .int .i64 a0_1, .slice ap ad.length aq, .slice ar ae.length au] 28 (0, 0)) (zk aa) hg (Kd.R_ne ak.out aa.out (by decide))); have aw := zK (hp_); have aE := zK ((by rw [hw]; exact zS (HB.out) GB20.out : Below w.heap.size w bl)); clear aa; clear ak; clear HB; have aa := av; have ak := aw; have HB := aE; clear av aw aE; clear hg hw hp_; have hcz31_0 : bl.cell? ⟨af, 0, none⟩ = some (.slice an ac.length ao) := (blk_cell aa.out 0).trans rfl; have hcz31_1 : bl.cell? ⟨af, 1, none⟩ = some (.int .i64 a0_1) := (blk_cell aa.out 1).trans rfl; have hcz31_2 : bl.cell? ⟨af, 2, none⟩ = some (.slice ap ad.length aq) := (blk_cell aa.out 2).trans rfl; have hcz31_3 : bl.cell? ⟨af, 3, none⟩ = some (.slice ar ae.length au) := (blk_cell aa.out 3).trans rfl; have hfz31_0 := blk_frozen aa.out 0; have hfz31_1 := blk_frozen aa.out 1; have hfz31_2 := blk_frozen aa.out 2; have hfz31_3 := blk_frozen aa.out 3) | ((with_reducible refine gate_callee (f := 61) rfl ?_); refine goesL_ (some 59) rfl rfl Try.func61 (by kernel_rfl) rfl #[.agg #[.slice an ac.length ao, .int .i64 a0_1, .slice ap ad.length aq, .slice ar ae.length au], .slice (some aW) l1.length c1, .int .i64 (wrap64 (a2 + 1)), .slice (some ⟨a6, 0, none⟩) aX.length bA] rfl (by (try simp only [List.map_toArray, List.map_cons, List.map_nil]); first | done | (rw [show aX.length = aj.length from (Kd.R_reads' ak.out).1.symm] <;> rfl) | rfl | (simp only [List.length_drop, List.length_take]; rfl)) ?_; (with_reducible refine (ih k1 (by have := bf.out; omega) _ _ ac a0_1 _ _ ad _ _ ae _ _ l1 (wrap64 (a2 + 1)) _ _ aX ay _ ?side1 ?side2 ?side3 ?side4 ?side5 ?side6 ?side7 ?side8 ?side9 ?side10 A21.out).mono ?_); (case side1 => exact zs (Kd.C_below aN.out HB.out)); (case side2 => exact aP.out); (case side3 => exact zs (Kd.C_below aQ.out HB.out)); (case side4 => exact aT.out); (case side5 => exact zs (Kd.C_below aU.out HB.out)); (case side6 => exact aV.out); (case side7 => exact zs (Kd.C_below HR1.out HB.out)); (case side8 => exact HC1.out); (case side9 => exact zs (Kd.R_reads' ak.out).2.2); (case side10 => rw [show aX.length = aj.length from (Kd.R_reads' ak.out).1.symm]; exact (Kd.R_reads' ak.out).2.1); rintro e w32 ⟨rfl, hb⟩; refine ⟨_, rfl, ?_⟩; have av := zK (Kd.R_below (zR ak) hb); have aw := zK (blk_below (g := af) (o := .cells #[.slice an ac.length ao, .int .i64 a0_1, .slice ap ad.length aq, .slice ar ae.length au] 28 (0, 0)) (zk aa) hb); have aE := zK (below_step (zb HB) hb); clear ak; clear aa; clear HB; have ak := av; have aa := aw; have HB := aE; clear av aw aE; (try clear hb); (try clear hk)))
            go_roundg k1
            case measure => have := bf.out; omega
            case rel => exact ⟨(bg), (wrap64 (ab + 1)), (by first | rfl | (simp; done) | (simp only [← aD] <;> (first | rfl | simp)) | (simp [*]; done)), zf, H', ⟨by have := bf.out; omega⟩, ⟨zk aa⟩, ⟨zb HB⟩⟩
           ·rw [if_neg c19] at H
            exact absurd H (by simp)
          ·rw [if_neg c18] at H
           exact absurd H (by simp)
         ·replace c17 := Bool.eq_false_iff.mpr c17
          subst c17
          have H1 : (spec_l05Most.l0 k1 l1 a2 l3 ax (wrap64 (ab + 1)) ac a0_1 ad ae) = some r := by rw [if_neg (show ¬ (false = true) by decide)] at H; exact H
          clear H; have H := H1; clear H1; have H' := zK H; clear H
          try go_wp2
          have av := zK (zD aa.out)
          have aw := zK (zE HB.out)
          clear aa HB; have aa := av; have HB := aw; clear av aw
          have aA : 0 ≤ (ab : Int) := zd
          have aC : ab < (l3.length : Int) := zd
          obtain ⟨aJ, a3, ag⟩ := Kd.at_int bo.out ab aA aC
          have ah := ag
          cases a3
          replace ag := (HB.out.cell (World.block_lt_of_cell? w _ ag)).trans ag
          replace aA := eq_true aA; replace aC := eq_true aC
          have aK : 0 ≤ (a2 : Int) := zd
          have aM : a2 < (l1.length : Int) := zd
          obtain ⟨aW, bh, ai⟩ := Kd.at_int HR1.out a2 aK aM
          have al := ai
          cases bh
          replace ai := (HB.out.cell (World.block_lt_of_cell? w _ ai)).trans ai
          replace aK := eq_true aK; replace aM := eq_true aM
          refine start_ (n := 14) (S := fun w' => w'.cell? ⟨af, 0, none⟩ = some (.slice an ac.length ao) ∧ w'.cell? ⟨af, 1, none⟩ = some (.int .i64 a0_1) ∧ w'.cell? ⟨af, 2, none⟩ = some (.slice ap ad.length aq) ∧ w'.cell? ⟨af, 3, none⟩ = some (.slice ar ae.length au) ∧ w'.cell? (aJ.add (ab).toNat) = some (.int .i64 (rd l3 ab)) ∧ w'.cell? (aW.add (a2).toNat) = some (.int .i64 (rd l1 a2))) (ds := []) #[ff, ff, ff, ff, ff, ff, ff, ff, ff, ff, ff, ff, ff, ff] (by kernel_rfl) rfl rfl ⟨(blk_cell aa.out 0).trans rfl, (blk_cell aa.out 1).trans rfl, (blk_cell aa.out 2).trans rfl, (blk_cell aa.out 3).trans rfl, ((HB.out.cell (World.block_lt_of_cell? w _ ah)).trans ah), ((HB.out.cell (World.block_lt_of_cell? w _ al)).trans al)⟩ (fun hHeld => ?_); refine with_tabW spec_l05Most.tab7 spec_l05Most.bits7 (fun HT_ HW_ => ?_)
          generalize wr.drew = w33 at aa HB ag ai hHeld ⊢
          refine zu 0 (some 28) #[tt, ff, ff, ff, ff, ff, ff, ff, ff, ff, ff, ff, ff, ff] (any_of HT_.out (by kernel_rfl)) ?_
          refine zu 1 (some 29) #[tt, tt, ff, ff, ff, ff, ff, ff, ff, ff, ff, ff, ff, ff] (any_of HT_.out (by kernel_rfl)) ?_
          refine zu 2 (some 30) #[tt, tt, tt, ff, ff, ff, ff, ff, ff, ff, ff, ff, ff, ff] (any_of HT_.out (by kernel_rfl)) ?_
          refine zt 3 (some 31) #[tt, tt, tt, tt, ff, ff, ff, ff, ff, ff, ff, ff, ff, ff] (take_ofW HT_.out HW_.out (by kernel_rfl)) hHeld ?_
          refine zu 4 (some 32) #[tt, tt, tt, tt, tt, ff, ff, ff, ff, ff, ff, ff, ff, ff] (any_of HT_.out (by kernel_rfl)) ?_
          refine zu 5 (some 33) #[tt, tt, tt, tt, tt, tt, ff, ff, ff, ff, ff, ff, ff, ff] (any_of HT_.out (by kernel_rfl)) ?_
          refine zu 7 (some 35) #[tt, tt, tt, tt, tt, tt, ff, tt, ff, ff, ff, ff, ff, ff] (any_of HT_.out (by kernel_rfl)) ?_
          refine zu 8 (some 36) #[tt, tt, tt, tt, tt, tt, ff, tt, tt, ff, ff, ff, ff, ff] (any_of HT_.out (by kernel_rfl)) ?_
          refine zu 9 (some 37) #[tt, tt, tt, tt, tt, tt, ff, tt, tt, tt, ff, ff, ff, ff] (any_of HT_.out (by kernel_rfl)) ?_
          refine zu 11 (some 39) #[tt, tt, tt, tt, tt, tt, ff, tt, tt, tt, ff, tt, ff, ff] (any_of HT_.out (by kernel_rfl)) ?_
          refine zt 6 (some 34) #[tt, tt, tt, tt, tt, tt, tt, tt, tt, tt, ff, tt, ff, ff] (take_ofW HT_.out HW_.out (by kernel_rfl)) hHeld ?_
          refine zt 10 (some 38) #[tt, tt, tt, tt, tt, tt, tt, tt, tt, tt, tt, tt, ff, ff] (take_ofW HT_.out HW_.out (by kernel_rfl)) hHeld ?_
          refine one_ (i := 12) (N := some 40) #[tt, tt, tt, tt, tt, tt, tt, tt, tt, tt, tt, tt, tt, ff] rfl rfl (one_of HT_.out (by kernel_rfl)) (by decide) (fun K hK => ?_)
          refine goes_ Try.func91 (by kernel_rfl) rfl #[.agg #[.slice an ac.length ao, .int .i64 a0_1, .slice ap ad.length aq, .slice ar ae.length au], .int .i64 (rd l1 a2), .int .i64 ab] (by rfl) rfl rfl zg ?_
          with_reducible refine (spec_l05Wants.calls k1 _ _ ac a0_1 _ _ ad _ _ ae (rd l1 a2) ab false _ ?side1 ?side2 ?side3 ?side4 ?side5 ?side6 A16.out).mono ?_
          (case side1 => exact zs (Kd.C_below aN.out HB.out))
          (case side2 => exact aP.out)
          (case side3 => exact zs (Kd.C_below aQ.out HB.out))
          (case side4 => exact aT.out)
          (case side5 => exact zs (Kd.C_below aU.out HB.out))
          (case side6 => exact aV.out)
          rintro e w34 ⟨rfl, hb⟩
          refine ⟨_, rfl, ?_⟩
          have av := zK (blk_below (g := af) (o := .cells #[.slice an ac.length ao, .int .i64 a0_1, .slice ap ad.length aq, .slice ar ae.length au] 28 (0, 0)) (zk aa) hb)
          have aw := zK (below_step (zb HB) hb)
          clear aa HB; have aa := av; have HB := aw; clear av aw; (try clear hb); (try clear hb2); (try clear hk); (try clear hi)
          refine hK.out _ _ ⟨(blk_cell aa.out 0).trans rfl, (blk_cell aa.out 1).trans rfl, (blk_cell aa.out 2).trans rfl, (blk_cell aa.out 3).trans rfl, ((HB.out.cell (World.block_lt_of_cell? w _ ah)).trans ah), ((HB.out.cell (World.block_lt_of_cell? w _ al)).trans al)⟩ (fun hHeld => ?_)
          clear hK K
          refine norm_ (a' := ?_) ?_ ?_
          rotate_left
          ·show Act.put _ (some 40) _ = _
           simp only [Act.put, zp, zq, zr, i64_w, i32_w]
           rfl
          refine zu 13 (some 41) #[tt, tt, tt, tt, tt, tt, tt, tt, tt, tt, tt, tt, tt, tt] (any_of HT_.out (by kernel_rfl)) ?_
          refine done_ (done_of HT_.out (by kernel_rfl)) ?_
          try go_wp2
          go_roundg k1
          case measure => have := bf.out; omega
          case rel => exact ⟨(ax), (wrap64 (ab + 1)), zf, zf, H', ⟨by have := bf.out; omega⟩, ⟨zk aa⟩, ⟨zb HB⟩⟩
        ·rw [if_neg c15] at H
         exact absurd H (by simp)
       ·rw [if_neg c14] at H
        exact absurd H (by simp)
      ·rw [if_neg bn] at H
       have bu : decide (0 < (rd l3 ab)) = false := decide_eq_false bn
       clear bn; have H' := zK H; clear H
       try go_wp2
       have av := zK (zD aa.out)
       have aw := zK (zE HB.out)
       clear aa HB; have aa := av; have HB := aw; clear av aw
       have aA : 0 ≤ (ab : Int) := zd
       have aC : ab < (l3.length : Int) := zd
       obtain ⟨aJ, a3, ag⟩ := Kd.at_int bo.out ab aA aC
       have ah := ag
       cases a3
       replace ag := (HB.out.cell (World.block_lt_of_cell? w _ ag)).trans ag
       replace aA := eq_true aA; replace aC := eq_true aC
       refine start_ (n := 14) (S := fun w' => w'.cell? (aJ.add (ab).toNat) = some (.int .i64 (rd l3 ab))) (ds := []) #[ff, ff, ff, ff, ff, ff, ff, ff, ff, ff, ff, ff, ff, ff] (by kernel_rfl) rfl rfl (((HB.out.cell (World.block_lt_of_cell? w _ ah)).trans ah)) (fun hHeld => ?_); refine with_tabW spec_l05Most.tab7 spec_l05Most.bits7 (fun HT_ HW_ => ?_)
       generalize wr.drew = w35 at aa HB ag hHeld ⊢
       refine zu 0 (some 28) #[tt, ff, ff, ff, ff, ff, ff, ff, ff, ff, ff, ff, ff, ff] (any_of HT_.out (by kernel_rfl)) ?_
       refine zu 1 (some 29) #[tt, tt, ff, ff, ff, ff, ff, ff, ff, ff, ff, ff, ff, ff] (any_of HT_.out (by kernel_rfl)) ?_
       refine zu 2 (some 30) #[tt, tt, tt, ff, ff, ff, ff, ff, ff, ff, ff, ff, ff, ff] (any_of HT_.out (by kernel_rfl)) ?_
       refine zt 3 (some 31) #[tt, tt, tt, tt, ff, ff, ff, ff, ff, ff, ff, ff, ff, ff] (take_ofW HT_.out HW_.out (by kernel_rfl)) hHeld ?_
       refine zu 4 (some 32) #[tt, tt, tt, tt, tt, ff, ff, ff, ff, ff, ff, ff, ff, ff] (any_of HT_.out (by kernel_rfl)) ?_
       refine zu 5 (some 33) #[tt, tt, tt, tt, tt, tt, ff, ff, ff, ff, ff, ff, ff, ff] (any_of HT_.out (by kernel_rfl)) ?_
       refine pure_ (i := 6) (N := some 34) (v := undef) (a' := ?_) #[tt, tt, tt, tt, tt, tt, tt, ff, ff, ff, ff, ff, ff, ff] rfl rfl (any_of HT_.out (by kernel_rfl)) (fun _ _ _ h => h) (Or.inr ⟨by rfl, rfl⟩) ?_ ?_
       rotate_left
       ·simp only [Act.put, zp, zq, zr, i64_w, i32_w]
        rfl
       refine pure_ (i := 7) (N := some 35) (v := undef) (a' := ?_) #[tt, tt, tt, tt, tt, tt, tt, tt, ff, ff, ff, ff, ff, ff] rfl rfl (any_of HT_.out (by kernel_rfl)) (fun _ _ _ h => h) (Or.inr ⟨by rfl, rfl⟩) ?_ ?_
       rotate_left
       ·simp only [Act.put, zp, zq, zr, i64_w, i32_w]
        rfl
       refine pure_ (i := 8) (N := some 36) (v := undef) (a' := ?_) #[tt, tt, tt, tt, tt, tt, tt, tt, tt, ff, ff, ff, ff, ff] rfl rfl (any_of HT_.out (by kernel_rfl)) (fun _ _ _ h => h) (Or.inr ⟨by rfl, rfl⟩) ?_ ?_
       rotate_left
       ·simp only [Act.put, zp, zq, zr, i64_w, i32_w]
        rfl
       refine pure_ (i := 9) (N := some 37) (v := undef) (a' := ?_) #[tt, tt, tt, tt, tt, tt, tt, tt, tt, tt, ff, ff, ff, ff] rfl rfl (any_of HT_.out (by kernel_rfl)) (fun _ _ _ h => h) (Or.inr ⟨by rfl, rfl⟩) ?_ ?_
       rotate_left
       ·simp only [Act.put, zp, zq, zr, i64_w, i32_w]
        rfl
       refine pure_ (i := 10) (N := some 38) (v := undef) (a' := ?_) #[tt, tt, tt, tt, tt, tt, tt, tt, tt, tt, tt, ff, ff, ff] rfl rfl (any_of HT_.out (by kernel_rfl)) (fun _ _ _ h => h) (Or.inr ⟨by rfl, rfl⟩) ?_ ?_
       rotate_left
       ·simp only [Act.put, zp, zq, zr, i64_w, i32_w]
        rfl
       refine pure_ (i := 11) (N := some 39) (v := undef) (a' := ?_) #[tt, tt, tt, tt, tt, tt, tt, tt, tt, tt, tt, tt, ff, ff] rfl rfl (any_of HT_.out (by kernel_rfl)) (fun _ _ _ h => h) (Or.inr ⟨by rfl, rfl⟩) ?_ ?_
       rotate_left
       ·simp only [Act.put, zp, zq, zr, i64_w, i32_w]
        rfl
       refine pure_ (i := 12) (N := some 40) (v := undef) (a' := ?_) #[tt, tt, tt, tt, tt, tt, tt, tt, tt, tt, tt, tt, tt, ff] rfl rfl (any_of HT_.out (by kernel_rfl)) (fun _ _ _ h => h) (Or.inr ⟨by rfl, rfl⟩) ?_ ?_
       rotate_left
       ·simp only [Act.put, zp, zq, zr, i64_w, i32_w]
        rfl
       refine zu 13 (some 41) #[tt, tt, tt, tt, tt, tt, tt, tt, tt, tt, tt, tt, tt, tt] (any_of HT_.out (by kernel_rfl)) ?_
       refine done_ (done_of HT_.out (by kernel_rfl)) ?_
       try go_wp2
       go_roundg k1
       case measure => have := bf.out; omega
       case rel => exact ⟨(ax), (wrap64 (ab + 1)), zf, zf, H', ⟨by have := bf.out; omega⟩, ⟨zk aa⟩, ⟨zb HB⟩⟩
     ·rw [if_neg c12] at H
      exact absurd H (by simp)
    ·rw [if_neg bm] at H
     have bs : decide (ab < (l3.length : Int)) = false := decide_eq_false bm
     clear bm; obtain rfl := Option.some.inj H
     go_wp2
     go_ret
     exact ⟨ze, zb HB⟩
mutual
def spec_MostSorted.l0 : Nat → List Int → Int → List Int → Int → List (S69) → List (S74) → Option (Int)
 | 0, _, _, _, _, _, _ => none
 | k + 1, x3, x4, x397000, x397001, x397002, x397003 => if x4 < (x397000.length : Int) then (if 0 ≤ x4 then (if (rd x397000 x4) = 0 then (spec_MostSorted.l0 k x3 (wrap64 (x4 + 1)) x397000 x397001 x397002 x397003) else (if x3.length < 17592186044416 then (spec_MostSorted.l0 k (x3 ++ [rd x397000 x4]) (wrap64 (x4 + 1)) x397000 x397001 x397002 x397003) else (none))) else (none)) else (if (x3.length : Int) > 7 then (some (-1)) else (spec_MostSorted.l1 k x3 (([] : List Int)) 0 x397000 x397001 x397002 x397003))
def spec_MostSorted.l1 : Nat → List Int → List Int → Int → List Int → Int → List (S69) → List (S74) → Option (Int)
 | 0, _, _, _, _, _, _, _ => none
 | k + 1, x3, x5, x6, x397000, x397001, x397002, x397003 => if x6 < (x397002.length : Int) then (if 0 ≤ x6 then (if x5.length < 17592186044416 then (spec_MostSorted.l1 k x3 (x5 ++ [wrap64 (((rd_T69 x397002 x6).f1) - (((rd_T69 x397002 x6).f2).length : Int))]) (wrap64 (x6 + 1)) x397000 x397001 x397002 x397003) else (none)) else (none)) else ((spec_l05Most.f k x397000 x397001 x397002 x397003 x3 0 x5).bind fun t414 => (some t414))
end
def spec_MostSorted.f (k : Nat) (l0_0 : List Int) (a0_1 : Int) (l0_2 : List (S69)) (l0_3 : List (S74)) : Option (Int) := (spec_LoopOk.f k l0_0 a0_1 l0_2 l0_3).bind fun t397 => (if t397 = true then (spec_MostSorted.l0 k (([] : List Int)) 0 l0_0 a0_1 l0_2 l0_3) else (some (-1)))
def spec_MostSorted.T15 : Bool × List (List Nat × List Nat) := (true, [([], []), ([], []), ([1], [1]), ([], []), ([2, 3], [2, 3]), ([4], [4]), ([5], [5]), ([], []), ([7], [7]), ([], []), ([8, 9], [8, 9]), ([10], [10]), ([11], [11]), ([12], [12]), ([6, 13], [6, 13]), ([14], [14]), ([0, 15], [0, 15]), ([16, 16, 0, 1, 2, 3, 4, 5, 6, 7, 8, 9, 10, 11, 12, 13, 14, 15, 16], [0, 16])])
def spec_MostSorted.B15 : List Nat := [0, 0, 2, 0, 14, 30, 62, 0, 128, 0, 896, 1920, 3968, 8064, 16382, 32766, 65535, 131071]
theorem spec_MostSorted.tab15 : rtab .any (opsOf Try.f22 15) = spec_MostSorted.T15 := by kernel_rfl
theorem spec_MostSorted.bits15 : waitsOk spec_MostSorted.T15.2 spec_MostSorted.B15 = true := by kernel_rfl
set_option maxHeartbeats 8000000 in
set_option maxRecDepth 100000 in
theorem spec_MostSorted.calls (k : Nat) (an : Option Addr) (aj : Nat) (ad : List Int) (a0_1 : Int) (ao : Option Addr) (ak : Nat) (ac : List (S69)) (al : Option Addr) (am : Nat) (ae : List (S74)) (r : Int) (w : World) (bp : Kd.C (Kd.int .i64) w an ad.length ad) (hc0_0 : ad.length ≤ aj) (bq : Kd.C k69 w ao ac.length ac) (hc0_2 : ac.length ≤ ak) (br : Kd.C k74 w al ae.length ae) (hc0_3 : ae.length ≤ am) (h : spec_MostSorted.f k ad a0_1 ac ae = some r) :
  Calls Try.prog 22 #[.agg #[.slice an ad.length aj, .int .i64 a0_1, .slice ao ac.length ak, .slice al ae.length am]] w fun e w' => e = .returned (.int .i64 r) ∧ Below w.heap.size w w' := by
 have hu28 := Try.underlying28; have aN := zK bp; have a5 := zK hc0_0; clear bp hc0_0; have aR := zK bq; have a6 := zK hc0_2; clear bq hc0_2; have a7 := zK br; have a8 := zK hc0_3; clear br hc0_3
 have HB := zK (Below.refl w.heap.size w)
 have H : ((spec_LoopOk.f k ad a0_1 ac ae).bind fun bc => (if bc = true then (spec_MostSorted.l0 k (([] : List Int)) 0 ad a0_1 ac ae) else (some (-1)))) = some r := h
 clear h; replace H := Option.bind_eq_some_iff.mp H
 obtain ⟨bc, A20, H⟩ := H
 replace H : (if bc = true then (spec_MostSorted.l0 k (([] : List Int)) 0 ad a0_1 ac ae) else (some (-1))) = some r := H
 have A2 := zK A20; clear A20
 by_cases c3 : bc = true
 ·subst c3
  have H1 : (spec_MostSorted.l0 k (([] : List Int)) 0 ad a0_1 ac ae) = some r := by rw [if_pos rfl] at H; exact H
  clear H; have H := H1; clear H1
  obtain ⟨bP, aT⟩ : ∃ y_ : List Int, y_ = (([] : List Int)) := ⟨_, rfl⟩
  replace H : (spec_MostSorted.l0 k bP 0 ad a0_1 ac ae) = some r := by first | (rw [aT]; with_reducible exact H) | (have H2_ := (Option.bind_some _ _).symm.trans H; rw [aT]; with_reducible exact H2_) | (have H2_ := (Option.bind_some _ _).symm.trans H; with_reducible exact H2_) | with_reducible exact H | (rw [aT]; exact H) | exact H
  have Ny398 := zK aT; clear aT; have H' := zK H; clear H
  go_enter Try.func22, Try.ntmps22
  go_wp2_with (first | ((with_reducible refine gate_dst (N := 1) rfl ?_); refine zX 1 #[.slice an ad.length aj, .int .i64 a0_1, .slice ao ac.length ak, .slice al ae.length am] 28 ?_; intro ab hg w4 hbox hb; have aD := zK (below_step (zb HB) hb); have aE := zK (hbox); have aM := zK ((by rw [hg]; exact (below_size (zb HB)) : w.heap.size ≤ ab)); have aU := zK ((by rw [hg]; exact (below_size (zb HB)) : w.heap.size ≤ ab)); clear HB; have HB := aD; have aa := aE; have bQ := aM; have ag := aU; clear aD aE aM aU; clear hb hbox hg; have bv : w4.cell? ⟨ab, 0, none⟩ = some (.slice an ad.length aj) := (blk_cell aa.out 0).trans rfl; have bw : w4.cell? ⟨ab, 1, none⟩ = some (.int .i64 a0_1) := (blk_cell aa.out 1).trans rfl; have bx : w4.cell? ⟨ab, 2, none⟩ = some (.slice ao ac.length ak) := (blk_cell aa.out 2).trans rfl; have bz : w4.cell? ⟨ab, 3, none⟩ = some (.slice al ae.length am) := (blk_cell aa.out 3).trans rfl; have bA := blk_frozen aa.out 0; have bB := blk_frozen aa.out 1; have bC := blk_frozen aa.out 2; have bD := blk_frozen aa.out 3) | ((with_reducible refine gate_callee (f := 23) rfl ?_); refine goesL_ (some 8) rfl rfl Try.func23 (by kernel_rfl) rfl #[.agg #[.slice an ad.length aj, .int .i64 a0_1, .slice ao ac.length ak, .slice al ae.length am]] rfl zg ?_; (with_reducible refine (spec_LoopOk.calls k _ _ ad a0_1 _ _ ac _ _ ae true _ ?side1 ?side2 ?side3 ?side4 ?side5 ?side6 A2.out).mono ?_); (case side1 => exact zs (Kd.C_below aN.out HB.out)); (case side2 => exact a5.out); (case side3 => exact zs (Kd.C_below aR.out HB.out)); (case side4 => exact a6.out); (case side5 => exact zs (Kd.C_below a7.out HB.out)); (case side6 => exact a8.out); rintro e w6 ⟨rfl, hb⟩; refine ⟨_, rfl, ?_⟩; have aD := zK (blk_below (g := ab) (o := .cells #[.slice an ad.length aj, .int .i64 a0_1, .slice ao ac.length ak, .slice al ae.length am] 28 (0, 0)) (zk aa) hb); have aE := zK (below_step (zb HB) hb); clear aa; clear HB; have aa := aD; have HB := aE; clear aD aE; (try clear hb); (try clear hk)) | ((with_reducible refine gate_dst (N := 10) rfl ?_); refine Kd.R_lit (Kd.int .i64) _ 3 ?hg (N := 10) ?hd (xs := ([] : List Int)) (inner := []) (ok := fun _ => True) (okp := fun _ => True) ?hr ?hp (fun _ hk => hk) trivial (Below.refl _ _) (Nat.le_refl _) (by simp) ?_; (case hd => rfl); (case hg => rfl); (case hr => first | (go_simp; done) | (go_simp; rfl)); (case hp => exact (Reps.none _ _)); intro v399 w7 ho8 hb hg_ hnew_; clear hg_ hnew_; (first | rw [← Ny398.out] at ho8 | (simp only [Int.reduceToNat] at ho8; rw [← Ny398.out] at ho8)); have aD := zK (Kd.R_lower ho8 (below_size (zb HB))); have aE := zK (blk_below (g := ab) (o := .cells #[.slice an ad.length aj, .int .i64 a0_1, .slice ao ac.length ak, .slice al ae.length am] 28 (0, 0)) (zk aa) hb); have aM := zK (below_step (zb HB) hb); clear aa; clear HB; have bR := aD; have aa := aE; have HB := aM; clear aD aE aM; clear hb ho8))
  go_loopg [3, 4] k (fun kq v3 v4 w' => ∃ (ax : List Int) (ah : Int), v4 = .int .i64 ah ∧ Aside0 (spec_MostSorted.l0 kq ax ah ad a0_1 ac ae = some r) ∧ Aside0 (kq ≤ k) ∧ Aside0 (Kd.R (Kd.int .i64) 3 w' w.heap.size (fun _ => True) v3 ax) ∧ Aside0 (w'.heap[ab]? = some (.cells #[(.slice an ad.length aj), .int .i64 a0_1, (.slice ao ac.length ak), (.slice al ae.length am)] 28 (0, 0))) ∧ Aside0 (Below w.heap.size w w'))
  case atStart => exact ⟨(bP), (0), zf, H', ⟨Nat.le_refl _⟩, ⟨zR bR⟩, ⟨zk aa⟩, ⟨zb HB⟩⟩
  case round =>
   clear H' bv bw bx bz bA bB bC bD
   obtain ⟨ax, ah, rfl, HA, bM, ai, aa, HB⟩ := hrel
   cases gk with
   | zero => exact absurd HA.out (by simp [spec_MostSorted.l0])
   | succ k1 =>
    have H := HA.out; clear HA
    simp only [spec_MostSorted.l0] at H
    by_cases c9 : ah < (ad.length : Int)
    ·rw [if_pos c9] at H
     have bS : decide (ah < (ad.length : Int)) = true := decide_eq_true c9
     clear c9
     by_cases c10 : 0 ≤ ah
     ·rw [if_pos c10] at H
      have c10b0 : decide (0 ≤ ah) = true := decide_eq_true c10
      clear c10
      by_cases bE : (rd ad ah) = 0
      ·rw [if_pos bE] at H
       have bT : ((rd ad ah) == 0) = true := beq_iff_eq.mpr bE
       have bU : ((rd ad ah) != 0) = false := bne_eq_false_iff_eq.mpr bE
       clear bE; have H' := zK H; clear H
       have hcz12_0 : wr.cell? ⟨ab, 0, none⟩ = some (.slice an ad.length aj) := (blk_cell aa.out 0).trans rfl
       have hcz12_1 : wr.cell? ⟨ab, 1, none⟩ = some (.int .i64 a0_1) := (blk_cell aa.out 1).trans rfl
       have hcz12_2 : wr.cell? ⟨ab, 2, none⟩ = some (.slice ao ac.length ak) := (blk_cell aa.out 2).trans rfl
       have hcz12_3 : wr.cell? ⟨ab, 3, none⟩ = some (.slice al ae.length am) := (blk_cell aa.out 3).trans rfl
       have hfz12_0 := blk_frozen aa.out 0; have hfz12_1 := blk_frozen aa.out 1; have hfz12_2 := blk_frozen aa.out 2; have hfz12_3 := blk_frozen aa.out 3
       have aZ : 0 ≤ (ah : Int) := zd
       have a0 : ah < (ad.length : Int) := zd
       obtain ⟨a9, bF, az⟩ := Kd.at_int aN.out ah aZ a0
       cases bF
       replace az := (HB.out.cell (World.block_lt_of_cell? w _ az)).trans az
       replace aZ := eq_true aZ; replace a0 := eq_true a0
       go_wp2
       go_roundg k1
       case measure => have := bM.out; omega
       case rel => exact ⟨(ax), (wrap64 (ah + 1)), zf, H', ⟨by have := bM.out; omega⟩, ⟨zR ai⟩, ⟨zk aa⟩, ⟨zb HB⟩⟩
      ·rw [if_neg bE] at H
       have bT : ((rd ad ah) == 0) = false := beq_eq_false_iff_ne.mpr bE
       have bU : ((rd ad ah) != 0) = true := bne_iff_ne.mpr bE
       by_cases c13 : ax.length < 17592186044416
       ·rw [if_pos c13] at H
        have bV := zK c13; clear c13
        obtain ⟨bW, aV⟩ : ∃ y_ : List Int, y_ = (ax ++ [rd ad ah]) := ⟨_, rfl⟩
        replace H : (spec_MostSorted.l0 k1 bW (wrap64 (ah + 1)) ad a0_1 ac ae) = some r := by first | (rw [aV]; with_reducible exact H) | (have H2_ := (Option.bind_some _ _).symm.trans H; rw [aV]; with_reducible exact H2_) | (have H2_ := (Option.bind_some _ _).symm.trans H; with_reducible exact H2_) | with_reducible exact H | (rw [aV]; exact H) | exact H
        have Ny403 := zK aV; clear aV; have H' := zK H; clear H
        have hcz14_0 : wr.cell? ⟨ab, 0, none⟩ = some (.slice an ad.length aj) := (blk_cell aa.out 0).trans rfl
        have hcz14_1 : wr.cell? ⟨ab, 1, none⟩ = some (.int .i64 a0_1) := (blk_cell aa.out 1).trans rfl
        have hcz14_2 : wr.cell? ⟨ab, 2, none⟩ = some (.slice ao ac.length ak) := (blk_cell aa.out 2).trans rfl
        have hcz14_3 : wr.cell? ⟨ab, 3, none⟩ = some (.slice al ae.length am) := (blk_cell aa.out 3).trans rfl
        have hfz14_0 := blk_frozen aa.out 0; have hfz14_1 := blk_frozen aa.out 1; have hfz14_2 := blk_frozen aa.out 2; have hfz14_3 := blk_frozen aa.out 3
        have aZ : 0 ≤ (ah : Int) := zd
        have a0 : ah < (ad.length : Int) := zd
        obtain ⟨a9, bF, az⟩ := Kd.at_int aN.out ah aZ a0
        cases bF
        replace az := (HB.out.cell (World.block_lt_of_cell? w _ az)).trans az
        replace aZ := eq_true aZ; replace a0 := eq_true a0
        have bG : 0 ≤ (ah : Int) := zd
        have bH : ah < (ad.length : Int) := zd
        obtain ⟨bX, e402, aQ⟩ := Kd.at_int aN.out ah bG bH
        obtain rfl : a9 = bX := (by injection e402)
        replace aQ := (HB.out.cell (World.block_lt_of_cell? w _ aQ)).trans aQ
        replace bG := eq_true bG; replace bH := eq_true bH
        go_wp2_with (first | ((with_reducible refine gate_builtin (b := .append) (xs := #[.tmp 24, .tmp 30]) rfl ?_); at_builtin; refine Kd.R_append (Kd.int .i64) (w0 := w) w.heap.size rfl (.tmp 24) (.tmp 30) 24 3 (.int .i64 0) 8 rfl Try.underlying24 info3 rfl (by decide) (by omega) u3 ax (rd ad ah) [.int .i64 (rd ad ah)] (fun _ => True) (fun _ => False) rfl rfl ?aP (fun _ hk => hk.elim) ?aF ?aO ?aB ?aS ?aL ?_; (case aP => exact rfl); (case aB => exact (zb HB)); (case aF => exact (fun _ _ => trivial)); (case aO => exact (zR ai)); (case aS => exact (below_size (zb HB))); (case aL => have := bV.out; omega); intro v404 w15 ho hb hg hat; rw [← Ny403.out] at ho; have aD := zK (blk_grown (g := ab) (o := .cells #[.slice (some a9) ad.length aj, .int .i64 a0_1, .slice ao ac.length ak, .slice al ae.length am] 28 (0, 0)) (zk aa) hg (Kd.R_ne ai.out aa.out (by decide))); have aE := zK (hb); have aM := zK (ho); clear aa; clear HB; clear ai; have aa := aD; have HB := aE; have bY := aM; clear aD aE aM; clear ho hb hg hat))
        go_roundg k1
        case measure => have := bM.out; omega
        case rel => exact ⟨(bW), (wrap64 (ah + 1)), zf, H', ⟨by have := bM.out; omega⟩, ⟨zR bY⟩, ⟨zk aa⟩, ⟨zb HB⟩⟩
       ·rw [if_neg c13] at H
        exact absurd H (by simp)
     ·rw [if_neg c10] at H
      exact absurd H (by simp)
    ·rw [if_neg c9] at H
     have bS : decide (ah < (ad.length : Int)) = false := decide_eq_false c9
     clear c9
     by_cases bN : (ax.length : Int) > 7
     ·rw [if_pos bN] at H
      have bs : decide (7 < (ax.length : Int)) = true := decide_eq_true bN
      have bu : decide (7 < ax.length) = true := decide_eq_true (by omega)
      clear bN; obtain rfl := Option.some.inj H
      have hcz17_0 : wr.cell? ⟨ab, 0, none⟩ = some (.slice an ad.length aj) := (blk_cell aa.out 0).trans rfl
      have hcz17_1 : wr.cell? ⟨ab, 1, none⟩ = some (.int .i64 a0_1) := (blk_cell aa.out 1).trans rfl
      have hcz17_2 : wr.cell? ⟨ab, 2, none⟩ = some (.slice ao ac.length ak) := (blk_cell aa.out 2).trans rfl
      have hcz17_3 : wr.cell? ⟨ab, 3, none⟩ = some (.slice al ae.length am) := (blk_cell aa.out 3).trans rfl
      have hfz17_0 := blk_frozen aa.out 0; have hfz17_1 := blk_frozen aa.out 1; have hfz17_2 := blk_frozen aa.out 2; have hfz17_3 := blk_frozen aa.out 3
      obtain ⟨Ao18, co18, eo18⟩ := Kd.R_slice ai.out
      subst eo18
      go_wp2
      go_ret
      exact ⟨ze, zb HB⟩
     ·rw [if_neg bN] at H
      have bs : decide (7 < (ax.length : Int)) = false := decide_eq_false bN
      have bu : decide (7 < ax.length) = false := decide_eq_false (by omega)
      clear bN
      obtain ⟨bZ, aW⟩ : ∃ y_ : List Int, y_ = (([] : List Int)) := ⟨_, rfl⟩
      replace H : (spec_MostSorted.l1 k1 ax bZ 0 ad a0_1 ac ae) = some r := by first | (rw [aW]; with_reducible exact H) | (have H2_ := (Option.bind_some _ _).symm.trans H; rw [aW]; with_reducible exact H2_) | (have H2_ := (Option.bind_some _ _).symm.trans H; with_reducible exact H2_) | with_reducible exact H | (rw [aW]; exact H) | exact H
      have Ny406 := zK aW; clear aW; have H' := zK H; clear H
      have bd : wr.cell? ⟨ab, 0, none⟩ = some (.slice an ad.length aj) := (blk_cell aa.out 0).trans rfl
      have be : wr.cell? ⟨ab, 1, none⟩ = some (.int .i64 a0_1) := (blk_cell aa.out 1).trans rfl
      have bf : wr.cell? ⟨ab, 2, none⟩ = some (.slice ao ac.length ak) := (blk_cell aa.out 2).trans rfl
      have bg : wr.cell? ⟨ab, 3, none⟩ = some (.slice al ae.length am) := (blk_cell aa.out 3).trans rfl
      have bh := blk_frozen aa.out 0; have bi := blk_frozen aa.out 1; have bj := blk_frozen aa.out 2; have bk := blk_frozen aa.out 3
      obtain ⟨bl, bm, eo20⟩ := Kd.R_slice ai.out
      subst eo20
      go_wp2_with (first | ((with_reducible refine gate_dst (N := 35) rfl ?_); refine Kd.R_lit (Kd.int .i64) _ 3 ?hg (N := 35) ?hd (xs := ([] : List Int)) (inner := []) (ok := fun _ => True) (okp := fun _ => True) ?hr ?hp (fun _ hk => hk) trivial (Below.refl _ _) (Nat.le_refl _) (by simp) ?_; (case hd => rfl); (case hg => rfl); (case hr => first | (go_simp; done) | (go_simp; rfl)); (case hp => exact (Reps.none _ _)); intro v407 w21 ho22 hb hg_ hnew_; clear hg_ hnew_; (first | rw [← Ny406.out] at ho22 | (simp only [Int.reduceToNat] at ho22; rw [← Ny406.out] at ho22)); have aD := zK (Kd.R_elder' (zR ai) (Kd.R_base ho22) hb); have aE := zK (Kd.R_lower (Kd.R_new' ho22 (Kd.R_lt (zR ai))) (below_size (zb HB))); have aM := zK (blk_below (g := ab) (o := .cells #[.slice an ad.length aj, .int .i64 a0_1, .slice ao ac.length ak, .slice al ae.length am] 28 (0, 0)) (zk aa) hb); have aU := zK (below_step (zb HB) hb); clear ai; clear aa; clear HB; have ai := aD; have b0 := aE; have aa := aM; have HB := aU; clear aD aE aM aU; clear hb ho22))
      go_loopg [5, 6] k1 (fun kq v5 v6 w' => ∃ (aX : List Int) (af : Int), v6 = .int .i64 af ∧ Aside0 (spec_MostSorted.l1 kq ax aX af ad a0_1 ac ae = some r) ∧ Aside0 (kq ≤ k1) ∧ Aside0 (Kd.R (Kd.int .i64) 3 w' w.heap.size (fun k_ => some k_ ≠ (v5 : Value).ownBlock) (.slice bl ax.length bm) ax) ∧ Aside0 (Kd.R (Kd.int .i64) 3 w' w.heap.size (fun k_ => some k_ ≠ ((.slice bl ax.length bm) : Value).ownBlock) v5 aX) ∧ Aside0 (w'.heap[ab]? = some (.cells #[(.slice an ad.length aj), .int .i64 a0_1, (.slice ao ac.length ak), (.slice al ae.length am)] 28 (0, 0))) ∧ Aside0 (Below w.heap.size w w'))
      case atStart => exact ⟨(bZ), (0), zf, H', ⟨Nat.le_refl _⟩, ⟨by (with_reducible repeat (first | apply Kd.R_alloc | apply Kd.R_drewN | apply Kd.R_drew)); exact Kd.R_mono ai.out (fun _ hk => hk.2)⟩, ⟨by (with_reducible repeat (first | apply Kd.R_alloc | apply Kd.R_drewN | apply Kd.R_drew)); exact Kd.R_mono b0.out (fun _ hk => hk.2)⟩, ⟨zk aa⟩, ⟨zb HB⟩⟩
      case round =>
       clear H' bS bs bu bd be bf bg bh bi bj bk
       obtain ⟨aX, af, rfl, HA, HK2, ai, aK, aa, HB⟩ := hrel
       cases gk with
       | zero => exact absurd HA.out (by simp [spec_MostSorted.l1])
       | succ k2 =>
        have H := HA.out; clear HA
        simp only [spec_MostSorted.l1] at H
        by_cases bO : af < (ac.length : Int)
        ·rw [if_pos bO] at H
         have b1 : decide (af < (ac.length : Int)) = true := decide_eq_true bO
         clear bO
         by_cases c24 : 0 ≤ af
         ·rw [if_pos c24] at H
          have c24b0 : decide (0 ≤ af) = true := decide_eq_true c24
          clear c24
          by_cases c25 : aX.length < 17592186044416
          ·rw [if_pos c25] at H
           have b2 := zK c25; clear c25
           obtain ⟨b3, aY⟩ : ∃ y_ : List Int, y_ = (aX ++ [wrap64 (((rd_T69 ac af).f1) - (((rd_T69 ac af).f2).length : Int))]) := ⟨_, rfl⟩
           replace H : (spec_MostSorted.l1 k2 ax b3 (wrap64 (af + 1)) ad a0_1 ac ae) = some r := by first | (rw [aY]; with_reducible exact H) | (have H2_ := (Option.bind_some _ _).symm.trans H; rw [aY]; with_reducible exact H2_) | (have H2_ := (Option.bind_some _ _).symm.trans H; with_reducible exact H2_) | with_reducible exact H | (rw [aY]; exact H) | exact H
           have Ny411 := zK aY; clear aY; have H' := zK H; clear H
           have hcz26_0 : wr.cell? ⟨ab, 0, none⟩ = some (.slice an ad.length aj) := (blk_cell aa.out 0).trans rfl
           have hcz26_1 : wr.cell? ⟨ab, 1, none⟩ = some (.int .i64 a0_1) := (blk_cell aa.out 1).trans rfl
           have hcz26_2 : wr.cell? ⟨ab, 2, none⟩ = some (.slice ao ac.length ak) := (blk_cell aa.out 2).trans rfl
           have hcz26_3 : wr.cell? ⟨ab, 3, none⟩ = some (.slice al ae.length am) := (blk_cell aa.out 3).trans rfl
           have hfz26_0 := blk_frozen aa.out 0; have hfz26_1 := blk_frozen aa.out 1; have hfz26_2 := blk_frozen aa.out 2; have hfz26_3 := blk_frozen aa.out 3
           try go_wp2
           have aD := zK (Kd.R_drew ai.out)
           have aE := zK (Kd.R_drew aK.out)
           have aM := zK (zD aa.out)
           have aU := zK (zE HB.out)
           clear ai aK aa HB; have ai := aD; have aK := aE; have aa := aM; have HB := aU; clear aD aE aM aU
           have bI : 0 ≤ (af : Int) := zd
           have bJ : af < (ac.length : Int) := zd
           obtain ⟨ay, ba, bb, e409, aG, aH, aA, a1, a2⟩ := at_T69 aR.out af bI bJ
           have ap := aA; have aq := aH; have ar := aG
           cases e409
           replace aG := (HB.out.cell (World.block_lt_of_cell? w _ aG)).trans aG
           replace aH := (HB.out.cell (World.block_lt_of_cell? w _ aH)).trans aH
           replace aA := (HB.out.cell (World.block_lt_of_cell? w _ aA)).trans aA
           have bn := zK a2; have HC409_2 := zK a1; clear a2 a1; replace bI := eq_true bI; replace bJ := eq_true bJ
           have bK : 0 ≤ (af : Int) := zd
           have bL : af < (ac.length : Int) := zd
           obtain ⟨b4, A410_2, c410_2, e410, aI, aJ, aC, a3, a4⟩ := at_T69 aR.out af bK bL
           have au := aC; have av := aJ; have aw := aI
           obtain rfl : ay = b4 := (by injection e410)
           replace aI := (HB.out.cell (World.block_lt_of_cell? w _ aI)).trans aI
           replace aJ := (HB.out.cell (World.block_lt_of_cell? w _ aJ)).trans aJ
           replace aC := (HB.out.cell (World.block_lt_of_cell? w _ aC)).trans aC
           have bo := zK a4; have HC410_2 := zK a3; clear a4 a3; replace bK := eq_true bK; replace bL := eq_true bL
           have ea_ := Option.some.inj (aA.symm.trans aC)
           injection ea_ with ea_ en_ ec_
           subst ea_; subst ec_; clear en_
           refine start_ (n := 18) (S := fun w' => w'.cell? ⟨ab, 0, none⟩ = some (.slice an ad.length aj) ∧ w'.cell? ⟨ab, 1, none⟩ = some (.int .i64 a0_1) ∧ w'.cell? ⟨ab, 2, none⟩ = some (.slice (some ay) ac.length ak) ∧ w'.cell? ⟨ab, 3, none⟩ = some (.slice al ae.length am) ∧ w'.cell? (ay.add ((af).toNat * 3)) = some (.int .i64 ((rd_T69 ac af).f0)) ∧ w'.cell? ⟨(ay.add ((af).toNat * 3)).block, (ay.add ((af).toNat * 3)).off + 1, none⟩ = some (.int .i64 ((rd_T69 ac af).f1)) ∧ w'.cell? ⟨(ay.add ((af).toNat * 3)).block, (ay.add ((af).toNat * 3)).off + 2, none⟩ = some (.slice ba ((rd_T69 ac af).f2).length bb) ∧ w'.cell? (ay.add ((af).toNat * 3)) = some (.int .i64 ((rd_T69 ac af).f0)) ∧ w'.cell? ⟨(ay.add ((af).toNat * 3)).block, (ay.add ((af).toNat * 3)).off + 1, none⟩ = some (.int .i64 ((rd_T69 ac af).f1)) ∧ w'.cell? ⟨(ay.add ((af).toNat * 3)).block, (ay.add ((af).toNat * 3)).off + 2, none⟩ = some (.slice ba ((rd_T69 ac af).f2).length bb)) (ds := []) #[ff, ff, ff, ff, ff, ff, ff, ff, ff, ff, ff, ff, ff, ff, ff, ff, ff, ff] (by kernel_rfl) rfl rfl ⟨(blk_cell aa.out 0).trans rfl, (blk_cell aa.out 1).trans rfl, (blk_cell aa.out 2).trans rfl, (blk_cell aa.out 3).trans rfl, ((HB.out.cell (World.block_lt_of_cell? w _ ar)).trans ar), ((HB.out.cell (World.block_lt_of_cell? w _ aq)).trans aq), ((HB.out.cell (World.block_lt_of_cell? w _ ap)).trans ap), ((HB.out.cell (World.block_lt_of_cell? w _ aw)).trans aw), ((HB.out.cell (World.block_lt_of_cell? w _ av)).trans av), ((HB.out.cell (World.block_lt_of_cell? w _ au)).trans au)⟩ (fun hHeld => ?_); refine with_tabW spec_MostSorted.tab15 spec_MostSorted.bits15 (fun HT_ HW_ => ?_)
           generalize wr.drew = w27 at ai aK aa HB bn bo aG aH aA aI aJ aC hHeld ⊢
           refine zu 0 (some 43) #[tt, ff, ff, ff, ff, ff, ff, ff, ff, ff, ff, ff, ff, ff, ff, ff, ff, ff] (any_of HT_.out (by kernel_rfl)) ?_
           refine zu 1 (some 44) #[tt, tt, ff, ff, ff, ff, ff, ff, ff, ff, ff, ff, ff, ff, ff, ff, ff, ff] (any_of HT_.out (by kernel_rfl)) ?_
           refine zu 3 (some 46) #[tt, tt, ff, tt, ff, ff, ff, ff, ff, ff, ff, ff, ff, ff, ff, ff, ff, ff] (any_of HT_.out (by kernel_rfl)) ?_
           refine zu 7 (some 50) #[tt, tt, ff, tt, ff, ff, ff, tt, ff, ff, ff, ff, ff, ff, ff, ff, ff, ff] (any_of HT_.out (by kernel_rfl)) ?_
           refine zu 9 (some 52) #[tt, tt, ff, tt, ff, ff, ff, tt, ff, tt, ff, ff, ff, ff, ff, ff, ff, ff] (any_of HT_.out (by kernel_rfl)) ?_
           refine zt 2 (some 45) #[tt, tt, tt, tt, ff, ff, ff, tt, ff, tt, ff, ff, ff, ff, ff, ff, ff, ff] (take_ofW HT_.out HW_.out (by kernel_rfl)) hHeld ?_
           refine zu 4 (some 47) #[tt, tt, tt, tt, tt, ff, ff, tt, ff, tt, ff, ff, ff, ff, ff, ff, ff, ff] (any_of HT_.out (by kernel_rfl)) ?_
           refine zu 5 (some 48) #[tt, tt, tt, tt, tt, tt, ff, tt, ff, tt, ff, ff, ff, ff, ff, ff, ff, ff] (any_of HT_.out (by kernel_rfl)) ?_
           refine zt 6 (some 49) #[tt, tt, tt, tt, tt, tt, tt, tt, ff, tt, ff, ff, ff, ff, ff, ff, ff, ff] (take_ofW HT_.out HW_.out (by kernel_rfl)) hHeld ?_
           refine zt 8 (some 51) #[tt, tt, tt, tt, tt, tt, tt, tt, tt, tt, ff, ff, ff, ff, ff, ff, ff, ff] (take_ofW HT_.out HW_.out (by kernel_rfl)) hHeld ?_
           refine zu 10 (some 53) #[tt, tt, tt, tt, tt, tt, tt, tt, tt, tt, tt, ff, ff, ff, ff, ff, ff, ff] (any_of HT_.out (by kernel_rfl)) ?_
           refine zu 11 (some 54) #[tt, tt, tt, tt, tt, tt, tt, tt, tt, tt, tt, tt, ff, ff, ff, ff, ff, ff] (any_of HT_.out (by kernel_rfl)) ?_
           refine zt 12 (some 55) #[tt, tt, tt, tt, tt, tt, tt, tt, tt, tt, tt, tt, tt, ff, ff, ff, ff, ff] (take_ofW HT_.out HW_.out (by kernel_rfl)) hHeld ?_
           refine zu 13 (some 56) #[tt, tt, tt, tt, tt, tt, tt, tt, tt, tt, tt, tt, tt, tt, ff, ff, ff, ff] (any_of HT_.out (by kernel_rfl)) ?_
           refine zu 14 (some 57) #[tt, tt, tt, tt, tt, tt, tt, tt, tt, tt, tt, tt, tt, tt, tt, ff, ff, ff] (any_of HT_.out (by kernel_rfl)) ?_
           refine one_ (i := 15) (N := some 58) #[tt, tt, tt, tt, tt, tt, tt, tt, tt, tt, tt, tt, tt, tt, tt, tt, ff, ff] rfl rfl (one_of HT_.out (by kernel_rfl)) (by decide) (fun K hK => ?_)
           refine value_ (w1 := ?_) (v := ?_) (by rfl) rfl ?_ ?_
           rotate_left 2
           ·go_simp
            constructor
            ·rfl
            ·rfl
           refine hK.out _ _ ⟨(blk_cell (zA aa.out _) 0).trans rfl, (blk_cell (zA aa.out _) 1).trans rfl, (blk_cell (zA aa.out _) 2).trans rfl, (blk_cell (zA aa.out _) 3).trans rfl, (World.cell?_alloc_lt _ _ _ (World.block_lt_of_cell? _ _ (((HB.out.cell (World.block_lt_of_cell? w _ ar)).trans ar)))).trans (((HB.out.cell (World.block_lt_of_cell? w _ ar)).trans ar)), (World.cell?_alloc_lt _ _ _ (World.block_lt_of_cell? _ _ (((HB.out.cell (World.block_lt_of_cell? w _ aq)).trans aq)))).trans (((HB.out.cell (World.block_lt_of_cell? w _ aq)).trans aq)), (World.cell?_alloc_lt _ _ _ (World.block_lt_of_cell? _ _ (((HB.out.cell (World.block_lt_of_cell? w _ ap)).trans ap)))).trans (((HB.out.cell (World.block_lt_of_cell? w _ ap)).trans ap)), (World.cell?_alloc_lt _ _ _ (World.block_lt_of_cell? _ _ (((HB.out.cell (World.block_lt_of_cell? w _ aw)).trans aw)))).trans (((HB.out.cell (World.block_lt_of_cell? w _ aw)).trans aw)), (World.cell?_alloc_lt _ _ _ (World.block_lt_of_cell? _ _ (((HB.out.cell (World.block_lt_of_cell? w _ av)).trans av)))).trans (((HB.out.cell (World.block_lt_of_cell? w _ av)).trans av)), (World.cell?_alloc_lt _ _ _ (World.block_lt_of_cell? _ _ (((HB.out.cell (World.block_lt_of_cell? w _ au)).trans au)))).trans (((HB.out.cell (World.block_lt_of_cell? w _ au)).trans au))⟩ (fun hHeld => ?_)
           clear hK K
           refine norm_ (a' := ?_) ?_ ?_
           rotate_left
           ·show Act.put _ (some 58) _ = _
            simp only [Act.put, zp, zq, zr, i64_w, i32_w]
            rfl
           refine one_ (i := 16) (N := some 59) #[tt, tt, tt, tt, tt, tt, tt, tt, tt, tt, tt, tt, tt, tt, tt, tt, tt, ff] rfl rfl (one_of HT_.out (by kernel_rfl)) (by decide) (fun K hK => ?_)
           refine Kd.R_append_step (Kd.int .i64) (w0 := w) w.heap.size (by rfl) (.tmp 43) (.tmp 58) 24 3 (.int .i64 0) 8 rfl Try.underlying24 info3 rfl (by decide) (by omega) u5 aX (wrap64 (((rd_T69 ac af).f1) - (((rd_T69 ac af).f2).length : Int))) [.int .i64 (wrap64 (((rd_T69 ac af).f1) - (((rd_T69 ac af).f2).length : Int)))] (fun k_ => some k_ ≠ (.slice bl ax.length bm : Value).ownBlock) (fun _ => False) rfl rfl ?aP (fun _ hk => hk.elim) ?aF ?aO ?aB ?aS ?aL ?_
           (case aP => exact rfl)
           (case aB => exact (zb HB))
           (case aF => exact (fun k_ hk => Kd.fresh' (Kd.R_lt (zR ai)) k_ hk))
           (case aO => exact (zR aK))
           (case aS => exact (below_size (zb HB)))
           (case aL => have := b2.out; omega)
           intro v412 w28 ho hb hg hat
           rw [← Ny411.out] at ho
           have aD := zK (Kd.R_after (ok := (fun _ => True)) (by (with_reducible repeat (first | apply Kd.R_alloc | apply Kd.R_drewN | apply Kd.R_drew)); exact Kd.R_mono ai.out (fun _ hk => ⟨trivial, hk⟩)) hg hat)
           have aE := zK (blk_grown (g := ab) (o := .cells #[.slice an ad.length aj, .int .i64 a0_1, .slice (some ay) ac.length ak, .slice al ae.length am] 28 (0, 0)) (zk aa) hg (Kd.R_ne aK.out aa.out (by decide)))
           have aM := zK (hb)
           have aU := zK (ho)
           clear ai aa HB aK; have ai := aD; have aa := aE; have HB := aM; have b5 := aU; clear aD aE aM aU ho hb hg hat
           refine hK.out _ _ ⟨(blk_cell aa.out 0).trans rfl, (blk_cell aa.out 1).trans rfl, (blk_cell aa.out 2).trans rfl, (blk_cell aa.out 3).trans rfl, ((HB.out.cell (World.block_lt_of_cell? w _ ar)).trans ar), ((HB.out.cell (World.block_lt_of_cell? w _ aq)).trans aq), ((HB.out.cell (World.block_lt_of_cell? w _ ap)).trans ap), ((HB.out.cell (World.block_lt_of_cell? w _ aw)).trans aw), ((HB.out.cell (World.block_lt_of_cell? w _ av)).trans av), ((HB.out.cell (World.block_lt_of_cell? w _ au)).trans au)⟩ (fun hHeld => ?_)
           clear hK K
           refine norm_ (a' := ?_) ?_ ?_
           rotate_left
           ·show Act.put _ (some 59) _ = _
            simp only [Act.put, zp, zq, zr, i64_w, i32_w]
            rfl
           refine zu 17 (some 5) #[tt, tt, tt, tt, tt, tt, tt, tt, tt, tt, tt, tt, tt, tt, tt, tt, tt, tt] (any_of HT_.out (by kernel_rfl)) ?_
           refine done_ (done_of HT_.out (by kernel_rfl)) ?_
           try go_wp2
           go_roundg k2
           case measure => have := bM.out; have := HK2.out; omega
           case rel => exact ⟨(b3), (wrap64 (af + 1)), zf, H', ⟨by have := bM.out; have := HK2.out; omega⟩, ⟨by (with_reducible repeat (first | apply Kd.R_alloc | apply Kd.R_drewN | apply Kd.R_drew)); exact Kd.R_mono ai.out (fun _ hk => hk.2)⟩, ⟨zR b5⟩, ⟨zk aa⟩, ⟨zb HB⟩⟩
          ·rw [if_neg c25] at H
           exact absurd H (by simp)
         ·rw [if_neg c24] at H
          exact absurd H (by simp)
        ·rw [if_neg bO] at H
         have b1 : decide (af < (ac.length : Int)) = false := decide_eq_false bO
         clear bO; replace H := Option.bind_eq_some_iff.mp H
         obtain ⟨b6, b7, H⟩ := H
         replace H : (some b6) = some r := H
         have A29 := zK b7; clear b7; obtain rfl := Option.some.inj H
         have hcz30_0 : wr.cell? ⟨ab, 0, none⟩ = some (.slice an ad.length aj) := (blk_cell aa.out 0).trans rfl
         have hcz30_1 : wr.cell? ⟨ab, 1, none⟩ = some (.int .i64 a0_1) := (blk_cell aa.out 1).trans rfl
         have hcz30_2 : wr.cell? ⟨ab, 2, none⟩ = some (.slice ao ac.length ak) := (blk_cell aa.out 2).trans rfl
         have hcz30_3 : wr.cell? ⟨ab, 3, none⟩ = some (.slice al ae.length am) := (blk_cell aa.out 3).trans rfl
         have hfz30_0 := blk_frozen aa.out 0; have hfz30_1 := blk_frozen aa.out 1; have hfz30_2 := blk_frozen aa.out 2; have hfz30_3 := blk_frozen aa.out 3
         obtain ⟨Ao31, co31, eo31⟩ := Kd.R_slice aK.out
         subst eo31
         go_wp2_with (first | ((with_reducible refine gate_callee (f := 61) rfl ?_); refine goesL_ (some 63) rfl rfl Try.func61 (by kernel_rfl) rfl #[.agg #[.slice an ad.length aj, .int .i64 a0_1, .slice ao ac.length ak, .slice al ae.length am], .slice bl ax.length bm, .int .i64 0, .slice Ao31 aX.length co31] rfl zg ?_; (with_reducible refine (spec_l05Most.calls k2 _ _ ad a0_1 _ _ ac _ _ ae _ _ ax 0 _ _ aX b6 _ ?side1 ?side2 ?side3 ?side4 ?side5 ?side6 ?side7 ?side8 ?side9 ?side10 A29.out).mono ?_); (case side1 => exact zs (Kd.C_below aN.out HB.out)); (case side2 => exact a5.out); (case side3 => exact zs (Kd.C_below aR.out HB.out)); (case side4 => exact a6.out); (case side5 => exact zs (Kd.C_below a7.out HB.out)); (case side6 => exact a8.out); (case side7 => exact zs (Kd.R_reads' ai.out).2.2); (case side8 => exact (Kd.R_reads' ai.out).2.1); (case side9 => exact zs (Kd.R_reads' aK.out).2.2); (case side10 => exact (Kd.R_reads' aK.out).2.1); rintro e w32 ⟨rfl, hb⟩; refine ⟨_, rfl, ?_⟩; have aD := zK (Kd.R_below (zR ai) hb); have aE := zK (Kd.R_below (zR aK) hb); have aM := zK (blk_below (g := ab) (o := .cells #[.slice an ad.length aj, .int .i64 a0_1, .slice ao ac.length ak, .slice al ae.length am] 28 (0, 0)) (zk aa) hb); have aU := zK (below_step (zb HB) hb); clear ai; clear aK; clear aa; clear HB; have ai := aD; have aK := aE; have aa := aM; have HB := aU; clear aD aE aM aU; (try clear hb)))
         go_ret
         exact ⟨ze, zb HB⟩
 ·replace c3 := Bool.eq_false_iff.mpr c3
  subst c3
  have H1 : (some (-1)) = some r := by rw [if_neg (show ¬ (false = true) by decide)] at H; exact H
  clear H; have H := H1; clear H1; obtain rfl := Option.some.inj H
  go_enter Try.func22, Try.ntmps22
  go_wp2_with (first | ((with_reducible refine gate_dst (N := 1) rfl ?_); refine zX 1 #[.slice an ad.length aj, .int .i64 a0_1, .slice ao ac.length ak, .slice al ae.length am] 28 ?_; intro ab hg w33 hbox hb; have aD := zK (below_step (zb HB) hb); have aE := zK (hbox); have aM := zK ((by rw [hg]; exact (below_size (zb HB)) : w.heap.size ≤ ab)); have aU := zK ((by rw [hg]; exact (below_size (zb HB)) : w.heap.size ≤ ab)); clear HB; have HB := aD; have aa := aE; have bQ := aM; have ag := aU; clear aD aE aM aU; clear hb hbox hg; have hcz34_0 : w33.cell? ⟨ab, 0, none⟩ = some (.slice an ad.length aj) := (blk_cell aa.out 0).trans rfl; have hcz34_1 : w33.cell? ⟨ab, 1, none⟩ = some (.int .i64 a0_1) := (blk_cell aa.out 1).trans rfl; have hcz34_2 : w33.cell? ⟨ab, 2, none⟩ = some (.slice ao ac.length ak) := (blk_cell aa.out 2).trans rfl; have hcz34_3 : w33.cell? ⟨ab, 3, none⟩ = some (.slice al ae.length am) := (blk_cell aa.out 3).trans rfl; have hfz34_0 := blk_frozen aa.out 0; have hfz34_1 := blk_frozen aa.out 1; have hfz34_2 := blk_frozen aa.out 2; have hfz34_3 := blk_frozen aa.out 3) | ((with_reducible refine gate_callee (f := 23) rfl ?_); refine goesL_ (some 8) rfl rfl Try.func23 (by kernel_rfl) rfl #[.agg #[.slice an ad.length aj, .int .i64 a0_1, .slice ao ac.length ak, .slice al ae.length am]] rfl zg ?_; (with_reducible refine (spec_LoopOk.calls k _ _ ad a0_1 _ _ ac _ _ ae false _ ?side1 ?side2 ?side3 ?side4 ?side5 ?side6 A2.out).mono ?_); (case side1 => exact zs (Kd.C_below aN.out HB.out)); (case side2 => exact a5.out); (case side3 => exact zs (Kd.C_below aR.out HB.out)); (case side4 => exact a6.out); (case side5 => exact zs (Kd.C_below a7.out HB.out)); (case side6 => exact a8.out); rintro e w35 ⟨rfl, hb⟩; refine ⟨_, rfl, ?_⟩; have aD := zK (blk_below (g := ab) (o := .cells #[.slice an ad.length aj, .int .i64 a0_1, .slice ao ac.length ak, .slice al ae.length am] 28 (0, 0)) (zk aa) hb); have aE := zK (below_step (zb HB) hb); clear aa; clear HB; have aa := aD; have HB := aE; clear aD aE; (try clear hb)))
  go_ret
  exact ⟨ze, zb HB⟩
end Go.Proofs.Ytmjhbdmicejppaa.Px
