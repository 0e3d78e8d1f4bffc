import Derived.Test.YtheckjlldkkceaaZsPx0
import Derived.Test.YtheckjlldkkceaaZsPx3
import Derived.Test.YtheckjlldkkceaaZsPx5
import Derived.Test.YtheckjlldkkceaaZsPx16
namespace Go.Proofs.Ytheckjlldkkceaa.Px
open Go.RowKit Go.Proofs.YtheckjlldkkceaaW.PrintWords Go.Proofs.YtheckjlldkkceaaW.PrintLast Go.Proofs.YtheckjlldkkceaaW.PrintMore
attribute [local go_sem] max2_int min2_int max_two min_two max_three min_three max_four min_four   
set_option linter.unusedVariables false
set_option linter.unusedSimpArgs false
def spec_HopsOf.l0 : Nat → Int → Int → List (List (S30)) → Option (Int × Bool)
 | 0, _, _, _ => none
 | k + 1, x4, x825000, x825001 => (spec_NextOut.f k x825000 x825001).bind fun t826 => (if t826 = 0 then (some (x4, true)) else ((spec_NextOut.f k x825000 x825001).bind fun t827 => ((spec_TakeBag.f k x825000 x825001 t827).bind fun bt828 => (if bt828.2.2.2 = true then (spec_HopsOf.l0 k (wrap64 (x4 + (bt828.2.2.1.length : Int))) bt828.1 bt828.2.1) else (some (0, false))))))
def spec_HopsOf.f (k : Nat) (a0_0 : Int) (l0_1 : List (List (S30))) : Option (Int × Bool) := (spec_StoreOk.f k a0_0 l0_1).bind fun t825 => (if t825 = true then (spec_HopsOf.l0 k 0 a0_0 l0_1) else (some (0, false)))
def spec_HopsOf.T5 : Bool × List (List Nat × List Nat) := (true, [([], []), ([], []), ([1], [1]), ([0, 2, 2], [0, 2]), ([3], [3]), ([4], [4]), ([4], [4]), ([4], [4]), ([], []), ([8, 5, 3, 0, 1, 2, 3, 4, 5, 8], [5, 8]), ([6, 9, 0, 1, 2, 3, 4, 5, 6, 8, 9], [6]), ([7, 10, 0, 1, 2, 3, 4, 5, 6, 7, 8, 9, 10], [7])])
def spec_HopsOf.B5 : List Nat := [0, 0, 2, 7, 15, 31, 31, 31, 0, 319, 895, 2047]
theorem spec_HopsOf.tab5 : rtab .any (opsOf Try.f42 5) = spec_HopsOf.T5 := by kernel_rfl
theorem spec_HopsOf.bits5 : waitsOk spec_HopsOf.T5.2 spec_HopsOf.B5 = true := by kernel_rfl
set_option maxHeartbeats 8000000 in
set_option maxRecDepth 100000 in
theorem spec_HopsOf.calls (k : Nat) (a0_0 : Int) (P0_1_ : Nat → Prop) (aI : Option Addr) (aJ : Nat) (az : List (List (S30))) (r1 : Int) (r2 : Bool) (w : World) (hs0_1 : Kd.V (Kd.slice 30 k30) 28 w w.heap.size (fun k_ => P0_1_ k_) (.slice aI az.length aJ) az) (h : spec_HopsOf.f k a0_0 az = some (r1, r2)) :
  Calls Try.prog 42 #[.agg #[.int .i64 a0_0, .slice aI az.length aJ]] w fun e w' => e = .returned (.tuple #[.int .i64 r1, .bool r2]) ∧ Below w.heap.size w w' := by
 have hu24 := Try.underlying24
 have aw := zK (show Kd.V (Kd.slice 30 k30) 28 w w.heap.size (fun k_ => (P0_1_ k_ ∨ w.heap.size ≤ k_)) (.slice aI az.length aJ) az from Kd.V_mono hs0_1 (fun k_ hk => .inl hk))
 have HB := zK (Below.refl w.heap.size w)
 have H : ((spec_StoreOk.f k a0_0 az).bind fun aS => (if aS = true then (spec_HopsOf.l0 k 0 a0_0 az) else (some (0, false)))) = some (r1, r2) := h
 clear h; replace H := Option.bind_eq_some_iff.mp H
 obtain ⟨aS, A20, H⟩ := H
 replace H : (if aS = true then (spec_HopsOf.l0 k 0 a0_0 az) else (some (0, false))) = some (r1, r2) := H
 have A2 := zK A20; clear A20
 by_cases c3 : aS = true
 ·subst c3
  have H1 : (spec_HopsOf.l0 k 0 a0_0 az) = some (r1, r2) := by rw [if_pos rfl] at H; exact H
  clear H; have H := H1; clear H1; have H' := zK H; clear H
  go_enter Try.func42, Try.ntmps42
  go_wp2_with (first | ((with_reducible refine gate_dst (N := 1) rfl ?_); refine box_event ?hg (N := 1) ?hd (cs := #[.int .i64 a0_0, .slice aI az.length aJ]) (t := 24) ?hr ?_; (case hd => rfl); (case hg => rfl); (case hr => first | (go_simp; done) | (go_simp; rfl)); intro ae hg w4 hbox hb; have al := zK (Kd.V_below (Kd.V_elderB (by (with_reducible repeat (first | apply Kd.V_alloc | apply Kd.V_drewN | apply Kd.V_drew)); exact aw.out) ae (Nat.le_of_eq hg.symm)) hb); have am := zK (below_step (zb HB) hb); have an := zK (hbox); have ax := zK ((by rw [hg]; exact (below_size (zb HB)) : w.heap.size ≤ ae)); have ay := zK ((by rw [hg]; exact (below_size (zb HB)) : w.heap.size ≤ ae)); clear aw; clear HB; have aw := al; have HB := am; have ad := an; have a0 := ax; have ag := ay; clear al am an ax ay; clear hb hbox hg; have aT : w4.cell? ⟨ae, 0, none⟩ = some (.int .i64 a0_0) := (blk_cell ad.out 0).trans rfl; have aU : w4.cell? ⟨ae, 1, none⟩ = some (.slice aI az.length aJ) := (blk_cell ad.out 1).trans rfl; have aV := blk_frozen ad.out 0; have aW := blk_frozen ad.out 1) | ((with_reducible refine gate_callee (f := 15) rfl ?_); refine goesL_ (some 9) rfl rfl Try.func15 (by kernel_rfl) rfl #[.agg #[.int .i64 a0_0, .slice aI az.length aJ]] rfl (by (try simp only [List.map_toArray, List.map_cons, List.map_nil]); first | done | rfl | (simp only [List.length_drop, List.length_take]; rfl)) ?_; (with_reducible refine (spec_StoreOk.calls k a0_0 _ _ az true _ ?side1 ?side2 A2.out).mono ?_); (case side1 => repeat (first | exact (Kd.V_reads' aw.out).2.2 | (with_reducible refine Kd.C_alloc ?_ _) | (with_reducible refine Kd.C_drewN ?_ _) | (with_reducible refine Kd.C_drew ?_))); (case side2 => exact (Kd.V_reads' aw.out).2.1); rintro e w6 ⟨rfl, hb⟩; refine ⟨_, rfl, ?_⟩; have al := zK (Kd.V_below (by (with_reducible repeat (first | apply Kd.V_alloc | apply Kd.V_drewN | apply Kd.V_drew)); exact aw.out) hb); have am := zK (blk_below (g := ae) (o := .cells #[.int .i64 a0_0, .slice aI az.length aJ] 24 (0, 0)) (zk ad) hb); have an := zK (below_step (zb HB) hb); clear aw; clear ad; clear HB; have aw := al; have ad := am; have HB := an; clear al am an; (try clear hb)))
  go_loopg [4] k (fun kq v4 w' => ∃ (aM : Int) (ac : Int) (ab : List (List (S30))) (u825001 : Value), v4 = .int .i64 aM ∧ Aside0 (spec_HopsOf.l0 kq aM ac ab = some (r1, r2)) ∧ Aside0 (kq ≤ k) ∧ Aside0 (Kd.V (Kd.slice 30 k30) 28 w' w.heap.size (fun k_ => (P0_1_ k_ ∨ w.heap.size ≤ k_) ∧ k_ ≠ ae) u825001 ab) ∧ Aside0 (w'.heap[ae]? = some (.cells #[.int .i64 ac, u825001] 24 (0, 0))) ∧ Aside0 (Below w.heap.size w w'))
  case atStart => exact ⟨(0), (a0_0), (az), (.slice aI az.length aJ), (by first | rfl | (simp; done) | (simp [*]; done)), H', ⟨Nat.le_refl _⟩, ⟨by (with_reducible repeat (first | apply Kd.V_alloc | apply Kd.V_drewN | apply Kd.V_drew)); exact aw.out⟩, ⟨zk ad⟩, ⟨zb HB⟩⟩
  case round =>
   clear H'
   try clear c1
   try clear p2
   try clear c3
   try clear c4
   try clear aT
   try clear aU
   try clear aV
   try clear aW
   obtain ⟨aM, ac, ab, u825001, rfl, HA, HK1, aa, ad, HB⟩ := hrel
   cases gk with
   | zero => exact absurd HA.out (by simp [spec_HopsOf.l0])
   | succ k1 =>
    have H := HA.out; clear HA
    simp only [spec_HopsOf.l0] at H
    replace H := Option.bind_eq_some_iff.mp H
    obtain ⟨aN, A70, H⟩ := H
    replace H : (if aN = 0 then (some (aM, true)) else ((spec_NextOut.f k1 ac ab).bind fun aA => ((spec_TakeBag.f k1 ac ab aA).bind fun bt828 => (if bt828.2.2.2 = true then (spec_HopsOf.l0 k1 (wrap64 (aM + (bt828.2.2.1.length : Int))) bt828.1 bt828.2.1) else (some (0, false)))))) = some (r1, r2) := H
    have A7 := zK A70; clear A70
    by_cases c8 : aN = 0
    ·rw [if_pos c8] at H
     have c8b0 : (aN == 0) = true := beq_iff_eq.mpr c8
     have c8b1 : (aN != 0) = false := bne_eq_false_iff_eq.mpr c8
     clear c8
     simp only [Option.some.injEq, Prod.mk.injEq] at H
     obtain ⟨rfl, rfl⟩ := H
     have hcz9_0 : wr.cell? ⟨ae, 0, none⟩ = some (.int .i64 ac) := (blk_cell ad.out 0).trans rfl
     have hcz9_1 : wr.cell? ⟨ae, 1, none⟩ = some (u825001) := (blk_cell ad.out 1).trans rfl
     have hfz9_0 := blk_frozen ad.out 0; have hfz9_1 := blk_frozen ad.out 1
     obtain ⟨a1, a2, eo10⟩ := Kd.V_slice aa.out
     subst eo10
     go_wp2_with (first | ((with_reducible refine gate_callee (f := 17) rfl ?_); refine goesL_ (some 12) rfl rfl Try.func17 (by kernel_rfl) rfl #[.agg #[.int .i64 ac, .slice a1 ab.length a2]] rfl (by (try simp only [List.map_toArray, List.map_cons, List.map_nil]); first | done | rfl | (simp only [List.length_drop, List.length_take]; rfl)) ?_; (with_reducible refine (spec_NextOut.calls k1 ac _ _ ab aN _ ?side1 ?side2 A7.out).mono ?_); (case side1 => repeat (first | exact (Kd.V_reads' aa.out).2.2 | (with_reducible refine Kd.C_alloc ?_ _) | (with_reducible refine Kd.C_drewN ?_ _) | (with_reducible refine Kd.C_drew ?_))); (case side2 => exact (Kd.V_reads' aa.out).2.1); rintro e w11 ⟨rfl, hb⟩; refine ⟨_, rfl, ?_⟩; have al := zK (Kd.V_below (by (with_reducible repeat (first | apply Kd.V_alloc | apply Kd.V_drewN | apply Kd.V_drew)); exact aa.out) hb); have am := zK (blk_below (g := ae) (o := .cells #[.int .i64 ac, .slice a1 ab.length a2] 24 (0, 0)) (zk ad) hb); have an := zK (below_step (zb HB) hb); clear aa; clear ad; clear HB; have aa := al; have ad := am; have HB := an; clear al am an; (try clear hb)))
     go_ret2
     exact ⟨by first | rfl | (simp [errW_none, errW_some] <;> rfl) | (simp [*, errW_none, errW_some] <;> rfl), by repeat (first | (with_reducible first | exact HB.out | apply zB | apply zC | apply zE | refine zS ?_ ag.out) | exact HB.out)⟩
    ·rw [if_neg c8] at H
     have c8b0 : (aN == 0) = false := beq_eq_false_iff_ne.mpr c8
     have c8b1 : (aN != 0) = true := bne_iff_ne.mpr c8
     replace H := Option.bind_eq_some_iff.mp H
     obtain ⟨aA, a3, H⟩ := H
     replace H : ((spec_TakeBag.f k1 ac ab aA).bind fun bt828 => (if bt828.2.2.2 = true then (spec_HopsOf.l0 k1 (wrap64 (aM + (bt828.2.2.1.length : Int))) bt828.1 bt828.2.1) else (some (0, false)))) = some (r1, r2) := H
     have A12 := zK a3; clear a3; replace H := Option.bind_eq_some_iff.mp H
     obtain ⟨⟨aC, aG, aH, a4⟩, a5, H⟩ := H
     replace H : (if a4 = true then (spec_HopsOf.l0 k1 (wrap64 (aM + (aH.length : Int))) aC aG) else (some (0, false))) = some (r1, r2) := H
     have aZ := zK a5; clear a5
     by_cases c14 : a4 = true
     ·subst c14
      have H1 : (spec_HopsOf.l0 k1 (wrap64 (aM + (aH.length : Int))) aC aG) = some (r1, r2) := by rw [if_pos rfl] at H; exact H
      clear H; have H := H1; clear H1; have H' := zK H; clear H
      have hcz15_0 : wr.cell? ⟨ae, 0, none⟩ = some (.int .i64 ac) := (blk_cell ad.out 0).trans rfl
      have hcz15_1 : wr.cell? ⟨ae, 1, none⟩ = some (u825001) := (blk_cell ad.out 1).trans rfl
      have hfz15_0 := blk_frozen ad.out 0; have hfz15_1 := blk_frozen ad.out 1
      obtain ⟨ap, aq, eo16⟩ := Kd.V_slice aa.out
      subst eo16
      try go_wp2_with (first | ((with_reducible refine gate_callee (f := 17) rfl ?_); refine goesL_ (some 12) rfl rfl Try.func17 (by kernel_rfl) rfl #[.agg #[.int .i64 ac, .slice ap ab.length aq]] rfl (by (try simp only [List.map_toArray, List.map_cons, List.map_nil]); first | done | rfl | (simp only [List.length_drop, List.length_take]; rfl)) ?_; (with_reducible refine (spec_NextOut.calls k1 ac _ _ ab aN _ ?side1 ?side2 A7.out).mono ?_); (case side1 => repeat (first | exact (Kd.V_reads' aa.out).2.2 | (with_reducible refine Kd.C_alloc ?_ _) | (with_reducible refine Kd.C_drewN ?_ _) | (with_reducible refine Kd.C_drew ?_))); (case side2 => exact (Kd.V_reads' aa.out).2.1); rintro e w17 ⟨rfl, hb⟩; refine ⟨_, rfl, ?_⟩; have al := zK (Kd.V_below (by (with_reducible repeat (first | apply Kd.V_alloc | apply Kd.V_drewN | apply Kd.V_drew)); exact aa.out) hb); have am := zK (blk_below (g := ae) (o := .cells #[.int .i64 ac, .slice ap ab.length aq] 24 (0, 0)) (zk ad) hb); have an := zK (below_step (zb HB) hb); clear aa; clear ad; clear HB; have aa := al; have ad := am; have HB := an; clear al am an; (try clear hb)))
      have al := zK (Kd.V_drew aa.out)
      have am := zK (zD ad.out)
      have an := zK (zE HB.out)
      clear aa ad HB; have aa := al; have ad := am; have HB := an; clear al am an
      refine start_ (n := 12) (S := fun w' => w'.cell? ⟨ae, 0, none⟩ = some (.int .i64 ac) ∧ w'.cell? ⟨ae, 1, none⟩ = some (.slice ap ab.length aq)) (ds := []) #[ff, ff, ff, ff, ff, ff, ff, ff, ff, ff, ff, ff] (by kernel_rfl) rfl rfl ⟨(blk_cell ad.out 0).trans rfl, (blk_cell ad.out 1).trans rfl⟩ (fun hHeld => ?_); refine with_tabW spec_HopsOf.tab5 spec_HopsOf.bits5 (fun HT_ HW_ => ?_)
      generalize w17.drew = w18 at aa ad HB hHeld ⊢
      refine zt 0 (some 15) #[tt, ff, ff, ff, ff, ff, ff, ff, ff, ff, ff, ff] (take_ofW HT_.out HW_.out (by kernel_rfl)) hHeld ?_
      refine zt 1 (some 16) #[tt, tt, ff, ff, ff, ff, ff, ff, ff, ff, ff, ff] (take_ofW HT_.out HW_.out (by kernel_rfl)) hHeld ?_
      refine join_ (σ := Value × Value × Nat) 3 #[tt, tt, tt, tt, tt, tt, tt, tt, tt, ff, ff, ff] (fun s_ => [(17, .int .i64 aA), (18, .tuple #[.agg #[.int .i64 aC, s_.1], s_.2.1, .bool true]), (5, .pointer (some ⟨s_.2.2, 0, none⟩)), (14, .tuple #[.agg #[.int .i64 aC, s_.1], s_.2.1, .bool true]), (19, .agg #[.int .i64 aC, s_.1]), (20, s_.2.1), (21, .bool true)]) (fun s_ w' => (w'.cell? ⟨ae, 0, none⟩ = some (.int .i64 ac) ∧ w'.cell? ⟨ae, 1, none⟩ = some (.slice ap ab.length aq)) ∧ (Kd.S (Kd.slice 30 k30) 28 w' w.heap.size (fun k_ => (w.heap.size ≤ k_)) s_.1 aG) ∧ (Kd.R k78 78 w' w.heap.size (fun k_ => (w.heap.size ≤ k_)) s_.2.1 aH) ∧ (Kd.V (Kd.slice 30 k30) 28 w' w.heap.size (fun k_ => (P0_1_ k_ ∨ w.heap.size ≤ k_) ∧ some k_ ≠ (s_.1 : Value).ownBlock ∧ some k_ ≠ (s_.2.1 : Value).ownBlock ∧ k_ ≠ ae ∧ k_ ≠ s_.2.2) (.slice ap ab.length aq) ab) ∧ (w'.heap[ae]? = some (.cells #[.int .i64 ac, .slice ap ab.length aq] 24 (0, 0))) ∧ (w'.heap[s_.2.2]? = some (.cells #[.int .i64 0, .slice none 0 0] 24 (0, 0))) ∧ (w.heap.size ≤ s_.2.2) ∧ (w.heap.size ≤ s_.2.2) ∧ (ae ≠ s_.2.2) ∧ (s_.2.2 ≠ ae) ∧ (Below w.heap.size w w')) ?_ ?_
      rotate_left
      ·intro hCont
       refine two_ (i := 2) (j := 8) (Ni := some 17) (Nj := some 5) #[tt, tt, tt, ff, ff, ff, ff, ff, ff, ff, ff, ff] #[tt, tt, ff, ff, ff, ff, ff, ff, tt, ff, ff, ff] rfl rfl rfl rfl (two_of HT_.out (by kernel_rfl)) (by decide) (by decide) (fun K hK => ?_) (fun K hK => ?_)
       ·skip
        refine goes_ Try.func17 (by kernel_rfl) rfl #[.agg #[.int .i64 ac, .slice ap ab.length aq]] (by rfl) rfl rfl (by (try simp only [List.map_toArray, List.map_cons, List.map_nil]); first | done | rfl | (simp only [List.length_drop, List.length_take]; rfl)) ?_
        with_reducible refine (spec_NextOut.calls k1 ac _ _ ab aA _ ?side1 ?side2 A12.out).mono ?_
        (case side1 => repeat (first | exact (Kd.V_reads' aa.out).2.2 | (with_reducible refine Kd.C_alloc ?_ _) | (with_reducible refine Kd.C_drewN ?_ _) | (with_reducible refine Kd.C_drew ?_)))
        (case side2 => exact (Kd.V_reads' aa.out).2.1)
        rintro e w19 ⟨rfl, hb⟩
        refine ⟨_, rfl, ?_⟩
        have al := zK (Kd.V_below (by (with_reducible repeat (first | apply Kd.V_alloc | apply Kd.V_drewN | apply Kd.V_drew)); exact aa.out) hb)
        have am := zK (blk_below (g := ae) (o := .cells #[.int .i64 ac, .slice ap ab.length aq] 24 (0, 0)) (zk ad) hb)
        have an := zK (below_step (zb HB) hb)
        clear aa ad HB; have aa := al; have ad := am; have HB := an; clear al am an; (try clear hb); (try clear hb2); (try clear hk); (try clear hi)
        refine hK.out _ _ ⟨(blk_cell ad.out 0).trans rfl, (blk_cell ad.out 1).trans rfl⟩ (fun hHeld => ?_)
        clear hK K
        refine norm_ (a' := ?_) ?_ ?_
        rotate_left
        ·show Act.put _ (some 17) _ = _
         simp only [Act.put, zp, zq, zr, i64_w, i32_w]
         rfl
        refine two_ (i := 3) (j := 8) (Ni := some 18) (Nj := some 5) #[tt, tt, tt, tt, ff, ff, ff, ff, ff, ff, ff, ff] #[tt, tt, tt, ff, ff, ff, ff, ff, tt, ff, ff, ff] rfl rfl rfl rfl (two_of HT_.out (by kernel_rfl)) (by decide) (by decide) (fun K hK => ?_) (fun K hK => ?_)
        ·skip
         refine goes_ Try.func38 (by kernel_rfl) rfl #[.agg #[.int .i64 ac, .slice ap ab.length aq], .int .i64 aA] (by rfl) rfl rfl (by (try simp only [List.map_toArray, List.map_cons, List.map_nil]); first | done | rfl | (simp only [List.length_drop, List.length_take]; rfl)) ?_
         with_reducible refine (spec_TakeBag.calls k1 ac _ _ ab aA aC aG aH true _ ?side1 ?side2 aZ.out).mono ?_
         (case side1 => repeat (first | exact (Kd.V_reads' aa.out).2.2 | (with_reducible refine Kd.C_alloc ?_ _) | (with_reducible refine Kd.C_drewN ?_ _) | (with_reducible refine Kd.C_drew ?_)))
         (case side2 => exact (Kd.V_reads' aa.out).2.1)
         rintro e w20 ⟨aD, aE, rfl, ho0, ho1, hb⟩
         refine ⟨_, rfl, ?_⟩
         have al := zK (Kd.V_mono (Kd.V_told (Kd.V_told (Kd.V_old (by (with_reducible repeat (first | apply Kd.V_alloc | apply Kd.V_drewN | apply Kd.V_drew)); exact aa.out) hb) (Kd.S_base ho0)) (Kd.R_base ho1)) (fun _ h_ => h_.1))
         have am := zK (Kd.S_lower (Kd.S_newM (M := fun k_ => (w.heap.size ≤ k_)) ho0 (below_size (zb HB)) (fun k_ h_ => h_)) (below_size (zb HB)))
         have an := zK (Kd.R_lower (Kd.R_newM (M := fun k_ => (w.heap.size ≤ k_)) ho1 (below_size (zb HB)) (fun k_ h_ => h_)) (below_size (zb HB)))
         have ax := zK (blk_below (g := ae) (o := .cells #[.int .i64 ac, .slice ap ab.length aq] 24 (0, 0)) (zk ad) hb)
         have ay := zK (below_step (zb HB) hb)
         clear aa ad HB; have aa := al; have ao := am; have ar := an; have ad := ax; have HB := ay; clear al am an ax ay; (try clear hb); (try clear hb2); (try clear hk); (try clear hi); (try clear ho0); (try clear ho1)
         refine hK.out _ _ ⟨(blk_cell ad.out 0).trans rfl, (blk_cell ad.out 1).trans rfl⟩ (fun hHeld => ?_)
         clear hK K
         refine norm_ (a' := ?_) ?_ ?_
         rotate_left
         ·show Act.put _ (some 18) _ = _
          simp only [Act.put, zp, zq, zr, i64_w, i32_w]
          rfl
         refine zu 4 (some 14) #[tt, tt, tt, tt, tt, ff, ff, ff, ff, ff, ff, ff] (any_of HT_.out (by kernel_rfl)) ?_
         refine zu 5 (some 19) #[tt, tt, tt, tt, tt, tt, ff, ff, ff, ff, ff, ff] (any_of HT_.out (by kernel_rfl)) ?_
         refine zu 6 (some 20) #[tt, tt, tt, tt, tt, tt, tt, ff, ff, ff, ff, ff] (any_of HT_.out (by kernel_rfl)) ?_
         refine zu 7 (some 21) #[tt, tt, tt, tt, tt, tt, tt, tt, ff, ff, ff, ff] (any_of HT_.out (by kernel_rfl)) ?_
         refine one_ (i := 8) (N := some 5) #[tt, tt, tt, tt, tt, tt, tt, tt, tt, ff, ff, ff] rfl rfl (one_of HT_.out (by kernel_rfl)) (by decide) (fun K hK => ?_)
         refine box_step ?hg (N := 5) ?hd (cs := #[.int .i64 0, .slice none 0 0]) (t := 24) ?hr ?_; (case hd => rfl); (case hg => rfl); (case hr => first | (go_simp; done) | (go_simp; rfl))
         intro af hg w21 hbox hb
         have al := zK (Kd.V_below (Kd.V_elderB (by (with_reducible repeat (first | apply Kd.V_alloc | apply Kd.V_drewN | apply Kd.V_drew)); exact aa.out) af (Nat.le_of_eq hg.symm)) hb)
         have am := zK (Kd.S_below (zT ao) hb)
         have an := zK (Kd.R_below (zR ar) hb)
         have ax := zK (blk_below (g := ae) (o := .cells #[.int .i64 ac, .slice ap ab.length aq] 24 (0, 0)) (zk ad) hb)
         have ay := zK (below_step (zb HB) hb)
         have aF := zK (hbox)
         have aK := zK ((by rw [hg]; exact (below_size (zb HB)) : w.heap.size ≤ af))
         have aL := zK ((by rw [hg]; exact (below_size (zb HB)) : w.heap.size ≤ af))
         have aP := zK ((by rw [hg]; exact Nat.ne_of_lt (blk_lt (g := ae) (o := .cells #[.int .i64 ac, .slice ap ab.length aq] 24 (0, 0)) (zk ad)) : ae ≠ af))
         have aQ := zK ((by rw [hg]; exact Nat.ne_of_gt (blk_lt (g := ae) (o := .cells #[.int .i64 ac, .slice ap ab.length aq] 24 (0, 0)) (zk ad)) : af ≠ ae))
         clear aa ao ar ad HB; have aa := al; have ao := am; have ar := an; have ad := ax; have HB := ay; have ai := aF; have aB := aK; have ak := aL; have ah := aP; have aj := aQ; clear al am an ax ay aF aK aL aP aQ hb hbox hg
         refine hK.out _ _ ⟨(blk_cell ad.out 0).trans rfl, (blk_cell ad.out 1).trans rfl⟩ (fun hHeld => ?_)
         clear hK K
         refine norm_ (a' := ?_) ?_ ?_
         rotate_left
         ·show Act.put _ (some 5) _ = _
          simp only [Act.put, zp, zq, zr, i64_w, i32_w]
          rfl
         exact norm_ (by simp only [putAll, Act.put, List.setIfInBounds_toArray, List.set_cons_zero, List.set_cons_succ]) (hCont (aD, aE, af) _ ⟨hHeld, (by (with_reducible repeat (first | apply Kd.S_alloc | apply Kd.S_drewN | apply Kd.S_drew)); exact Kd.S_mono ao.out (fun _ hk => hk.1)), (by (with_reducible repeat (first | apply Kd.R_alloc | apply Kd.R_drewN | apply Kd.R_drew)); exact Kd.R_mono ar.out (fun _ hk => hk.1)), (by (with_reducible repeat (first | apply Kd.V_alloc | apply Kd.V_drewN | apply Kd.V_drew)); exact Kd.V_mono aa.out (fun _ hk => ⟨hk.1.1.1.1, ⟨hk.1.1.2, ⟨hk.1.2, ⟨hk.1.1.1.2, hk.2⟩⟩⟩⟩)), (zk ad), (zk ai), aB.out, ak.out, ah.out, aj.out, (zb HB)⟩)
        ·skip
         refine box_step ?hg (N := 5) ?hd (cs := #[.int .i64 0, .slice none 0 0]) (t := 24) ?hr ?_; (case hd => rfl); (case hg => rfl); (case hr => first | (go_simp; done) | (go_simp; rfl))
         intro af hg w20 hbox hb
         have al := zK (Kd.V_below (Kd.V_elderB (by (with_reducible repeat (first | apply Kd.V_alloc | apply Kd.V_drewN | apply Kd.V_drew)); exact aa.out) af (Nat.le_of_eq hg.symm)) hb)
         have am := zK (blk_below (g := ae) (o := .cells #[.int .i64 ac, .slice ap ab.length aq] 24 (0, 0)) (zk ad) hb)
         have an := zK (below_step (zb HB) hb)
         have ax := zK (hbox)
         have ay := zK ((by rw [hg]; exact (below_size (zb HB)) : w.heap.size ≤ af))
         have aF := zK ((by rw [hg]; exact (below_size (zb HB)) : w.heap.size ≤ af))
         have aK := zK ((by rw [hg]; exact Nat.ne_of_lt (blk_lt (g := ae) (o := .cells #[.int .i64 ac, .slice ap ab.length aq] 24 (0, 0)) (zk ad)) : ae ≠ af))
         have aL := zK ((by rw [hg]; exact Nat.ne_of_gt (blk_lt (g := ae) (o := .cells #[.int .i64 ac, .slice ap ab.length aq] 24 (0, 0)) (zk ad)) : af ≠ ae))
         clear aa ad HB; have aa := al; have ad := am; have HB := an; have ai := ax; have aB := ay; have ak := aF; have ah := aK; have aj := aL; clear al am an ax ay aF aK aL hb hbox hg
         refine hK.out _ _ ⟨(blk_cell ad.out 0).trans rfl, (blk_cell ad.out 1).trans rfl⟩ (fun hHeld => ?_)
         clear hK K
         refine norm_ (a' := ?_) ?_ ?_
         rotate_left
         ·show Act.put _ (some 5) _ = _
          simp only [Act.put, zp, zq, zr, i64_w, i32_w]
          rfl
         refine one_ (i := 3) (N := some 18) #[tt, tt, tt, tt, ff, ff, ff, ff, tt, ff, ff, ff] rfl rfl (one_of HT_.out (by kernel_rfl)) (by decide) (fun K hK => ?_)
         refine goes_ Try.func38 (by kernel_rfl) rfl #[.agg #[.int .i64 ac, .slice ap ab.length aq], .int .i64 aA] (by rfl) rfl rfl (by (try simp only [List.map_toArray, List.map_cons, List.map_nil]); first | done | rfl | (simp only [List.length_drop, List.length_take]; rfl)) ?_
         with_reducible refine (spec_TakeBag.calls k1 ac _ _ ab aA aC aG aH true _ ?side1 ?side2 aZ.out).mono ?_
         (case side1 => repeat (first | exact (Kd.V_reads' aa.out).2.2 | (with_reducible refine Kd.C_alloc ?_ _) | (with_reducible refine Kd.C_drewN ?_ _) | (with_reducible refine Kd.C_drew ?_)))
         (case side2 => exact (Kd.V_reads' aa.out).2.1)
         rintro e w21 ⟨aD, aE, rfl, ho0, ho1, hb⟩
         refine ⟨_, rfl, ?_⟩
         have al := zK (Kd.V_mono (Kd.V_told (Kd.V_told (Kd.V_old (by (with_reducible repeat (first | apply Kd.V_alloc | apply Kd.V_drewN | apply Kd.V_drew)); exact aa.out) hb) (Kd.S_base ho0)) (Kd.R_base ho1)) (fun _ h_ => h_.1))
         have am := zK (Kd.S_lower (Kd.S_newM (M := fun k_ => (w.heap.size ≤ k_)) ho0 (below_size (zb HB)) (fun k_ h_ => h_)) (below_size (zb HB)))
         have an := zK (Kd.R_lower (Kd.R_newM (M := fun k_ => (w.heap.size ≤ k_)) ho1 (below_size (zb HB)) (fun k_ h_ => h_)) (below_size (zb HB)))
         have ax := zK (blk_below (g := ae) (o := .cells #[.int .i64 ac, .slice ap ab.length aq] 24 (0, 0)) (zk ad) hb)
         have ay := zK (blk_below (g := af) (o := .cells #[.int .i64 0, .slice none 0 0] 24 (0, 0)) (zk ai) hb)
         have aF := zK (below_step (zb HB) hb)
         clear aa ad ai HB; have aa := al; have ao := am; have ar := an; have ad := ax; have ai := ay; have HB := aF; clear al am an ax ay aF; (try clear hb); (try clear hb2); (try clear hk); (try clear hi); (try clear ho0); (try clear ho1)
         refine hK.out _ _ ⟨(blk_cell ad.out 0).trans rfl, (blk_cell ad.out 1).trans rfl⟩ (fun hHeld => ?_)
         clear hK K
         refine norm_ (a' := ?_) ?_ ?_
         rotate_left
         ·show Act.put _ (some 18) _ = _
          simp only [Act.put, zp, zq, zr, i64_w, i32_w]
          rfl
         refine zu 4 (some 14) #[tt, tt, tt, tt, tt, ff, ff, ff, tt, ff, ff, ff] (any_of HT_.out (by kernel_rfl)) ?_
         refine zu 5 (some 19) #[tt, tt, tt, tt, tt, tt, ff, ff, tt, ff, ff, ff] (any_of HT_.out (by kernel_rfl)) ?_
         refine zu 6 (some 20) #[tt, tt, tt, tt, tt, tt, tt, ff, tt, ff, ff, ff] (any_of HT_.out (by kernel_rfl)) ?_
         refine zu 7 (some 21) #[tt, tt, tt, tt, tt, tt, tt, tt, tt, ff, ff, ff] (any_of HT_.out (by kernel_rfl)) ?_
         exact norm_ (by simp only [putAll, Act.put, List.setIfInBounds_toArray, List.set_cons_zero, List.set_cons_succ]) (hCont (aD, aE, af) _ ⟨hHeld, (by (with_reducible repeat (first | apply Kd.S_alloc | apply Kd.S_drewN | apply Kd.S_drew)); exact Kd.S_mono ao.out (fun _ hk => hk.1)), (by (with_reducible repeat (first | apply Kd.R_alloc | apply Kd.R_drewN | apply Kd.R_drew)); exact Kd.R_mono ar.out (fun _ hk => hk.1)), (by (with_reducible repeat (first | apply Kd.V_alloc | apply Kd.V_drewN | apply Kd.V_drew)); exact Kd.V_mono aa.out (fun _ hk => ⟨hk.1.1.1.1, ⟨hk.1.2, ⟨hk.2, ⟨hk.1.1.1.2, hk.1.1.2⟩⟩⟩⟩)), (zk ad), (zk ai), aB.out, ak.out, ah.out, aj.out, (zb HB)⟩)
       ·skip
        refine box_step ?hg (N := 5) ?hd (cs := #[.int .i64 0, .slice none 0 0]) (t := 24) ?hr ?_; (case hd => rfl); (case hg => rfl); (case hr => first | (go_simp; done) | (go_simp; rfl))
        intro af hg w19 hbox hb
        have al := zK (Kd.V_below (Kd.V_elderB (by (with_reducible repeat (first | apply Kd.V_alloc | apply Kd.V_drewN | apply Kd.V_drew)); exact aa.out) af (Nat.le_of_eq hg.symm)) hb)
        have am := zK (blk_below (g := ae) (o := .cells #[.int .i64 ac, .slice ap ab.length aq] 24 (0, 0)) (zk ad) hb)
        have an := zK (below_step (zb HB) hb)
        have ax := zK (hbox)
        have ay := zK ((by rw [hg]; exact (below_size (zb HB)) : w.heap.size ≤ af))
        have aF := zK ((by rw [hg]; exact (below_size (zb HB)) : w.heap.size ≤ af))
        have aK := zK ((by rw [hg]; exact Nat.ne_of_lt (blk_lt (g := ae) (o := .cells #[.int .i64 ac, .slice ap ab.length aq] 24 (0, 0)) (zk ad)) : ae ≠ af))
        have aL := zK ((by rw [hg]; exact Nat.ne_of_gt (blk_lt (g := ae) (o := .cells #[.int .i64 ac, .slice ap ab.length aq] 24 (0, 0)) (zk ad)) : af ≠ ae))
        clear aa ad HB; have aa := al; have ad := am; have HB := an; have ai := ax; have aB := ay; have ak := aF; have ah := aK; have aj := aL; clear al am an ax ay aF aK aL hb hbox hg
        refine hK.out _ _ ⟨(blk_cell ad.out 0).trans rfl, (blk_cell ad.out 1).trans rfl⟩ (fun hHeld => ?_)
        clear hK K
        refine norm_ (a' := ?_) ?_ ?_
        rotate_left
        ·show Act.put _ (some 5) _ = _
         simp only [Act.put, zp, zq, zr, i64_w, i32_w]
         rfl
        refine one_ (i := 2) (N := some 17) #[tt, tt, tt, ff, ff, ff, ff, ff, tt, ff, ff, ff] rfl rfl (one_of HT_.out (by kernel_rfl)) (by decide) (fun K hK => ?_)
        refine goes_ Try.func17 (by kernel_rfl) rfl #[.agg #[.int .i64 ac, .slice ap ab.length aq]] (by rfl) rfl rfl (by (try simp only [List.map_toArray, List.map_cons, List.map_nil]); first | done | rfl | (simp only [List.length_drop, List.length_take]; rfl)) ?_
        with_reducible refine (spec_NextOut.calls k1 ac _ _ ab aA _ ?side1 ?side2 A12.out).mono ?_
        (case side1 => repeat (first | exact (Kd.V_reads' aa.out).2.2 | (with_reducible refine Kd.C_alloc ?_ _) | (with_reducible refine Kd.C_drewN ?_ _) | (with_reducible refine Kd.C_drew ?_)))
        (case side2 => exact (Kd.V_reads' aa.out).2.1)
        rintro e w20 ⟨rfl, hb⟩
        refine ⟨_, rfl, ?_⟩
        have al := zK (Kd.V_below (by (with_reducible repeat (first | apply Kd.V_alloc | apply Kd.V_drewN | apply Kd.V_drew)); exact aa.out) hb)
        have am := zK (blk_below (g := ae) (o := .cells #[.int .i64 ac, .slice ap ab.length aq] 24 (0, 0)) (zk ad) hb)
        have an := zK (blk_below (g := af) (o := .cells #[.int .i64 0, .slice none 0 0] 24 (0, 0)) (zk ai) hb)
        have ax := zK (below_step (zb HB) hb)
        clear aa ad ai HB; have aa := al; have ad := am; have ai := an; have HB := ax; clear al am an ax; (try clear hb); (try clear hb2); (try clear hk); (try clear hi)
        refine hK.out _ _ ⟨(blk_cell ad.out 0).trans rfl, (blk_cell ad.out 1).trans rfl⟩ (fun hHeld => ?_)
        clear hK K
        refine norm_ (a' := ?_) ?_ ?_
        rotate_left
        ·show Act.put _ (some 17) _ = _
         simp only [Act.put, zp, zq, zr, i64_w, i32_w]
         rfl
        refine one_ (i := 3) (N := some 18) #[tt, tt, tt, tt, ff, ff, ff, ff, tt, ff, ff, ff] rfl rfl (one_of HT_.out (by kernel_rfl)) (by decide) (fun K hK => ?_)
        refine goes_ Try.func38 (by kernel_rfl) rfl #[.agg #[.int .i64 ac, .slice ap ab.length aq], .int .i64 aA] (by rfl) rfl rfl (by (try simp only [List.map_toArray, List.map_cons, List.map_nil]); first | done | rfl | (simp only [List.length_drop, List.length_take]; rfl)) ?_
        with_reducible refine (spec_TakeBag.calls k1 ac _ _ ab aA aC aG aH true _ ?side1 ?side2 aZ.out).mono ?_
        (case side1 => repeat (first | exact (Kd.V_reads' aa.out).2.2 | (with_reducible refine Kd.C_alloc ?_ _) | (with_reducible refine Kd.C_drewN ?_ _) | (with_reducible refine Kd.C_drew ?_)))
        (case side2 => exact (Kd.V_reads' aa.out).2.1)
        rintro e w21 ⟨aD, aE, rfl, ho0, ho1, hb⟩
        refine ⟨_, rfl, ?_⟩
        have al := zK (Kd.V_mono (Kd.V_told (Kd.V_told (Kd.V_old (by (with_reducible repeat (first | apply Kd.V_alloc | apply Kd.V_drewN | apply Kd.V_drew)); exact aa.out) hb) (Kd.S_base ho0)) (Kd.R_base ho1)) (fun _ h_ => h_.1))
        have am := zK (Kd.S_lower (Kd.S_newM (M := fun k_ => (w.heap.size ≤ k_)) ho0 (below_size (zb HB)) (fun k_ h_ => h_)) (below_size (zb HB)))
        have an := zK (Kd.R_lower (Kd.R_newM (M := fun k_ => (w.heap.size ≤ k_)) ho1 (below_size (zb HB)) (fun k_ h_ => h_)) (below_size (zb HB)))
        have ax := zK (blk_below (g := ae) (o := .cells #[.int .i64 ac, .slice ap ab.length aq] 24 (0, 0)) (zk ad) hb)
        have ay := zK (blk_below (g := af) (o := .cells #[.int .i64 0, .slice none 0 0] 24 (0, 0)) (zk ai) hb)
        have aF := zK (below_step (zb HB) hb)
        clear aa ad ai HB; have aa := al; have ao := am; have ar := an; have ad := ax; have ai := ay; have HB := aF; clear al am an ax ay aF; (try clear hb); (try clear hb2); (try clear hk); (try clear hi); (try clear ho0); (try clear ho1)
        refine hK.out _ _ ⟨(blk_cell ad.out 0).trans rfl, (blk_cell ad.out 1).trans rfl⟩ (fun hHeld => ?_)
        clear hK K
        refine norm_ (a' := ?_) ?_ ?_
        rotate_left
        ·show Act.put _ (some 18) _ = _
         simp only [Act.put, zp, zq, zr, i64_w, i32_w]
         rfl
        refine zu 4 (some 14) #[tt, tt, tt, tt, tt, ff, ff, ff, tt, ff, ff, ff] (any_of HT_.out (by kernel_rfl)) ?_
        refine zu 5 (some 19) #[tt, tt, tt, tt, tt, tt, ff, ff, tt, ff, ff, ff] (any_of HT_.out (by kernel_rfl)) ?_
        refine zu 6 (some 20) #[tt, tt, tt, tt, tt, tt, tt, ff, tt, ff, ff, ff] (any_of HT_.out (by kernel_rfl)) ?_
        refine zu 7 (some 21) #[tt, tt, tt, tt, tt, tt, tt, tt, tt, ff, ff, ff] (any_of HT_.out (by kernel_rfl)) ?_
        exact norm_ (by simp only [putAll, Act.put, List.setIfInBounds_toArray, List.set_cons_zero, List.set_cons_succ]) (hCont (aD, aE, af) _ ⟨hHeld, (by (with_reducible repeat (first | apply Kd.S_alloc | apply Kd.S_drewN | apply Kd.S_drew)); exact Kd.S_mono ao.out (fun _ hk => hk.1)), (by (with_reducible repeat (first | apply Kd.R_alloc | apply Kd.R_drewN | apply Kd.R_drew)); exact Kd.R_mono ar.out (fun _ hk => hk.1)), (by (with_reducible repeat (first | apply Kd.V_alloc | apply Kd.V_drewN | apply Kd.V_drew)); exact Kd.V_mono aa.out (fun _ hk => ⟨hk.1.1.1.1, ⟨hk.1.2, ⟨hk.2, ⟨hk.1.1.1.2, hk.1.1.2⟩⟩⟩⟩)), (zk ad), (zk ai), aB.out, ak.out, ah.out, aj.out, (zb HB)⟩)
      rintro ⟨aD, aE, af⟩ aO ⟨hS_, h0_, h1_, h2_, h3_, h4_, h5_, h6_, h7_, h8_, h9_⟩
      have al : Aside0 (Kd.S (Kd.slice 30 k30) 28 aO w.heap.size (fun k_ => (w.heap.size ≤ k_)) aD aG) := ⟨h0_⟩
      have am : Aside0 (Kd.R k78 78 aO w.heap.size (fun k_ => (w.heap.size ≤ k_)) aE aH) := ⟨h1_⟩
      have an : Aside0 (Kd.V (Kd.slice 30 k30) 28 aO w.heap.size (fun k_ => (P0_1_ k_ ∨ w.heap.size ≤ k_) ∧ some k_ ≠ (aD : Value).ownBlock ∧ some k_ ≠ (aE : Value).ownBlock ∧ k_ ≠ ae ∧ k_ ≠ af) (.slice ap ab.length aq) ab) := ⟨h2_⟩
      have ax : Aside0 (aO.heap[ae]? = some (.cells #[.int .i64 ac, .slice ap ab.length aq] 24 (0, 0))) := ⟨h3_⟩
      have ay : Aside0 (aO.heap[af]? = some (.cells #[.int .i64 0, .slice none 0 0] 24 (0, 0))) := ⟨h4_⟩
      have aF : Aside0 (w.heap.size ≤ af) := ⟨h5_⟩
      have aK : Aside0 (w.heap.size ≤ af) := ⟨h6_⟩
      have aL : Aside0 (ae ≠ af) := ⟨h7_⟩
      have aP : Aside0 (af ≠ ae) := ⟨h8_⟩
      have aQ : Aside0 (Below w.heap.size w aO) := ⟨h9_⟩
      clear aa ad HB h0_ h1_ h2_ h3_ h4_ h5_ h6_ h7_ h8_ h9_; have ao := al; have ar := am; have aa := an; have ad := ax; have ai := ay; have aB := aF; have ak := aK; have ah := aL; have aj := aP; have HB := aQ; clear al am an ax ay aF aK aL aP aQ
      have hHeld : aO.cell? ⟨ae, 0, none⟩ = some (.int .i64 ac) ∧ aO.cell? ⟨ae, 1, none⟩ = some (.slice ap ab.length aq) := hS_
      obtain ⟨aX, aY, a6⟩ := Kd.S_slice ao.out
      (first | subst a6 | (injection a6 with f1_ f2_ f3_; have f4_ := f1_.symm; have f5_ := f3_.symm; clear f1_ f2_ f3_; subst f4_; subst f5_))
      refine norm_ (a' := ?_) ?_ ?_
      rotate_left
      ·simp only [putAll, Act.put, List.setIfInBounds_toArray, List.set_cons_zero, List.set_cons_succ]
       rfl
      refine one_ (i := 9) (N := none) #[tt, tt, tt, tt, tt, tt, tt, tt, tt, tt, ff, ff] rfl rfl (one_of HT_.out (by kernel_rfl)) (by decide) (fun K hK => ?_)
      have hs23 : aO.cell? ⟨af, 0, none⟩ = some (.int .i64 0) := (blk_cell ai.out 0).trans rfl
      have hfs23 := blk_frozen ai.out 0; have hns23_0 := ah.out; have hms23_0 := aj.out
      have hs25 : aO.cell? ⟨af, 1, none⟩ = some (.slice none 0 0) := (blk_cell ai.out 1).trans rfl
      have hfs25 := blk_frozen ai.out 1; have hns25_0 := ah.out; have hms25_0 := aj.out
      refine skip_ (w1 := ?_) (by rfl) rfl ?_ ?_
      rotate_left
      ·go_simp
       rfl
      refine hK.out _ _ ⟨((cell_far (p := ⟨af, _, none⟩) ah.out _).trans (((cell_far (p := ⟨af, _, none⟩) ah.out _).trans (hHeld.1)))), ((cell_far (p := ⟨af, _, none⟩) ah.out _).trans (((cell_far (p := ⟨af, _, none⟩) ah.out _).trans (hHeld.2))))⟩ (fun hHeld => ?_)
      clear hK K
      refine zu 10 (some 6) #[tt, tt, tt, tt, tt, tt, tt, tt, tt, tt, tt, ff] (any_of HT_.out (by kernel_rfl)) ?_
      refine zu 11 (some 7) #[tt, tt, tt, tt, tt, tt, tt, tt, tt, tt, tt, tt] (any_of HT_.out (by kernel_rfl)) ?_
      refine done_ (done_of HT_.out (by kernel_rfl)) ?_
      obtain ⟨Ao26, co26, eo26⟩ := Kd.R_slice ar.out
      subst eo26; have hnb27 := aj.out; have hnc27 := ah.out
      have hcz28_0 : aO.cell? ⟨af, 0, none⟩ = some (.int .i64 0) := (blk_cell ai.out 0).trans rfl
      have hcz28_1 : aO.cell? ⟨af, 1, none⟩ = some (.slice none 0 0) := (blk_cell ai.out 1).trans rfl
      have hfz28_0 := blk_frozen ai.out 0; have hfz28_1 := blk_frozen ai.out 1
      have hcz29_0 : aO.cell? ⟨ae, 0, none⟩ = some (.int .i64 ac) := (blk_cell ad.out 0).trans rfl
      have hcz29_1 : aO.cell? ⟨ae, 1, none⟩ = some (.slice ap ab.length aq) := (blk_cell ad.out 1).trans rfl
      have hfz29_0 := blk_frozen ad.out 0; have hfz29_1 := blk_frozen ad.out 1
      try go_wp2
      go_roundg k1
      case measure => have := HK1.out; omega
      case rel => exact ⟨(wrap64 (aM + (aH.length : Int))), (aC), (aG), (.slice aX aG.length aY), (by first | rfl | (simp; done) | (simp [*]; done)), H', ⟨by have := HK1.out; omega⟩, ⟨Kd.V_mono (Kd.S_V (by (with_reducible repeat (first | apply Kd.S_alloc | apply Kd.S_drewN | apply Kd.S_drew)); exact Kd.S_mono (ok' := fun k_ => (((w.heap.size ≤ k_)) ∧ k_ ≠ ae)) (Kd.S_far (p := ⟨ae, 1, none⟩) (Kd.S_far (p := ⟨ae, 0, none⟩) (Kd.S_far (p := ⟨af, 1, none⟩) (Kd.S_far (p := ⟨af, 0, none⟩) (Kd.S_types (Kd.S_types (Kd.S_types ao.out ad.out (by decide)) ai.out (by decide)) ad.out (by decide)) (fun _ hk => hk.1.2) (.int .i64 aC)) (fun _ hk => hk.1.2) (.slice aX aG.length aY)) (fun _ hk => hk.2) (.int .i64 aC)) (fun _ hk => hk.2) (.slice aX aG.length aY)) (fun _ hk => ⟨hk.1.1.1, hk.1.1.2⟩))) (fun k_ hk => by first | exact ⟨(.inr (hk.1)), hk.2⟩ | exact (.inr (hk)))⟩, ⟨by (with_reducible repeat (first | refine zN ?_ _ | refine zD ?_ | refine zA ?_ _)); refine blk_put (cs := #[.int .i64 aC, .slice ap ab.length aq]) ?_ 1 _ rfl; (with_reducible repeat (first | refine zN ?_ _ | refine zD ?_ | refine zA ?_ _)); refine blk_put (cs := #[.int .i64 ac, .slice ap ab.length aq]) ?_ 0 _ rfl; (with_reducible repeat (first | refine zN ?_ _ | refine zD ?_ | refine zA ?_ _)); refine blk_far ?_ ah.out _; (with_reducible repeat (first | refine zN ?_ _ | refine zD ?_ | refine zA ?_ _)); refine blk_far ?_ ah.out _; (with_reducible repeat (first | refine zN ?_ _ | refine zD ?_ | refine zA ?_ _)); exact ad.out⟩, ⟨zb HB⟩⟩
     ·replace c14 := Bool.eq_false_iff.mpr c14
      subst c14
      have H1 : (some (0, false)) = some (r1, r2) := by rw [if_neg (show ¬ (false = true) by decide)] at H; exact H
      clear H; have H := H1; clear H1
      simp only [Option.some.injEq, Prod.mk.injEq] at H
      obtain ⟨rfl, rfl⟩ := H
      have hcz30_0 : wr.cell? ⟨ae, 0, none⟩ = some (.int .i64 ac) := (blk_cell ad.out 0).trans rfl
      have hcz30_1 : wr.cell? ⟨ae, 1, none⟩ = some (u825001) := (blk_cell ad.out 1).trans rfl
      have hfz30_0 := blk_frozen ad.out 0; have hfz30_1 := blk_frozen ad.out 1
      obtain ⟨au, av, eo31⟩ := Kd.V_slice aa.out
      subst eo31
      try go_wp2_with (first | ((with_reducible refine gate_callee (f := 17) rfl ?_); refine goesL_ (some 12) rfl rfl Try.func17 (by kernel_rfl) rfl #[.agg #[.int .i64 ac, .slice au ab.length av]] rfl (by (try simp only [List.map_toArray, List.map_cons, List.map_nil]); first | done | rfl | (simp only [List.length_drop, List.length_take]; rfl)) ?_; (with_reducible refine (spec_NextOut.calls k1 ac _ _ ab aN _ ?side1 ?side2 A7.out).mono ?_); (case side1 => repeat (first | exact (Kd.V_reads' aa.out).2.2 | (with_reducible refine Kd.C_alloc ?_ _) | (with_reducible refine Kd.C_drewN ?_ _) | (with_reducible refine Kd.C_drew ?_))); (case side2 => exact (Kd.V_reads' aa.out).2.1); rintro e w32 ⟨rfl, hb⟩; refine ⟨_, rfl, ?_⟩; have al := zK (Kd.V_below (by (with_reducible repeat (first | apply Kd.V_alloc | apply Kd.V_drewN | apply Kd.V_drew)); exact aa.out) hb); have am := zK (blk_below (g := ae) (o := .cells #[.int .i64 ac, .slice au ab.length av] 24 (0, 0)) (zk ad) hb); have an := zK (below_step (zb HB) hb); clear aa; clear ad; clear HB; have aa := al; have ad := am; have HB := an; clear al am an; (try clear hb)))
      have al := zK (Kd.V_drew aa.out)
      have am := zK (zD ad.out)
      have an := zK (zE HB.out)
      clear aa ad HB; have aa := al; have ad := am; have HB := an; clear al am an
      refine start_ (n := 12) (S := fun w' => w'.cell? ⟨ae, 0, none⟩ = some (.int .i64 ac) ∧ w'.cell? ⟨ae, 1, none⟩ = some (.slice au ab.length av)) (ds := []) #[ff, ff, ff, ff, ff, ff, ff, ff, ff, ff, ff, ff] (by kernel_rfl) rfl rfl ⟨(blk_cell ad.out 0).trans rfl, (blk_cell ad.out 1).trans rfl⟩ (fun hHeld => ?_); refine with_tabW spec_HopsOf.tab5 spec_HopsOf.bits5 (fun HT_ HW_ => ?_)
      generalize w32.drew = w33 at aa ad HB hHeld ⊢
      refine zt 0 (some 15) #[tt, ff, ff, ff, ff, ff, ff, ff, ff, ff, ff, ff] (take_ofW HT_.out HW_.out (by kernel_rfl)) hHeld ?_
      refine zt 1 (some 16) #[tt, tt, ff, ff, ff, ff, ff, ff, ff, ff, ff, ff] (take_ofW HT_.out HW_.out (by kernel_rfl)) hHeld ?_
      refine join_ (σ := Value × Value × Nat) 3 #[tt, tt, tt, tt, tt, tt, tt, tt, tt, ff, ff, ff] (fun s_ => [(17, .int .i64 aA), (18, .tuple #[.agg #[.int .i64 aC, s_.1], s_.2.1, .bool false]), (5, .pointer (some ⟨s_.2.2, 0, none⟩)), (14, .tuple #[.agg #[.int .i64 aC, s_.1], s_.2.1, .bool false]), (19, .agg #[.int .i64 aC, s_.1]), (20, s_.2.1), (21, .bool false)]) (fun s_ w' => (w'.cell? ⟨ae, 0, none⟩ = some (.int .i64 ac) ∧ w'.cell? ⟨ae, 1, none⟩ = some (.slice au ab.length av)) ∧ (Kd.S (Kd.slice 30 k30) 28 w' w.heap.size (fun k_ => (w.heap.size ≤ k_)) s_.1 aG) ∧ (Kd.R k78 78 w' w.heap.size (fun k_ => (w.heap.size ≤ k_)) s_.2.1 aH) ∧ (Kd.V (Kd.slice 30 k30) 28 w' w.heap.size (fun k_ => (P0_1_ k_ ∨ w.heap.size ≤ k_) ∧ some k_ ≠ (s_.1 : Value).ownBlock ∧ some k_ ≠ (s_.2.1 : Value).ownBlock ∧ k_ ≠ ae ∧ k_ ≠ s_.2.2) (.slice au ab.length av) ab) ∧ (w'.heap[ae]? = some (.cells #[.int .i64 ac, .slice au ab.length av] 24 (0, 0))) ∧ (w'.heap[s_.2.2]? = some (.cells #[.int .i64 0, .slice none 0 0] 24 (0, 0))) ∧ (w.heap.size ≤ s_.2.2) ∧ (w.heap.size ≤ s_.2.2) ∧ (ae ≠ s_.2.2) ∧ (s_.2.2 ≠ ae) ∧ (Below w.heap.size w w')) ?_ ?_
      rotate_left
      ·intro hCont
       refine two_ (i := 2) (j := 8) (Ni := some 17) (Nj := some 5) #[tt, tt, tt, ff, ff, ff, ff, ff, ff, ff, ff, ff] #[tt, tt, ff, ff, ff, ff, ff, ff, tt, ff, ff, ff] rfl rfl rfl rfl (two_of HT_.out (by kernel_rfl)) (by decide) (by decide) (fun K hK => ?_) (fun K hK => ?_)
       ·skip
        refine goes_ Try.func17 (by kernel_rfl) rfl #[.agg #[.int .i64 ac, .slice au ab.length av]] (by rfl) rfl rfl (by (try simp only [List.map_toArray, List.map_cons, List.map_nil]); first | done | rfl | (simp only [List.length_drop, List.length_take]; rfl)) ?_
        with_reducible refine (spec_NextOut.calls k1 ac _ _ ab aA _ ?side1 ?side2 A12.out).mono ?_
        (case side1 => repeat (first | exact (Kd.V_reads' aa.out).2.2 | (with_reducible refine Kd.C_alloc ?_ _) | (with_reducible refine Kd.C_drewN ?_ _) | (with_reducible refine Kd.C_drew ?_)))
        (case side2 => exact (Kd.V_reads' aa.out).2.1)
        rintro e w34 ⟨rfl, hb⟩
        refine ⟨_, rfl, ?_⟩
        have al := zK (Kd.V_below (by (with_reducible repeat (first | apply Kd.V_alloc | apply Kd.V_drewN | apply Kd.V_drew)); exact aa.out) hb)
        have am := zK (blk_below (g := ae) (o := .cells #[.int .i64 ac, .slice au ab.length av] 24 (0, 0)) (zk ad) hb)
        have an := zK (below_step (zb HB) hb)
        clear aa ad HB; have aa := al; have ad := am; have HB := an; clear al am an; (try clear hb); (try clear hb2); (try clear hk); (try clear hi)
        refine hK.out _ _ ⟨(blk_cell ad.out 0).trans rfl, (blk_cell ad.out 1).trans rfl⟩ (fun hHeld => ?_)
        clear hK K
        refine norm_ (a' := ?_) ?_ ?_
        rotate_left
        ·show Act.put _ (some 17) _ = _
         simp only [Act.put, zp, zq, zr, i64_w, i32_w]
         rfl
        refine two_ (i := 3) (j := 8) (Ni := some 18) (Nj := some 5) #[tt, tt, tt, tt, ff, ff, ff, ff, ff, ff, ff, ff] #[tt, tt, tt, ff, ff, ff, ff, ff, tt, ff, ff, ff] rfl rfl rfl rfl (two_of HT_.out (by kernel_rfl)) (by decide) (by decide) (fun K hK => ?_) (fun K hK => ?_)
        ·skip
         refine goes_ Try.func38 (by kernel_rfl) rfl #[.agg #[.int .i64 ac, .slice au ab.length av], .int .i64 aA] (by rfl) rfl rfl (by (try simp only [List.map_toArray, List.map_cons, List.map_nil]); first | done | rfl | (simp only [List.length_drop, List.length_take]; rfl)) ?_
         with_reducible refine (spec_TakeBag.calls k1 ac _ _ ab aA aC aG aH false _ ?side1 ?side2 aZ.out).mono ?_
         (case side1 => repeat (first | exact (Kd.V_reads' aa.out).2.2 | (with_reducible refine Kd.C_alloc ?_ _) | (with_reducible refine Kd.C_drewN ?_ _) | (with_reducible refine Kd.C_drew ?_)))
         (case side2 => exact (Kd.V_reads' aa.out).2.1)
         rintro e w35 ⟨aD, aE, rfl, ho0, ho1, hb⟩
         refine ⟨_, rfl, ?_⟩
         have al := zK (Kd.V_mono (Kd.V_told (Kd.V_told (Kd.V_old (by (with_reducible repeat (first | apply Kd.V_alloc | apply Kd.V_drewN | apply Kd.V_drew)); exact aa.out) hb) (Kd.S_base ho0)) (Kd.R_base ho1)) (fun _ h_ => h_.1))
         have am := zK (Kd.S_lower (Kd.S_newM (M := fun k_ => (w.heap.size ≤ k_)) ho0 (below_size (zb HB)) (fun k_ h_ => h_)) (below_size (zb HB)))
         have an := zK (Kd.R_lower (Kd.R_newM (M := fun k_ => (w.heap.size ≤ k_)) ho1 (below_size (zb HB)) (fun k_ h_ => h_)) (below_size (zb HB)))
         have ax := zK (blk_below (g := ae) (o := .cells #[.int .i64 ac, .slice au ab.length av] 24 (0, 0)) (zk ad) hb)
         have ay := zK (below_step (zb HB) hb)
         clear aa ad HB; have aa := al; have ao := am; have ar := an; have ad := ax; have HB := ay; clear al am an ax ay; (try clear hb); (try clear hb2); (try clear hk); (try clear hi); (try clear ho0); (try clear ho1)
         refine hK.out _ _ ⟨(blk_cell ad.out 0).trans rfl, (blk_cell ad.out 1).trans rfl⟩ (fun hHeld => ?_)
         clear hK K
         refine norm_ (a' := ?_) ?_ ?_
         rotate_left
         ·show Act.put _ (some 18) _ = _
          simp only [Act.put, zp, zq, zr, i64_w, i32_w]
          rfl
         refine zu 4 (some 14) #[tt, tt, tt, tt, tt, ff, ff, ff, ff, ff, ff, ff] (any_of HT_.out (by kernel_rfl)) ?_
         refine zu 5 (some 19) #[tt, tt, tt, tt, tt, tt, ff, ff, ff, ff, ff, ff] (any_of HT_.out (by kernel_rfl)) ?_
         refine zu 6 (some 20) #[tt, tt, tt, tt, tt, tt, tt, ff, ff, ff, ff, ff] (any_of HT_.out (by kernel_rfl)) ?_
         refine zu 7 (some 21) #[tt, tt, tt, tt, tt, tt, tt, tt, ff, ff, ff, ff] (any_of HT_.out (by kernel_rfl)) ?_
         refine one_ (i := 8) (N := some 5) #[tt, tt, tt, tt, tt, tt, tt, tt, tt, ff, ff, ff] rfl rfl (one_of HT_.out (by kernel_rfl)) (by decide) (fun K hK => ?_)
         refine box_step ?hg (N := 5) ?hd (cs := #[.int .i64 0, .slice none 0 0]) (t := 24) ?hr ?_; (case hd => rfl); (case hg => rfl); (case hr => first | (go_simp; done) | (go_simp; rfl))
         intro af hg w36 hbox hb
         have al := zK (Kd.V_below (Kd.V_elderB (by (with_reducible repeat (first | apply Kd.V_alloc | apply Kd.V_drewN | apply Kd.V_drew)); exact aa.out) af (Nat.le_of_eq hg.symm)) hb)
         have am := zK (Kd.S_below (zT ao) hb)
         have an := zK (Kd.R_below (zR ar) hb)
         have ax := zK (blk_below (g := ae) (o := .cells #[.int .i64 ac, .slice au ab.length av] 24 (0, 0)) (zk ad) hb)
         have ay := zK (below_step (zb HB) hb)
         have aF := zK (hbox)
         have aK := zK ((by rw [hg]; exact (below_size (zb HB)) : w.heap.size ≤ af))
         have aL := zK ((by rw [hg]; exact (below_size (zb HB)) : w.heap.size ≤ af))
         have aP := zK ((by rw [hg]; exact Nat.ne_of_lt (blk_lt (g := ae) (o := .cells #[.int .i64 ac, .slice au ab.length av] 24 (0, 0)) (zk ad)) : ae ≠ af))
         have aQ := zK ((by rw [hg]; exact Nat.ne_of_gt (blk_lt (g := ae) (o := .cells #[.int .i64 ac, .slice au ab.length av] 24 (0, 0)) (zk ad)) : af ≠ ae))
         clear aa ao ar ad HB; have aa := al; have ao := am; have ar := an; have ad := ax; have HB := ay; have ai := aF; have aB := aK; have ak := aL; have ah := aP; have aj := aQ; clear al am an ax ay aF aK aL aP aQ hb hbox hg
         refine hK.out _ _ ⟨(blk_cell ad.out 0).trans rfl, (blk_cell ad.out 1).trans rfl⟩ (fun hHeld => ?_)
         clear hK K
         refine norm_ (a' := ?_) ?_ ?_
         rotate_left
         ·show Act.put _ (some 5) _ = _
          simp only [Act.put, zp, zq, zr, i64_w, i32_w]
          rfl
         exact norm_ (by simp only [putAll, Act.put, List.setIfInBounds_toArray, List.set_cons_zero, List.set_cons_succ]) (hCont (aD, aE, af) _ ⟨hHeld, (by (with_reducible repeat (first | apply Kd.S_alloc | apply Kd.S_drewN | apply Kd.S_drew)); exact Kd.S_mono ao.out (fun _ hk => hk.1)), (by (with_reducible repeat (first | apply Kd.R_alloc | apply Kd.R_drewN | apply Kd.R_drew)); exact Kd.R_mono ar.out (fun _ hk => hk.1)), (by (with_reducible repeat (first | apply Kd.V_alloc | apply Kd.V_drewN | apply Kd.V_drew)); exact Kd.V_mono aa.out (fun _ hk => ⟨hk.1.1.1.1, ⟨hk.1.1.2, ⟨hk.1.2, ⟨hk.1.1.1.2, hk.2⟩⟩⟩⟩)), (zk ad), (zk ai), aB.out, ak.out, ah.out, aj.out, (zb HB)⟩)
        ·skip
         refine box_step ?hg (N := 5) ?hd (cs := #[.int .i64 0, .slice none 0 0]) (t := 24) ?hr ?_; (case hd => rfl); (case hg => rfl); (case hr => first | (go_simp; done) | (go_simp; rfl))
         intro af hg w35 hbox hb
         have al := zK (Kd.V_below (Kd.V_elderB (by (with_reducible repeat (first | apply Kd.V_alloc | apply Kd.V_drewN | apply Kd.V_drew)); exact aa.out) af (Nat.le_of_eq hg.symm)) hb)
         have am := zK (blk_below (g := ae) (o := .cells #[.int .i64 ac, .slice au ab.length av] 24 (0, 0)) (zk ad) hb)
         have an := zK (below_step (zb HB) hb)
         have ax := zK (hbox)
         have ay := zK ((by rw [hg]; exact (below_size (zb HB)) : w.heap.size ≤ af))
         have aF := zK ((by rw [hg]; exact (below_size (zb HB)) : w.heap.size ≤ af))
         have aK := zK ((by rw [hg]; exact Nat.ne_of_lt (blk_lt (g := ae) (o := .cells #[.int .i64 ac, .slice au ab.length av] 24 (0, 0)) (zk ad)) : ae ≠ af))
         have aL := zK ((by rw [hg]; exact Nat.ne_of_gt (blk_lt (g := ae) (o := .cells #[.int .i64 ac, .slice au ab.length av] 24 (0, 0)) (zk ad)) : af ≠ ae))
         clear aa ad HB; have aa := al; have ad := am; have HB := an; have ai := ax; have aB := ay; have ak := aF; have ah := aK; have aj := aL; clear al am an ax ay aF aK aL hb hbox hg
         refine hK.out _ _ ⟨(blk_cell ad.out 0).trans rfl, (blk_cell ad.out 1).trans rfl⟩ (fun hHeld => ?_)
         clear hK K
         refine norm_ (a' := ?_) ?_ ?_
         rotate_left
         ·show Act.put _ (some 5) _ = _
          simp only [Act.put, zp, zq, zr, i64_w, i32_w]
          rfl
         refine one_ (i := 3) (N := some 18) #[tt, tt, tt, tt, ff, ff, ff, ff, tt, ff, ff, ff] rfl rfl (one_of HT_.out (by kernel_rfl)) (by decide) (fun K hK => ?_)
         refine goes_ Try.func38 (by kernel_rfl) rfl #[.agg #[.int .i64 ac, .slice au ab.length av], .int .i64 aA] (by rfl) rfl rfl (by (try simp only [List.map_toArray, List.map_cons, List.map_nil]); first | done | rfl | (simp only [List.length_drop, List.length_take]; rfl)) ?_
         with_reducible refine (spec_TakeBag.calls k1 ac _ _ ab aA aC aG aH false _ ?side1 ?side2 aZ.out).mono ?_
         (case side1 => repeat (first | exact (Kd.V_reads' aa.out).2.2 | (with_reducible refine Kd.C_alloc ?_ _) | (with_reducible refine Kd.C_drewN ?_ _) | (with_reducible refine Kd.C_drew ?_)))
         (case side2 => exact (Kd.V_reads' aa.out).2.1)
         rintro e w36 ⟨aD, aE, rfl, ho0, ho1, hb⟩
         refine ⟨_, rfl, ?_⟩
         have al := zK (Kd.V_mono (Kd.V_told (Kd.V_told (Kd.V_old (by (with_reducible repeat (first | apply Kd.V_alloc | apply Kd.V_drewN | apply Kd.V_drew)); exact aa.out) hb) (Kd.S_base ho0)) (Kd.R_base ho1)) (fun _ h_ => h_.1))
         have am := zK (Kd.S_lower (Kd.S_newM (M := fun k_ => (w.heap.size ≤ k_)) ho0 (below_size (zb HB)) (fun k_ h_ => h_)) (below_size (zb HB)))
         have an := zK (Kd.R_lower (Kd.R_newM (M := fun k_ => (w.heap.size ≤ k_)) ho1 (below_size (zb HB)) (fun k_ h_ => h_)) (below_size (zb HB)))
         have ax := zK (blk_below (g := ae) (o := .cells #[.int .i64 ac, .slice au ab.length av] 24 (0, 0)) (zk ad) hb)
         have ay := zK (blk_below (g := af) (o := .cells #[.int .i64 0, .slice none 0 0] 24 (0, 0)) (zk ai) hb)
         have aF := zK (below_step (zb HB) hb)
         clear aa ad ai HB; have aa := al; have ao := am; have ar := an; have ad := ax; have ai := ay; have HB := aF; clear al am an ax ay aF; (try clear hb); (try clear hb2); (try clear hk); (try clear hi); (try clear ho0); (try clear ho1)
         refine hK.out _ _ ⟨(blk_cell ad.out 0).trans rfl, (blk_cell ad.out 1).trans rfl⟩ (fun hHeld => ?_)
         clear hK K
         refine norm_ (a' := ?_) ?_ ?_
         rotate_left
         ·show Act.put _ (some 18) _ = _
          simp only [Act.put, zp, zq, zr, i64_w, i32_w]
          rfl
         refine zu 4 (some 14) #[tt, tt, tt, tt, tt, ff, ff, ff, tt, ff, ff, ff] (any_of HT_.out (by kernel_rfl)) ?_
         refine zu 5 (some 19) #[tt, tt, tt, tt, tt, tt, ff, ff, tt, ff, ff, ff] (any_of HT_.out (by kernel_rfl)) ?_
         refine zu 6 (some 20) #[tt, tt, tt, tt, tt, tt, tt, ff, tt, ff, ff, ff] (any_of HT_.out (by kernel_rfl)) ?_
         refine zu 7 (some 21) #[tt, tt, tt, tt, tt, tt, tt, tt, tt, ff, ff, ff] (any_of HT_.out (by kernel_rfl)) ?_
         exact norm_ (by simp only [putAll, Act.put, List.setIfInBounds_toArray, List.set_cons_zero, List.set_cons_succ]) (hCont (aD, aE, af) _ ⟨hHeld, (by (with_reducible repeat (first | apply Kd.S_alloc | apply Kd.S_drewN | apply Kd.S_drew)); exact Kd.S_mono ao.out (fun _ hk => hk.1)), (by (with_reducible repeat (first | apply Kd.R_alloc | apply Kd.R_drewN | apply Kd.R_drew)); exact Kd.R_mono ar.out (fun _ hk => hk.1)), (by (with_reducible repeat (first | apply Kd.V_alloc | apply Kd.V_drewN | apply Kd.V_drew)); exact Kd.V_mono aa.out (fun _ hk => ⟨hk.1.1.1.1, ⟨hk.1.2, ⟨hk.2, ⟨hk.1.1.1.2, hk.1.1.2⟩⟩⟩⟩)), (zk ad), (zk ai), aB.out, ak.out, ah.out, aj.out, (zb HB)⟩)
       ·skip
        refine box_step ?hg (N := 5) ?hd (cs := #[.int .i64 0, .slice none 0 0]) (t := 24) ?hr ?_; (case hd => rfl); (case hg => rfl); (case hr => first | (go_simp; done) | (go_simp; rfl))
        intro af hg w34 hbox hb
        have al := zK (Kd.V_below (Kd.V_elderB (by (with_reducible repeat (first | apply Kd.V_alloc | apply Kd.V_drewN | apply Kd.V_drew)); exact aa.out) af (Nat.le_of_eq hg.symm)) hb)
        have am := zK (blk_below (g := ae) (o := .cells #[.int .i64 ac, .slice au ab.length av] 24 (0, 0)) (zk ad) hb)
        have an := zK (below_step (zb HB) hb)
        have ax := zK (hbox)
        have ay := zK ((by rw [hg]; exact (below_size (zb HB)) : w.heap.size ≤ af))
        have aF := zK ((by rw [hg]; exact (below_size (zb HB)) : w.heap.size ≤ af))
        have aK := zK ((by rw [hg]; exact Nat.ne_of_lt (blk_lt (g := ae) (o := .cells #[.int .i64 ac, .slice au ab.length av] 24 (0, 0)) (zk ad)) : ae ≠ af))
        have aL := zK ((by rw [hg]; exact Nat.ne_of_gt (blk_lt (g := ae) (o := .cells #[.int .i64 ac, .slice au ab.length av] 24 (0, 0)) (zk ad)) : af ≠ ae))
        clear aa ad HB; have aa := al; have ad := am; have HB := an; have ai := ax; have aB := ay; have ak := aF; have ah := aK; have aj := aL; clear al am an ax ay aF aK aL hb hbox hg
        refine hK.out _ _ ⟨(blk_cell ad.out 0).trans rfl, (blk_cell ad.out 1).trans rfl⟩ (fun hHeld => ?_)
        clear hK K
        refine norm_ (a' := ?_) ?_ ?_
        rotate_left
        ·show Act.put _ (some 5) _ = _
         simp only [Act.put, zp, zq, zr, i64_w, i32_w]
         rfl
        refine one_ (i := 2) (N := some 17) #[tt, tt, tt, ff, ff, ff, ff, ff, tt, ff, ff, ff] rfl rfl (one_of HT_.out (by kernel_rfl)) (by decide) (fun K hK => ?_)
        refine goes_ Try.func17 (by kernel_rfl) rfl #[.agg #[.int .i64 ac, .slice au ab.length av]] (by rfl) rfl rfl (by (try simp only [List.map_toArray, List.map_cons, List.map_nil]); first | done | rfl | (simp only [List.length_drop, List.length_take]; rfl)) ?_
        with_reducible refine (spec_NextOut.calls k1 ac _ _ ab aA _ ?side1 ?side2 A12.out).mono ?_
        (case side1 => repeat (first | exact (Kd.V_reads' aa.out).2.2 | (with_reducible refine Kd.C_alloc ?_ _) | (with_reducible refine Kd.C_drewN ?_ _) | (with_reducible refine Kd.C_drew ?_)))
        (case side2 => exact (Kd.V_reads' aa.out).2.1)
        rintro e w35 ⟨rfl, hb⟩
        refine ⟨_, rfl, ?_⟩
        have al := zK (Kd.V_below (by (with_reducible repeat (first | apply Kd.V_alloc | apply Kd.V_drewN | apply Kd.V_drew)); exact aa.out) hb)
        have am := zK (blk_below (g := ae) (o := .cells #[.int .i64 ac, .slice au ab.length av] 24 (0, 0)) (zk ad) hb)
        have an := zK (blk_below (g := af) (o := .cells #[.int .i64 0, .slice none 0 0] 24 (0, 0)) (zk ai) hb)
        have ax := zK (below_step (zb HB) hb)
        clear aa ad ai HB; have aa := al; have ad := am; have ai := an; have HB := ax; clear al am an ax; (try clear hb); (try clear hb2); (try clear hk); (try clear hi)
        refine hK.out _ _ ⟨(blk_cell ad.out 0).trans rfl, (blk_cell ad.out 1).trans rfl⟩ (fun hHeld => ?_)
        clear hK K
        refine norm_ (a' := ?_) ?_ ?_
        rotate_left
        ·show Act.put _ (some 17) _ = _
         simp only [Act.put, zp, zq, zr, i64_w, i32_w]
         rfl
        refine one_ (i := 3) (N := some 18) #[tt, tt, tt, tt, ff, ff, ff, ff, tt, ff, ff, ff] rfl rfl (one_of HT_.out (by kernel_rfl)) (by decide) (fun K hK => ?_)
        refine goes_ Try.func38 (by kernel_rfl) rfl #[.agg #[.int .i64 ac, .slice au ab.length av], .int .i64 aA] (by rfl) rfl rfl (by (try simp only [List.map_toArray, List.map_cons, List.map_nil]); first | done | rfl | (simp only [List.length_drop, List.length_take]; rfl)) ?_
        with_reducible refine (spec_TakeBag.calls k1 ac _ _ ab aA aC aG aH false _ ?side1 ?side2 aZ.out).mono ?_
        (case side1 => repeat (first | exact (Kd.V_reads' aa.out).2.2 | (with_reducible refine Kd.C_alloc ?_ _) | (with_reducible refine Kd.C_drewN ?_ _) | (with_reducible refine Kd.C_drew ?_)))
        (case side2 => exact (Kd.V_reads' aa.out).2.1)
        rintro e w36 ⟨aD, aE, rfl, ho0, ho1, hb⟩
        refine ⟨_, rfl, ?_⟩
        have al := zK (Kd.V_mono (Kd.V_told (Kd.V_told (Kd.V_old (by (with_reducible repeat (first | apply Kd.V_alloc | apply Kd.V_drewN | apply Kd.V_drew)); exact aa.out) hb) (Kd.S_base ho0)) (Kd.R_base ho1)) (fun _ h_ => h_.1))
        have am := zK (Kd.S_lower (Kd.S_newM (M := fun k_ => (w.heap.size ≤ k_)) ho0 (below_size (zb HB)) (fun k_ h_ => h_)) (below_size (zb HB)))
        have an := zK (Kd.R_lower (Kd.R_newM (M := fun k_ => (w.heap.size ≤ k_)) ho1 (below_size (zb HB)) (fun k_ h_ => h_)) (below_size (zb HB)))
        have ax := zK (blk_below (g := ae) (o := .cells #[.int .i64 ac, .slice au ab.length av] 24 (0, 0)) (zk ad) hb)
        have ay := zK (blk_below (g := af) (o := .cells #[.int .i64 0, .slice none 0 0] 24 (0, 0)) (zk ai) hb)
        have aF := zK (below_step (zb HB) hb)
        clear aa ad ai HB; have aa := al; have ao := am; have ar := an; have ad := ax; have ai := ay; have HB := aF; clear al am an ax ay aF; (try clear hb); (try clear hb2); (try clear hk); (try clear hi); (try clear ho0); (try clear ho1)
        refine hK.out _ _ ⟨(blk_cell ad.out 0).trans rfl, (blk_cell ad.out 1).trans rfl⟩ (fun hHeld => ?_)
        clear hK K
        refine norm_ (a' := ?_) ?_ ?_
        rotate_left
        ·show Act.put _ (some 18) _ = _
         simp only [Act.put, zp, zq, zr, i64_w, i32_w]
         rfl
        refine zu 4 (some 14) #[tt, tt, tt, tt, tt, ff, ff, ff, tt, ff, ff, ff] (any_of HT_.out (by kernel_rfl)) ?_
        refine zu 5 (some 19) #[tt, tt, tt, tt, tt, tt, ff, ff, tt, ff, ff, ff] (any_of HT_.out (by kernel_rfl)) ?_
        refine zu 6 (some 20) #[tt, tt, tt, tt, tt, tt, tt, ff, tt, ff, ff, ff] (any_of HT_.out (by kernel_rfl)) ?_
        refine zu 7 (some 21) #[tt, tt, tt, tt, tt, tt, tt, tt, tt, ff, ff, ff] (any_of HT_.out (by kernel_rfl)) ?_
        exact norm_ (by simp only [putAll, Act.put, List.setIfInBounds_toArray, List.set_cons_zero, List.set_cons_succ]) (hCont (aD, aE, af) _ ⟨hHeld, (by (with_reducible repeat (first | apply Kd.S_alloc | apply Kd.S_drewN | apply Kd.S_drew)); exact Kd.S_mono ao.out (fun _ hk => hk.1)), (by (with_reducible repeat (first | apply Kd.R_alloc | apply Kd.R_drewN | apply Kd.R_drew)); exact Kd.R_mono ar.out (fun _ hk => hk.1)), (by (with_reducible repeat (first | apply Kd.V_alloc | apply Kd.V_drewN | apply Kd.V_drew)); exact Kd.V_mono aa.out (fun _ hk => ⟨hk.1.1.1.1, ⟨hk.1.2, ⟨hk.2, ⟨hk.1.1.1.2, hk.1.1.2⟩⟩⟩⟩)), (zk ad), (zk ai), aB.out, ak.out, ah.out, aj.out, (zb HB)⟩)
      rintro ⟨aD, aE, af⟩ aR ⟨hS_, h0_, h1_, h2_, h3_, h4_, h5_, h6_, h7_, h8_, h9_⟩
      have al : Aside0 (Kd.S (Kd.slice 30 k30) 28 aR w.heap.size (fun k_ => (w.heap.size ≤ k_)) aD aG) := ⟨h0_⟩
      have am : Aside0 (Kd.R k78 78 aR w.heap.size (fun k_ => (w.heap.size ≤ k_)) aE aH) := ⟨h1_⟩
      have an : Aside0 (Kd.V (Kd.slice 30 k30) 28 aR w.heap.size (fun k_ => (P0_1_ k_ ∨ w.heap.size ≤ k_) ∧ some k_ ≠ (aD : Value).ownBlock ∧ some k_ ≠ (aE : Value).ownBlock ∧ k_ ≠ ae ∧ k_ ≠ af) (.slice au ab.length av) ab) := ⟨h2_⟩
      have ax : Aside0 (aR.heap[ae]? = some (.cells #[.int .i64 ac, .slice au ab.length av] 24 (0, 0))) := ⟨h3_⟩
      have ay : Aside0 (aR.heap[af]? = some (.cells #[.int .i64 0, .slice none 0 0] 24 (0, 0))) := ⟨h4_⟩
      have aF : Aside0 (w.heap.size ≤ af) := ⟨h5_⟩
      have aK : Aside0 (w.heap.size ≤ af) := ⟨h6_⟩
      have aL : Aside0 (ae ≠ af) := ⟨h7_⟩
      have aP : Aside0 (af ≠ ae) := ⟨h8_⟩
      have aQ : Aside0 (Below w.heap.size w aR) := ⟨h9_⟩
      clear aa ad HB h0_ h1_ h2_ h3_ h4_ h5_ h6_ h7_ h8_ h9_; have ao := al; have ar := am; have aa := an; have ad := ax; have ai := ay; have aB := aF; have ak := aK; have ah := aL; have aj := aP; have HB := aQ; clear al am an ax ay aF aK aL aP aQ
      have hHeld : aR.cell? ⟨ae, 0, none⟩ = some (.int .i64 ac) ∧ aR.cell? ⟨ae, 1, none⟩ = some (.slice au ab.length av) := hS_
      obtain ⟨Ao39, co39, a7⟩ := Kd.S_slice ao.out
      (first | subst a7 | (injection a7 with f1_ f2_ f3_; have f4_ := f1_.symm; have f5_ := f3_.symm; clear f1_ f2_ f3_; subst f4_; subst f5_))
      refine norm_ (a' := ?_) ?_ ?_
      rotate_left
      ·simp only [putAll, Act.put, List.setIfInBounds_toArray, List.set_cons_zero, List.set_cons_succ]
       rfl
      refine one_ (i := 9) (N := none) #[tt, tt, tt, tt, tt, tt, tt, tt, tt, tt, ff, ff] rfl rfl (one_of HT_.out (by kernel_rfl)) (by decide) (fun K hK => ?_)
      have hs38 : aR.cell? ⟨af, 0, none⟩ = some (.int .i64 0) := (blk_cell ai.out 0).trans rfl
      have hfs38 := blk_frozen ai.out 0; have hns38_0 := ah.out; have hms38_0 := aj.out
      have hs40 : aR.cell? ⟨af, 1, none⟩ = some (.slice none 0 0) := (blk_cell ai.out 1).trans rfl
      have hfs40 := blk_frozen ai.out 1; have hns40_0 := ah.out; have hms40_0 := aj.out
      refine skip_ (w1 := ?_) (by rfl) rfl ?_ ?_
      rotate_left
      ·go_simp
       rfl
      refine hK.out _ _ ⟨((cell_far (p := ⟨af, _, none⟩) ah.out _).trans (((cell_far (p := ⟨af, _, none⟩) ah.out _).trans (hHeld.1)))), ((cell_far (p := ⟨af, _, none⟩) ah.out _).trans (((cell_far (p := ⟨af, _, none⟩) ah.out _).trans (hHeld.2))))⟩ (fun hHeld => ?_)
      clear hK K
      refine zu 10 (some 6) #[tt, tt, tt, tt, tt, tt, tt, tt, tt, tt, tt, ff] (any_of HT_.out (by kernel_rfl)) ?_
      refine zu 11 (some 7) #[tt, tt, tt, tt, tt, tt, tt, tt, tt, tt, tt, tt] (any_of HT_.out (by kernel_rfl)) ?_
      refine done_ (done_of HT_.out (by kernel_rfl)) ?_
      try go_wp2
      go_ret2
      exact ⟨by first | rfl | (simp [errW_none, errW_some] <;> rfl) | (simp [*, errW_none, errW_some] <;> rfl), by repeat (first | (with_reducible first | exact HB.out | apply zB | apply zC | apply zE | refine zS ?_ ag.out | refine zS ?_ ak.out) | exact HB.out)⟩
 ·replace c3 := Bool.eq_false_iff.mpr c3
  subst c3
  have H1 : (some (0, false)) = some (r1, r2) := by rw [if_neg (show ¬ (false = true) by decide)] at H; exact H
  clear H; have H := H1; clear H1
  simp only [Option.some.injEq, Prod.mk.injEq] at H
  obtain ⟨rfl, rfl⟩ := H
  go_enter Try.func42, Try.ntmps42
  go_wp2_with (first | ((with_reducible refine gate_dst (N := 1) rfl ?_); refine box_event ?hg (N := 1) ?hd (cs := #[.int .i64 a0_0, .slice aI az.length aJ]) (t := 24) ?hr ?_; (case hd => rfl); (case hg => rfl); (case hr => first | (go_simp; done) | (go_simp; rfl)); intro ae hg w41 hbox hb; have al := zK (Kd.V_below (Kd.V_elderB (by (with_reducible repeat (first | apply Kd.V_alloc | apply Kd.V_drewN | apply Kd.V_drew)); exact aw.out) ae (Nat.le_of_eq hg.symm)) hb); have am := zK (below_step (zb HB) hb); have an := zK (hbox); have ax := zK ((by rw [hg]; exact (below_size (zb HB)) : w.heap.size ≤ ae)); have ay := zK ((by rw [hg]; exact (below_size (zb HB)) : w.heap.size ≤ ae)); clear aw; clear HB; have aw := al; have HB := am; have ad := an; have a0 := ax; have ag := ay; clear al am an ax ay; clear hb hbox hg; have hcz42_0 : w41.cell? ⟨ae, 0, none⟩ = some (.int .i64 a0_0) := (blk_cell ad.out 0).trans rfl; have hcz42_1 : w41.cell? ⟨ae, 1, none⟩ = some (.slice aI az.length aJ) := (blk_cell ad.out 1).trans rfl; have hfz42_0 := blk_frozen ad.out 0; have hfz42_1 := blk_frozen ad.out 1) | ((with_reducible refine gate_callee (f := 15) rfl ?_); refine goesL_ (some 9) rfl rfl Try.func15 (by kernel_rfl) rfl #[.agg #[.int .i64 a0_0, .slice aI az.length aJ]] rfl (by (try simp only [List.map_toArray, List.map_cons, List.map_nil]); first | done | rfl | (simp only [List.length_drop, List.length_take]; rfl)) ?_; (with_reducible refine (spec_StoreOk.calls k a0_0 _ _ az false _ ?side1 ?side2 A2.out).mono ?_); (case side1 => repeat (first | exact (Kd.V_reads' aw.out).2.2 | (with_reducible refine Kd.C_alloc ?_ _) | (with_reducible refine Kd.C_drewN ?_ _) | (with_reducible refine Kd.C_drew ?_))); (case side2 => exact (Kd.V_reads' aw.out).2.1); rintro e w43 ⟨rfl, hb⟩; refine ⟨_, rfl, ?_⟩; have al := zK (Kd.V_below (by (with_reducible repeat (first | apply Kd.V_alloc | apply Kd.V_drewN | apply Kd.V_drew)); exact aw.out) hb); have am := zK (blk_below (g := ae) (o := .cells #[.int .i64 a0_0, .slice aI az.length aJ] 24 (0, 0)) (zk ad) hb); have an := zK (below_step (zb HB) hb); clear aw; clear ad; clear HB; have aw := al; have ad := am; have HB := an; clear al am an; (try clear hb)))
  go_ret2
  exact ⟨by first | rfl | (simp [errW_none, errW_some] <;> rfl) | (simp [*, errW_none, errW_some] <;> rfl), by repeat (first | (with_reducible first | exact HB.out | apply zB | apply zC | apply zE | refine zS ?_ ag.out) | exact HB.out)⟩
end Go.Proofs.Ytheckjlldkkceaa.Px
