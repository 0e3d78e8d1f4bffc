import Derived.Test.YtheckjlldkkceaaZqPx0
import Derived.Test.YtheckjlldkkceaaZqPx3
import Derived.Test.YtheckjlldkkceaaZqPx4
import Derived.Test.YtheckjlldkkceaaZqPx8
import Derived.Test.YtheckjlldkkceaaZqPx11
import Derived.Test.YtheckjlldkkceaaZqPx17
namespace Go.Proofs.Ytheckjlldkkceaa.Px
open Go.RowKit Go.Proofs.YtheckjlldkkceaaW.PrintWords Go.Proofs.YtheckjlldkkceaaW.PrintLast Go.Proofs.YtheckjlldkkceaaW.PrintMore
attribute [local go_sem] max2_int min2_int max_two min_two max_three min_three max_four min_four   
set_option linter.unusedVariables false
set_option linter.unusedSimpArgs false
def slices_Index_int_int.l0 : Nat → List Int → Int → Int → Int → Option (Int)
 | 0, _, _, _, _ => none
 | k + 1, x0, x1, x7, x8 => if x8 < x7 then (if 0 ≤ x8 then (if x8 < (x0.length : Int) then (if x1 = (rd x0 x8) then (some x8) else (slices_Index_int_int.l0 k x0 x1 x7 (wrap64 (x8 + 1)))) else (none)) else (none)) else (some (-1))
def slices_Index_int_int.f (k : Nat) (l0 : List Int) (a1 : Int) : Option (Int) := slices_Index_int_int.l0 k l0 a1 (l0.length : Int) 0
set_option maxHeartbeats 8000000 in
set_option maxRecDepth 100000 in
theorem slices_Index_int_int.calls (k : Nat) (A0 : Option Addr) (c0 : Nat) (l0 : List Int) (a1 : Int) (r : Int) (w : World) (hr0 : Kd.C (Kd.int .i64) w A0 l0.length l0) (hc0 : l0.length ≤ c0) (h : slices_Index_int_int.f k l0 a1 = some r) :
  Calls Try.prog 91 #[.slice A0 l0.length c0, .int .i64 a1] w fun e w' => e = .returned (.int .i64 r) ∧ Drawn0 w w' := by
 have HR0 := zK hr0; have HC0 := zK hc0; clear hr0 hc0
 have H : (slices_Index_int_int.l0 k l0 a1 (l0.length : Int) 0) = some r := h
 clear h; have H' := zK H; clear H
 go_enter Try.func91, Try.ntmps91
 go_wp2
 go_loopg [8] k (fun kq v8 w' => ∃ (aa : Int), v8 = .int .i64 aa ∧ Aside0 (slices_Index_int_int.l0 kq l0 a1 (l0.length : Int) aa = some r) ∧ Aside0 (kq ≤ k) ∧ Drawn0 w w')
 case atStart => exact ⟨(0), (by first | rfl | (simp; done) | (simp [*]; done)), H', ⟨Nat.le_refl _⟩, by repeat (first | exact Drawn0.refl _ | apply Drawn0.step)⟩
 case round =>
  clear H'
  try clear p2
  obtain ⟨aa, rfl, HA, HK1, ⟨m1, rfl⟩⟩ := hrel
  cases gk with
  | zero => exact absurd HA.out (by simp [slices_Index_int_int.l0])
  | succ k1 =>
   have H := HA.out; clear HA
   simp only [slices_Index_int_int.l0] at H
   by_cases c3 : aa < (l0.length : Int)
   ·rw [if_pos c3] at H
    have c3b0 : decide (aa < (l0.length : Int)) = true := decide_eq_true c3
    clear c3
    by_cases c4 : 0 ≤ aa
    ·rw [if_pos c4] at H
     have c4b0 : decide (0 ≤ aa) = true := decide_eq_true c4
     clear c4
     by_cases c5 : aa < (l0.length : Int)
     ·rw [if_pos c5] at H
      have c5b0 : decide (aa < (l0.length : Int)) = true := decide_eq_true c5
      clear c5
      by_cases c6 : a1 = (rd l0 aa)
      ·rw [if_pos c6] at H
       have c6b0 : (a1 == (rd l0 aa)) = true := beq_iff_eq.mpr c6
       have c6b1 : (a1 != (rd l0 aa)) = false := bne_eq_false_iff_eq.mpr c6
       clear c6; obtain rfl := Option.some.inj H
       have ab : 0 ≤ (aa : Int) := zd
       have ac : aa < (l0.length : Int) := zd
       obtain ⟨af, ae, ad⟩ := Kd.at_int HR0.out aa ab ac
       cases ae
       replace ab := eq_true ab; replace ac := eq_true ac
       go_wp2
       go_ret
       exact ⟨by first | rfl | (simp; done) | (simp [*]; done), by repeat (first | exact Drawn0.refl _ | apply Drawn0.step)⟩
      ·rw [if_neg c6] at H
       have c6b0 : (a1 == (rd l0 aa)) = false := beq_eq_false_iff_ne.mpr c6
       have c6b1 : (a1 != (rd l0 aa)) = true := bne_iff_ne.mpr c6
       have H' := zK H; clear H
       have ab : 0 ≤ (aa : Int) := zd
       have ac : aa < (l0.length : Int) := zd
       obtain ⟨af, ae, ad⟩ := Kd.at_int HR0.out aa ab ac
       cases ae
       replace ab := eq_true ab; replace ac := eq_true ac
       go_wp2
       go_roundg k1
       case measure => have := HK1.out; omega
       case rel => exact ⟨(wrap64 (aa + 1)), (by first | rfl | (simp; done) | (simp [*]; done)), H', ⟨by have := HK1.out; omega⟩, by repeat (first | exact Drawn0.refl _ | apply Drawn0.step)⟩
     ·rw [if_neg c5] at H
      exact absurd H (by simp)
    ·rw [if_neg c4] at H
     exact absurd H (by simp)
   ·rw [if_neg c3] at H
    have c3b0 : decide (aa < (l0.length : Int)) = false := decide_eq_false c3
    clear c3; obtain rfl := Option.some.inj H
    go_wp2
    go_ret
    exact ⟨by first | rfl | (simp; done) | (simp [*]; done), by repeat (first | exact Drawn0.refl _ | apply Drawn0.step)⟩
def slices_Contains_int_int.f (k : Nat) (l0 : List Int) (a1 : Int) : Option (Bool) := (slices_Index_int_int.f k l0 a1).bind fun t663 => (some (decide (t663 ≥ 0)))
set_option maxHeartbeats 8000000 in
set_option maxRecDepth 100000 in
theorem slices_Contains_int_int.calls (k : Nat) (A0 : Option Addr) (c0 : Nat) (l0 : List Int) (a1 : Int) (r : Bool) (w : World) (hr0 : Kd.C (Kd.int .i64) w A0 l0.length l0) (hc0 : l0.length ≤ c0) (h : slices_Contains_int_int.f k l0 a1 = some r) :
  Calls Try.prog 68 #[.slice A0 l0.length c0, .int .i64 a1] w fun e w' => e = .returned (.bool r) ∧ Drawn0 w w' := by
 have HR0 := zK hr0; have HC0 := zK hc0; clear hr0 hc0
 have H : ((slices_Index_int_int.f k l0 a1).bind fun aa => (some (decide (aa ≥ 0)))) = some r := h
 clear h; replace H := Option.bind_eq_some_iff.mp H
 obtain ⟨aa, A30, H⟩ := H
 replace H : (some (decide (aa ≥ 0))) = some r := H
 have A3 := zK A30; clear A30; obtain rfl := Option.some.inj H
 go_enter Try.func68, Try.ntmps68
 go_wp2_with (first | ((with_reducible refine gate_callee (f := 91) rfl ?_); refine goesL_ (some 7) rfl rfl Try.func91 (by kernel_rfl) rfl #[.slice A0 l0.length c0, .int .i64 a1] rfl (by (try simp only [List.map_toArray, List.map_cons, List.map_nil]); first | done | rfl | (simp only [List.length_drop, List.length_take]; rfl)) ?_; (with_reducible refine (slices_Index_int_int.calls k _ _ l0 a1 aa _ ?side1 ?side2 A3.out).mono ?_); (case side1 => repeat (first | exact HR0.out | (with_reducible refine Kd.C_alloc ?_ _) | (with_reducible refine Kd.C_drewN ?_ _) | (with_reducible refine Kd.C_drew ?_))); (case side2 => exact HC0.out); rintro e w' ⟨rfl, ⟨nd, rfl⟩⟩; refine ⟨_, rfl, ?_⟩))
 go_ret
 exact ⟨by first | rfl | (simp; done) | (simp [*]; done), by repeat (first | exact Drawn0.refl _ | apply Drawn0.step)⟩
def impl_PutBag.j0 : Nat → Int → Int → Int → Bool → Int → List (List (S30)) → Option (Int × (List (List (S30))) × Int × Bool)
 | 0, _, _, _, _, _, _ => none
 | k + 1, x1, x2, x10, x27, x671000, x671001 => if x27 = true then (some (x671000, x671001, (-1), false)) else (if 0 ≤ x10 then (if x10 < (x671001.length : Int) then (if (rd_L2 x671001 x10).length < 8796093022208 then (some (x671000, (x671001.set (x10 : Int).toNat ((rd_L2 x671001 x10) ++ [(⟨x1, x2⟩ : S30)])), x10, true)) else (none)) else (none)) else (none))
def impl_PutBag.f (k : Nat) (a0_0 : Int) (l0_1 : List (List (S30))) (a1 : Int) (a2 : Int) : Option (Int × (List (List (S30))) × Int × Bool) := (impl_copyStore.f k a0_0 l0_1).bind fun bt666 => ((impl_LaneFor.f k a0_0 l0_1 a2 (-1)).bind fun t671 => (if t671 < 0 then (impl_PutBag.j0 k a1 a2 t671 true bt666.1 bt666.2) else (if a1 < 1 then (impl_PutBag.j0 k a1 a2 t671 true bt666.1 bt666.2) else ((impl_bagsIn.f k a0_0 l0_1).bind fun t672 => ((slices_Contains_int_int.f k t672 a1).bind fun t675 => (impl_PutBag.j0 k a1 a2 t671 t675 bt666.1 bt666.2))))))
def impl_PutBag.T5 : Bool × List (List Nat × List Nat) := (true, [([], []), ([0], [0]), ([], []), ([], []), ([3], [3]), ([], []), ([4, 5], [4, 5]), ([6], [6]), ([], []), ([], []), ([8, 9], [8, 9]), ([10], [10]), ([7, 11], [7, 11]), ([1, 2, 0, 1, 2, 3, 4, 5, 6, 7, 8, 9, 10, 11, 12], [1, 2]), ([13, 12, 12, 0, 1, 2, 3, 4, 5, 6, 7, 8, 9, 10, 11, 12], [12, 13])])
def impl_PutBag.B5 : List Nat := [0, 1, 0, 0, 8, 0, 56, 120, 0, 0, 768, 1792, 4088, 8191, 16383]
theorem impl_PutBag.tab5 : rtab .any (opsOf Try.f31 5) = impl_PutBag.T5 := by kernel_rfl
theorem impl_PutBag.bits5 : waitsOk impl_PutBag.T5.2 impl_PutBag.B5 = true := by kernel_rfl
set_option maxHeartbeats 8000000 in
set_option maxRecDepth 100000 in
theorem impl_PutBag.calls (k : Nat) (a0_0 : Int) (ap : Option Addr) (aq : Nat) (aj : List (List (S30))) (a1 : Int) (a2 : Int) (r1 : Int) (r2 : List (List (S30))) (r3 : Int) (r4 : Bool) (w : World) (bE : Kd.C (Kd.slice 30 k30) w ap aj.length aj) (hc0_1 : aj.length ≤ aq) (h : impl_PutBag.f k a0_0 aj a1 a2 = some (r1, r2, r3, r4)) :
  Calls Try.prog 31 #[.agg #[.int .i64 a0_0, .slice ap aj.length aq], .int .i64 a1, .int .i64 a2] w fun e w' => ∃ v1_ : Value, e = .returned (.tuple #[.agg #[.int .i64 r1, v1_], .int .i64 r3, .bool r4]) ∧ Kd.S (Kd.slice 30 k30) 28 w' w.heap.size (fun _ => True) v1_ r2 ∧ Below w.heap.size w w' := by
 have hu24 := Try.underlying24; have hu30 := Try.underlying30; have a9 := zK bE; have ba := zK hc0_1; clear bE hc0_1
 have HB := zK (Below.refl w.heap.size w)
 have H : ((impl_copyStore.f k a0_0 aj).bind fun bt666 => ((impl_LaneFor.f k a0_0 aj a2 (-1)).bind fun ad => (if ad < 0 then (impl_PutBag.j0 k a1 a2 ad true bt666.1 bt666.2) else (if a1 < 1 then (impl_PutBag.j0 k a1 a2 ad true bt666.1 bt666.2) else ((impl_bagsIn.f k a0_0 aj).bind fun aR => ((slices_Contains_int_int.f k aR a1).bind fun aK => (impl_PutBag.j0 k a1 a2 ad aK bt666.1 bt666.2))))))) = some (r1, r2, r3, r4) := h
 clear h; replace H := Option.bind_eq_some_iff.mp H
 obtain ⟨⟨al, af⟩, A40, H⟩ := H
 replace H : ((impl_LaneFor.f k a0_0 aj a2 (-1)).bind fun ad => (if ad < 0 then (impl_PutBag.j0 k a1 a2 ad true al af) else (if a1 < 1 then (impl_PutBag.j0 k a1 a2 ad true al af) else ((impl_bagsIn.f k a0_0 aj).bind fun aR => ((slices_Contains_int_int.f k aR a1).bind fun aK => (impl_PutBag.j0 k a1 a2 ad aK al af)))))) = some (r1, r2, r3, r4) := H
 have A4 := zK A40; clear A40; replace H := Option.bind_eq_some_iff.mp H
 obtain ⟨ad, A50, H⟩ := H
 replace H : (if ad < 0 then (impl_PutBag.j0 k a1 a2 ad true al af) else (if a1 < 1 then (impl_PutBag.j0 k a1 a2 ad true al af) else ((impl_bagsIn.f k a0_0 aj).bind fun aR => ((slices_Contains_int_int.f k aR a1).bind fun aK => (impl_PutBag.j0 k a1 a2 ad aK al af))))) = some (r1, r2, r3, r4) := H
 have A5 := zK A50; clear A50; have HC6 := zK H; clear H
 go_enter Try.func31, Try.ntmps31
 go_upto_region 3 with (first | ((with_reducible refine gate_dst (N := 3) rfl ?_); refine box_event ?hg (N := 3) ?hd (cs := #[.int .i64 a0_0, .slice ap aj.length aq]) (t := 24) ?hr ?_; (case hd => rfl); (case hg => rfl); (case hr => first | (go_simp; done) | (go_simp; rfl)); intro ah hg w7 hbox hb; have aE := zK (below_step (zb HB) hb); have aG := zK (hbox); have aH := zK ((by rw [hg]; exact (below_size (zb HB)) : w.heap.size ≤ ah)); have aI := zK ((by rw [hg]; exact (below_size (zb HB)) : w.heap.size ≤ ah)); clear HB; have HB := aE; have aa := aG; have GW664 := aH; have ak := aI; clear aE aG aH aI; clear hb hbox hg) | ((with_reducible refine gate_dst (N := 6) rfl ?_); refine box_event ?hg (N := 6) ?hd (cs := #[.int .i64 0, .slice none 0 0]) (t := 24) ?hr ?_; (case hd => rfl); (case hg => rfl); (case hr => first | (go_simp; done) | (go_simp; rfl)); intro ag hg w8 hbox hb; have aE := zK (blk_below (g := ah) (o := .cells #[.int .i64 a0_0, .slice ap aj.length aq] 24 (0, 0)) (zk aa) hb); have aG := zK (below_step (zb HB) hb); have aH := zK (hbox); have aI := zK ((by rw [hg]; exact (below_size (zb HB)) : w.heap.size ≤ ag)); have aM := zK ((by rw [hg]; exact (below_size (zb HB)) : w.heap.size ≤ ag)); have bb := zK ((by rw [hg]; exact Nat.ne_of_lt (blk_lt (g := ah) (o := .cells #[.int .i64 a0_0, .slice ap aj.length aq] 24 (0, 0)) (zk aa)) : ah ≠ ag)); have bV := zK ((by rw [hg]; exact Nat.ne_of_gt (blk_lt (g := ah) (o := .cells #[.int .i64 a0_0, .slice ap aj.length aq] 24 (0, 0)) (zk aa)) : ag ≠ ah)); clear aa; clear HB; have aa := aE; have HB := aG; have ac := aH; have GW665 := aI; have an := aM; have ax := bb; have ay := bV; clear aE aG aH aI aM bb bV; clear hb hbox hg; have hnb9 := ax.out; have hnc9 := ay.out; have bi : w8.cell? ⟨ah, 0, none⟩ = some (.int .i64 a0_0) := (blk_cell aa.out 0).trans rfl; have bj : w8.cell? ⟨ah, 1, none⟩ = some (.slice ap aj.length aq) := (blk_cell aa.out 1).trans rfl; have bk := blk_frozen aa.out 0; have bl := blk_frozen aa.out 1) | ((with_reducible refine gate_callee (f := 67) rfl ?_); refine goesL_ (some 12) rfl rfl Try.func67 (by kernel_rfl) rfl #[.agg #[.int .i64 a0_0, .slice ap aj.length aq]] rfl (by (try simp only [List.map_toArray, List.map_cons, List.map_nil]); first | done | rfl | (simp only [List.length_drop, List.length_take]; rfl)) ?_; (with_reducible refine (impl_copyStore.calls k a0_0 _ _ aj al af _ ?side1 ?side2 A4.out).mono ?_); (case side1 => repeat (first | exact (Kd.C_below a9.out HB.out) | (with_reducible refine Kd.C_alloc ?_ _) | (with_reducible refine Kd.C_drewN ?_ _) | (with_reducible refine Kd.C_drew ?_))); (case side2 => exact ba.out); rintro e w11 ⟨v668, rfl, ho0, hb⟩; refine ⟨_, rfl, ?_⟩; have aE := zK (Kd.S_lower ho0 (below_size (zb HB))); have aG := zK (blk_below (g := ah) (o := .cells #[.int .i64 a0_0, .slice ap aj.length aq] 24 (0, 0)) (zk aa) hb); have aH := zK (blk_below (g := ag) (o := .cells #[.int .i64 0, .slice none 0 0] 24 (0, 0)) (zk ac) hb); have aI := zK (below_step (zb HB) hb); clear aa; clear ac; clear HB; have ar := aE; have aa := aG; have ac := aH; have HB := aI; clear aE aG aH aI; (try clear hb); (try clear hk); (try clear ho0)) | ((with_reducible refine gate_dst (N := 9) rfl ?_); refine box_event ?hg (N := 9) ?hd (cs := #[.int .i64 0, .slice none 0 0]) (t := 24) ?hr ?_; (case hd => rfl); (case hg => rfl); (case hr => first | (go_simp; done) | (go_simp; rfl)); intro ai hg w12 hbox hb; have aE := zK (Kd.S_below (zT ar) hb); have aG := zK (blk_below (g := ah) (o := .cells #[.int .i64 a0_0, .slice ap aj.length aq] 24 (0, 0)) (zk aa) hb); have aH := zK (blk_below (g := ag) (o := .cells #[.int .i64 0, .slice none 0 0] 24 (0, 0)) (zk ac) hb); have aI := zK (below_step (zb HB) hb); have aM := zK (hbox); have bb := zK ((by rw [hg]; exact (below_size (zb HB)) : w.heap.size ≤ ai)); have bV := zK ((by rw [hg]; exact (below_size (zb HB)) : w.heap.size ≤ ai)); have n7_ := zK ((by rw [hg]; exact Nat.ne_of_lt (blk_lt (g := ah) (o := .cells #[.int .i64 a0_0, .slice ap aj.length aq] 24 (0, 0)) (zk aa)) : ah ≠ ai)); have n8_ := zK ((by rw [hg]; exact Nat.ne_of_gt (blk_lt (g := ah) (o := .cells #[.int .i64 a0_0, .slice ap aj.length aq] 24 (0, 0)) (zk aa)) : ai ≠ ah)); have n9_ := zK ((by rw [hg]; exact Nat.ne_of_lt (blk_lt (g := ag) (o := .cells #[.int .i64 0, .slice none 0 0] 24 (0, 0)) (zk ac)) : ag ≠ ai)); have bW := zK ((by rw [hg]; exact Nat.ne_of_gt (blk_lt (g := ag) (o := .cells #[.int .i64 0, .slice none 0 0] 24 (0, 0)) (zk ac)) : ai ≠ ag)); clear ar; clear aa; clear ac; clear HB; have ar := aE; have aa := aG; have ac := aH; have HB := aI; have ae := aM; have GW670 := bb; have av := bV; have ao := n7_; have az := n8_; have au := n9_; have aJ := bW; clear aE aG aH aI aM bb bV n7_ n8_ n9_ bW; clear hb hbox hg; have hnb13 := az.out; have hnc13 := ao.out; have hnb14 := aJ.out; have hnc14 := au.out; have bm : w12.cell? ⟨ai, 0, none⟩ = some (.int .i64 0) := (blk_cell ae.out 0).trans rfl; have bn : w12.cell? ⟨ai, 1, none⟩ = some (.slice none 0 0) := (blk_cell ae.out 1).trans rfl; have bo := blk_frozen ae.out 0; have bp := blk_frozen ae.out 1; obtain ⟨aV, aA, eo16⟩ := Kd.S_slice ar.out; subst eo16; have bq : w12.cell? ⟨ah, 0, none⟩ = some (.int .i64 a0_0) := (blk_cell aa.out 0).trans rfl; have br : w12.cell? ⟨ah, 1, none⟩ = some (.slice ap aj.length aq) := (blk_cell aa.out 1).trans rfl; have bs := blk_frozen aa.out 0; have bt := blk_frozen aa.out 1) | ((with_reducible refine gate_callee (f := 27) rfl ?_); refine goesL_ (some 15) rfl rfl Try.func27 (by kernel_rfl) rfl #[.agg #[.int .i64 a0_0, .slice ap aj.length aq], .int .i64 a2, .int .i64 (-1)] rfl (by (try simp only [List.map_toArray, List.map_cons, List.map_nil]); first | done | rfl | (simp only [List.length_drop, List.length_take]; rfl)) ?_; (with_reducible refine (impl_LaneFor.calls k a0_0 _ _ aj a2 (-1) ad _ ?side1 ?side2 A5.out).mono ?_); (case side1 => exact Kd.C_below a9.out (zb HB)); (case side2 => exact ba.out); rintro e w18 ⟨rfl, hb⟩; refine ⟨_, rfl, ?_⟩; have aE := zK (Kd.S_below (by (with_reducible repeat (first | apply Kd.S_alloc | apply Kd.S_drewN | apply Kd.S_drew)); exact (Kd.S_mono (Kd.S_far (p := ⟨ai, 1, none⟩) (Kd.S_far (p := ⟨ai, 0, none⟩) (Kd.S_types ar.out ae.out (by decide)) (fun _ hk => hk.2) (.int .i64 al)) (fun _ hk => hk.2) (.slice aV af.length aA)) (fun _ h_ => h_.1))) hb); have aG := zK (blk_below (g := ah) (o := .cells #[.int .i64 a0_0, .slice ap aj.length aq] 24 (0, 0)) (by (with_reducible repeat (first | refine zN ?_ _ | refine zD ?_ | refine zA ?_ _)); refine blk_far ?_ ao.out _; (with_reducible repeat (first | refine zN ?_ _ | refine zD ?_ | refine zA ?_ _)); refine blk_far ?_ ao.out _; (with_reducible repeat (first | refine zN ?_ _ | refine zD ?_ | refine zA ?_ _)); exact aa.out) hb); have aH := zK (blk_below (g := ag) (o := .cells #[.int .i64 0, .slice none 0 0] 24 (0, 0)) (by (with_reducible repeat (first | refine zN ?_ _ | refine zD ?_ | refine zA ?_ _)); refine blk_far ?_ au.out _; (with_reducible repeat (first | refine zN ?_ _ | refine zD ?_ | refine zA ?_ _)); refine blk_far ?_ au.out _; (with_reducible repeat (first | refine zN ?_ _ | refine zD ?_ | refine zA ?_ _)); exact ac.out) hb); have aI := zK (blk_below (g := ai) (o := .cells #[.int .i64 al, .slice aV af.length aA] 24 (0, 0)) (by (with_reducible repeat (first | refine zN ?_ _ | refine zD ?_ | refine zA ?_ _)); refine blk_put (cs := #[.int .i64 al, .slice none 0 0]) ?_ 1 _ rfl; (with_reducible repeat (first | refine zN ?_ _ | refine zD ?_ | refine zA ?_ _)); refine blk_put (cs := #[.int .i64 0, .slice none 0 0]) ?_ 0 _ rfl; (with_reducible repeat (first | refine zN ?_ _ | refine zD ?_ | refine zA ?_ _)); exact ae.out) hb); have aM := zK (below_step (zb HB) hb); clear ar; clear aa; clear ac; clear ae; clear HB; have ar := aE; have aa := aG; have ac := aH; have ae := aI; have HB := aM; clear aE aG aH aI aM; (try clear hb); (try clear hk)))
 (try simp only [Act.put, zp, zq, zr])
 go_cut [27] (fun v27 wc => ∃ (kq : Nat) (a5 : Bool), v27 = .bool a5 ∧ Aside0 (impl_PutBag.j0 kq a1 a2 ad a5 al af = some (r1, r2, r3, r4)) ∧ Aside0 (kq ≤ k) ∧ Aside0 (Kd.S (Kd.slice 30 k30) 28 wc w.heap.size (fun _ => True) (.slice aV af.length aA) af) ∧ Aside0 (wc.heap[ah]? = some (.cells #[.int .i64 a0_0, (.slice ap aj.length aq)] 24 (0, 0))) ∧ Aside0 (wc.heap[ag]? = some (.cells #[.int .i64 0, (.slice none 0 0)] 24 (0, 0))) ∧ Aside0 (wc.heap[ai]? = some (.cells #[.int .i64 al, (.slice aV af.length aA)] 24 (0, 0))) ∧ Aside0 (Below w.heap.size w wc))
 case first =>
  have H := HC6.out; clear HC6
  by_cases bM : ad < 0
  ·rw [if_pos bM] at H
   have aQ : decide (ad < 0) = true := decide_eq_true bM
   clear bM
   (first | rw [aQ] | (simp only [i64_w, i32_w]; rw [aQ]) | skip)
   have H' := zK H; clear H
   go_wp2
   go_meet
   case rel => exact ⟨_, (true), (by first | rfl | (simp; done) | (simp [*]; done)), H', ⟨by first | omega | exact Nat.le_refl _⟩, ⟨zT ar⟩, ⟨zk aa⟩, ⟨zk ac⟩, ⟨zk ae⟩, ⟨zb HB⟩⟩
  ·rw [if_neg bM] at H
   have aQ : decide (ad < 0) = false := decide_eq_false bM
   clear bM
   (first | rw [aQ] | (simp only [i64_w, i32_w]; rw [aQ]) | skip)
   by_cases bN : a1 < 1
   ·rw [if_pos bN] at H
    have bF : decide (a1 < 1) = true := decide_eq_true bN
    clear bN; have H' := zK H; clear H
    go_wp2
    go_meet
    case rel => exact ⟨_, (true), (by first | rfl | (simp; done) | (simp [*]; done)), H', ⟨by first | omega | exact Nat.le_refl _⟩, ⟨zT ar⟩, ⟨zk aa⟩, ⟨zk ac⟩, ⟨zk ae⟩, ⟨zb HB⟩⟩
   ·rw [if_neg bN] at H
    have bF : decide (a1 < 1) = false := decide_eq_false bN
    clear bN; replace H := Option.bind_eq_some_iff.mp H
    obtain ⟨aR, bX, H⟩ := H
    replace H : ((slices_Contains_int_int.f k aR a1).bind fun aK => (impl_PutBag.j0 k a1 a2 ad aK al af)) = some (r1, r2, r3, r4) := H
    have A21 := zK bX; clear bX; replace H := Option.bind_eq_some_iff.mp H
    obtain ⟨aK, bY, H⟩ := H
    replace H : (impl_PutBag.j0 k a1 a2 ad aK al af) = some (r1, r2, r3, r4) := H
    have A22 := zK bY; clear bY; have H' := zK H; clear H; have hnb23 := ax.out; have hnc23 := ay.out; have hnb24 := ao.out; have hnc24 := az.out
    have bv : w18.cell? ⟨ah, 0, none⟩ = some (.int .i64 a0_0) := (blk_cell aa.out 0).trans rfl
    have bw : w18.cell? ⟨ah, 1, none⟩ = some (.slice ap aj.length aq) := (blk_cell aa.out 1).trans rfl
    have bx := blk_frozen aa.out 0; have bz := blk_frozen aa.out 1
    go_wp2_with (first | (go_at_call 50; (with_reducible refine (impl_bagsIn.calls k a0_0 _ _ aj aR _ ?side1 ?side2 A21.out).mono ?_); (case side1 => repeat (first | exact (Kd.C_below a9.out HB.out) | (with_reducible refine Kd.C_alloc ?_ _) | (with_reducible refine Kd.C_drewN ?_ _) | (with_reducible refine Kd.C_drew ?_))); (case side2 => exact ba.out); rintro e w26 ⟨v673, rfl, ho0, hb⟩; have aE := zK (Kd.S_below (zT ar) hb); have aG := zK (Kd.R_lower ho0 (below_size (zb HB))); have aH := zK (blk_below (g := ah) (o := .cells #[.int .i64 a0_0, .slice ap aj.length aq] 24 (0, 0)) (zk aa) hb); have aI := zK (blk_below (g := ag) (o := .cells #[.int .i64 0, .slice none 0 0] 24 (0, 0)) (zk ac) hb); have aM := zK (blk_below (g := ai) (o := .cells #[.int .i64 al, .slice aV af.length aA] 24 (0, 0)) (zk ae) hb); have bb := zK (below_step (zb HB) hb); clear ar; clear aa; clear ac; clear ae; clear HB; have ar := aE; have bc := aG; have aa := aH; have ac := aI; have ae := aM; have HB := bb; clear aE aG aH aI aM bb; (try clear hb); (try clear ho0); obtain ⟨Ao27, co27, eo27⟩ := Kd.R_slice bc.out; subst eo27) | (go_at_call 68; (with_reducible refine (slices_Contains_int_int.calls k _ _ aR a1 aK _ ?side1 ?side2 A22.out).mono ?_); (case side1 => repeat (first | exact (Kd.R_reads' bc.out).2.2 | (with_reducible refine Kd.C_alloc ?_ _) | (with_reducible refine Kd.C_drewN ?_ _) | (with_reducible refine Kd.C_drew ?_))); (case side2 => exact (Kd.R_reads' bc.out).2.1); rintro e w' ⟨rfl, ⟨nd, rfl⟩⟩))
    go_meet
    case rel => exact ⟨_, (aK), (by first | rfl | (simp; done) | (simp [*]; done)), H', ⟨by first | omega | exact Nat.le_refl _⟩, ⟨zT ar⟩, ⟨zk aa⟩, ⟨zk ac⟩, ⟨zk ae⟩, ⟨zb HB⟩⟩
 case rest =>
  clear HC6
  try clear c1
  try clear c2
  try clear p2
  try clear c3
  try clear c6
  try clear c9
  try clear c13
  try clear c14
  try clear bM
  try clear aQ
  try clear bN
  try clear bF
  try clear c23
  try clear c24
  try clear c27
  try clear bi
  try clear bj
  try clear bm
  try clear bn
  try clear bq
  try clear br
  try clear bv
  try clear bw
  try clear bk
  try clear bl
  try clear bo
  try clear bp
  try clear bs
  try clear bt
  try clear bx
  try clear bz
  obtain ⟨kq, a5, rfl, HA, HJ5, ab, aa, ac, ae, HB⟩ := hcut
  cases kq with
  | zero => exact absurd HA.out (by simp [impl_PutBag.j0])
  | succ kj5 =>
   have H := HA.out; clear HA
   simp only [impl_PutBag.j0] at H
   by_cases c28 : a5 = true
   ·subst c28
    have H1 : (some (al, af, (-1), false)) = some (r1, r2, r3, r4) := by rw [if_pos rfl] at H; exact H
    clear H; have H := H1; clear H1
    simp only [Option.some.injEq, Prod.mk.injEq] at H
    obtain ⟨rfl, rfl, rfl, rfl⟩ := H
    have hnb29 := az.out; have hnc29 := ao.out; have hnb30 := aJ.out; have hnc30 := au.out
    have hcz31_0 : wc.cell? ⟨ai, 0, none⟩ = some (.int .i64 al) := (blk_cell ae.out 0).trans rfl
    have hcz31_1 : wc.cell? ⟨ai, 1, none⟩ = some (.slice aV af.length aA) := (blk_cell ae.out 1).trans rfl
    have hfz31_0 := blk_frozen ae.out 0; have hfz31_1 := blk_frozen ae.out 1; have hnb32 := ay.out; have hnc32 := ax.out
    have hcz33_0 : wc.cell? ⟨ag, 0, none⟩ = some (.int .i64 0) := (blk_cell ac.out 0).trans rfl
    have hcz33_1 : wc.cell? ⟨ag, 1, none⟩ = some (.slice none 0 0) := (blk_cell ac.out 1).trans rfl
    have hfz33_0 := blk_frozen ac.out 0; have hfz33_1 := blk_frozen ac.out 1
    go_wp2
    refine bodyPost_ret (results_ctt rfl _ _ ag 24 #[.int .i64 al, .slice aV af.length aA] (0, 0) _ rfl (by (with_reducible repeat (first | refine zN ?_ _ | refine zD ?_ | refine zA ?_ _)); refine blk_put (cs := #[.int .i64 al, .slice none 0 0]) ?_ 1 _ rfl; (with_reducible repeat (first | refine zN ?_ _ | refine zD ?_ | refine zA ?_ _)); refine blk_put (cs := #[.int .i64 0, .slice none 0 0]) ?_ 0 _ rfl; (with_reducible repeat (first | refine zN ?_ _ | refine zD ?_ | refine zA ?_ _)); exact ac.out) Try.underlying24 rfl (by kernel_rfl)) rfl ?_
    exact ⟨_, by first | rfl | (simp [errW_none, errW_some] <;> rfl) | (simp [*, errW_none, errW_some] <;> rfl), by (with_reducible repeat (first | apply Kd.S_alloc | apply Kd.S_drewN | apply Kd.S_drew)); exact Kd.S_mono (Kd.S_far (p := ⟨ag, 1, none⟩) (Kd.S_far (p := ⟨ag, 0, none⟩) (Kd.S_types ab.out ac.out (by decide)) (fun _ hk => hk.2) (.int .i64 al)) (fun _ hk => hk.2) (.slice aV af.length aA)) (fun _ hk => trivial), by repeat (first | (with_reducible first | exact HB.out | apply zB | apply zC | apply zE | refine zS ?_ ak.out | refine zS ?_ an.out | refine zS ?_ av.out) | exact HB.out)⟩
   ·replace c28 := Bool.eq_false_iff.mpr c28
    subst c28
    have H1 : (if 0 ≤ ad then (if ad < (af.length : Int) then (if (rd_L2 af ad).length < 8796093022208 then (some (al, (af.set (ad : Int).toNat ((rd_L2 af ad) ++ [(⟨a1, a2⟩ : S30)])), ad, true)) else (none)) else (none)) else (none)) = some (r1, r2, r3, r4) := by rw [if_neg (show ¬ (false = true) by decide)] at H; exact H
    clear H; have H := H1; clear H1
    by_cases c34 : 0 ≤ ad
    ·rw [if_pos c34] at H
     have c34b0 : decide (0 ≤ ad) = true := decide_eq_true c34
     clear c34
     by_cases c35 : ad < (af.length : Int)
     ·rw [if_pos c35] at H
      have c35b0 : decide (ad < (af.length : Int)) = true := decide_eq_true c35
      clear c35
      by_cases c36 : (rd_L2 af ad).length < 8796093022208
      ·rw [if_pos c36] at H
       have bZ := zK c36; clear c36
       obtain ⟨aN, aW⟩ : ∃ y_ : List (S30), y_ = ((rd_L2 af ad) ++ [(⟨a1, a2⟩ : S30)]) := ⟨_, rfl⟩
       replace H : (some (al, (af.set (ad : Int).toNat aN), ad, true)) = some (r1, r2, r3, r4) := by first | (rw [aW]; with_reducible exact H) | (have H2_ := (Option.bind_some _ _).symm.trans H; rw [aW]; with_reducible exact H2_) | (have H2_ := (Option.bind_some _ _).symm.trans H; with_reducible exact H2_) | with_reducible exact H | (rw [aW]; exact H) | exact H
       have Ny677 := zK aW; clear aW
       obtain ⟨b0, aX⟩ : ∃ y_ : List (List (S30)), y_ = (af.set (ad : Int).toNat aN) := ⟨_, rfl⟩
       replace H : (some (al, b0, ad, true)) = some (r1, r2, r3, r4) := by first | (rw [aX]; with_reducible exact H) | (have H2_ := (Option.bind_some _ _).symm.trans H; rw [aX]; with_reducible exact H2_) | (have H2_ := (Option.bind_some _ _).symm.trans H; with_reducible exact H2_) | with_reducible exact H | (rw [aX]; exact H) | exact H
       have Ny680 := zK aX; clear aX
       simp only [Option.some.injEq, Prod.mk.injEq] at H
       obtain ⟨rfl, rfl, rfl, rfl⟩ := H
       try go_wp2
       have aE := zK (Kd.S_drew ab.out)
       have aG := zK (zD aa.out)
       have aH := zK (zD ac.out)
       have aI := zK (zD ae.out)
       have aM := zK (zE HB.out)
       clear ab aa ac ae HB; have ab := aE; have aa := aG; have ac := aH; have ae := aI; have HB := aM; clear aE aG aH aI aM
       have bA : 0 ≤ (ad : Int) := zd
       have bB : ad < (af.length : Int) := zd
       obtain ⟨ad676, aY, aZ, e676, aC, a6, a7⟩ := at_L2 (Kd.S_reads' ab.out).2.2 ad bA bB
       cases e676
       obtain ⟨ce676, bO, bP, bd⟩ := Kd.S_get ab.out [] ad bA (by first | exact bB | exact zd | (have e_ := (Kd.S_reads' ab.out).1; omega))
       obtain ⟨ve676_0, rfl, aT⟩ := bP
       have aD := bd 0 _ rfl
       rw [Nat.add_zero, show ((Kd.slice 30 k30)).sz = 1 from rfl, Nat.mul_one] at aD
       replace aD := Option.some.inj (aD.symm.trans aC)
       rw [aD] at aT
       have am := zK (show Kd.R k30 30 _ _ _ _ (rd_L2 af ad) from aT)
       clear aD aT; have a8 := zK aC; clear bd bO; have bC := zK a7; have HC676_0 := zK a6; clear a7 a6; replace bA := eq_true bA; replace bB := eq_true bB
       obtain ⟨aw, co39, b1, b2, gl39, cl39, b3⟩ := Kd.S_form ab.out (by have h_ : (ad : Int) < ((af.length : Int) : Int) := zd; have h2_ : 0 ≤ (ad : Int) := (zd); omega)
       (first | cases b1 | (injection b1 with ea_ en_ ec_; (first | subst ea_ | (injection ea_ with ea_; subst ea_)); subst ec_; clear en_))
       have GB39 := zK b2; have GG39 := zK b3; clear b2 gl39 b3
       (first | simp only [add_plain] at aC | skip)
       obtain ⟨bG, ce39, b4, hM39, bH, _, _, b5⟩ := Kd.S_elem ab.out [] (ad : Int) (zd) (by have h_ : (ad : Int) < ((af.length : Int) : Int) := zd; first | exact h_ | (have e_ := (Kd.S_reads' ab.out).1; omega) | simpa using h_)
       obtain ⟨ve39_0, rfl, be⟩ := hM39
       have bf := bH 0 _ rfl; have bQ := a8.out; (try simp only [add_plain] at bQ); (try simp only [Nat.add_zero] at bf); (try rw [show ((Kd.slice 30 k30)).sz = 1 from rfl, Nat.mul_one] at bf)
       replace bf := Option.some.inj (bf.symm.trans bQ)
       subst bf; clear bQ bH b4
       have bD := zK (show Kd.R k30 30 _ w.heap.size bG (.slice aY (rd_L2 af ad).length aZ) (rd_L2 af ad) from be)
       have a0 := zK b5
       have bR := zK (Kd.S_reads' ab.out).1
       clear b5 be
       refine start_ (n := 15) (S := fun w' => w'.cell? ⟨ai, 0, none⟩ = some (.int .i64 al) ∧ w'.cell? ⟨ai, 1, none⟩ = some (.slice (some ⟨aw, 0, none⟩) af.length aA) ∧ w'.cell? ⟨aw, (ad).toNat, none⟩ = some (.slice aY (rd_L2 af ad).length aZ)) (ds := [14]) #[ff, ff, ff, ff, ff, ff, ff, ff, ff, ff, ff, ff, ff, ff, ff] (by kernel_rfl) rfl rfl ⟨(blk_cell ae.out 0).trans rfl, (blk_cell ae.out 1).trans rfl, aC⟩ (fun hHeld => ?_); refine with_tabW impl_PutBag.tab5 impl_PutBag.bits5 (fun HT_ HW_ => ?_)
       generalize wc.drew = w38 at ab aa ac ae HB GG39 a0 am bC a8 bD aC hHeld ⊢
       refine zu 0 (some 29) #[tt, ff, ff, ff, ff, ff, ff, ff, ff, ff, ff, ff, ff, ff, ff] (any_of HT_.out (by kernel_rfl)) ?_
       refine zu 2 (some 31) #[tt, ff, tt, ff, ff, ff, ff, ff, ff, ff, ff, ff, ff, ff, ff] (any_of HT_.out (by kernel_rfl)) ?_
       refine zu 3 (some 32) #[tt, ff, tt, tt, ff, ff, ff, ff, ff, ff, ff, ff, ff, ff, ff] (any_of HT_.out (by kernel_rfl)) ?_
       refine zu 5 (some 34) #[tt, ff, tt, tt, ff, tt, ff, ff, ff, ff, ff, ff, ff, ff, ff] (any_of HT_.out (by kernel_rfl)) ?_
       refine zu 8 (some 37) #[tt, ff, tt, tt, ff, tt, ff, ff, tt, ff, ff, ff, ff, ff, ff] (any_of HT_.out (by kernel_rfl)) ?_
       refine zu 9 (some 38) #[tt, ff, tt, tt, ff, tt, ff, ff, tt, tt, ff, ff, ff, ff, ff] (any_of HT_.out (by kernel_rfl)) ?_
       refine zu 10 (some 39) #[tt, ff, tt, tt, ff, tt, ff, ff, tt, tt, tt, ff, ff, ff, ff] (any_of HT_.out (by kernel_rfl)) ?_
       refine zt 1 (some 30) #[tt, tt, tt, tt, ff, tt, ff, ff, tt, tt, tt, ff, ff, ff, ff] (take_ofW HT_.out HW_.out (by kernel_rfl)) hHeld ?_
       refine zt 4 (some 33) #[tt, tt, tt, tt, tt, tt, ff, ff, tt, tt, tt, ff, ff, ff, ff] (take_ofW HT_.out HW_.out (by kernel_rfl)) hHeld ?_
       refine zu 6 (some 35) #[tt, tt, tt, tt, tt, tt, tt, ff, tt, tt, tt, ff, ff, ff, ff] (any_of HT_.out (by kernel_rfl)) ?_
       refine zt 7 (some 36) #[tt, tt, tt, tt, tt, tt, tt, tt, tt, tt, tt, ff, ff, ff, ff] (take_ofW HT_.out HW_.out (by kernel_rfl)) hHeld ?_
       refine one_ (i := 11) (N := some 40) #[tt, tt, tt, tt, tt, tt, tt, tt, tt, tt, tt, tt, ff, ff, ff] rfl rfl (one_of HT_.out (by kernel_rfl)) (by decide) (fun K hK => ?_)
       refine value_ (w1 := ?_) (v := ?_) (by rfl) rfl ?_ ?_
       rotate_left 2
       ·go_simp
        constructor
        ·rfl
        ·rfl
       refine hK.out _ _ ⟨(blk_cell (zA ae.out _) 0).trans rfl, (blk_cell (zA ae.out _) 1).trans rfl, (World.cell?_alloc_lt _ _ _ (World.block_lt_of_cell? _ _ (hHeld.2.2))).trans (hHeld.2.2)⟩ (fun hHeld => ?_)
       clear hK K
       refine norm_ (a' := ?_) ?_ ?_
       rotate_left
       ·show Act.put _ (some 40) _ = _
        simp only [Act.put, zp, zq, zr, i64_w, i32_w]
        rfl
       refine one_ (i := 12) (N := some 41) #[tt, tt, tt, tt, tt, tt, tt, tt, tt, tt, tt, tt, tt, ff, ff] rfl rfl (one_of HT_.out (by kernel_rfl)) (by decide) (fun K hK => ?_)
       refine Kd.R_append_step k30 (w0 := w) w.heap.size (by rfl) (.tmp 36) (.tmp 40) 28 30 (.agg #[(.int .i64 0), (.int .i64 0)]) 16 rfl Try.underlying28 info30 rfl (by decide) (by omega) (.slice aY (rd_L2 af ad).length aZ) (rd_L2 af ad) (⟨a1, a2⟩ : S30) [.int .i64 a1, .int .i64 a2] (fun k_ => bG k_ ∨ ((fun _ => True)) k_ ∧ w38.heap.size ≤ k_) (fun _ => False) rfl rfl ?aP (fun _ hk => hk.elim) ?aF ?aO ?aB ?aS ?aL ?_
       (case aP => exact k30_mkM _ _ _ (⟨a1, a2⟩ : S30))
       (case aB => exact (zb HB))
       (case aF => exact (fun k_ hk => .inr ⟨trivial, hk⟩))
       (case aO => exact (by (with_reducible repeat (first | apply Kd.R_alloc | apply Kd.R_drewN | apply Kd.R_drew)); exact Kd.R_mono bD.out (fun _ hk => .inl hk)))
       (case aS => exact (below_size (zb HB)))
       (case aL => have := bZ.out; omega)
       intro v678 bU ho hb hg hat
       (first | have b6 := cell_grown hg (hHeld.2.2) (by first | (rw [add_block]; exact (fun e_ => ((am.out.1 _ e_.symm).2) rfl)) | (show some (Addr.add _ _).block ≠ _; rw [add_block]; exact (fun e_ => ((am.out.1 _ e_.symm).2) rfl)) | exact (fun e_ => ((am.out.1 _ e_.symm).2) rfl)) | have b6 := cell_grown hg (cell_unalloc (hHeld.2.2) (by first | (rw [add_block]; exact Kd.S_lt ab.out _ rfl) | (show (Addr.add _ _).block < _; rw [add_block]; exact Kd.S_lt ab.out _ rfl) | exact Kd.S_lt ab.out _ rfl)) (by first | (rw [add_block]; exact (fun e_ => ((am.out.1 _ e_.symm).2) rfl)) | (show some (Addr.add _ _).block ≠ _; rw [add_block]; exact (fun e_ => ((am.out.1 _ e_.symm).2) rfl)) | exact (fun e_ => ((am.out.1 _ e_.symm).2) rfl)))
       rw [← Ny677.out] at ho
       have aE := zK (blk_grown (g := ah) (o := .cells #[.int .i64 a0_0, .slice ap aj.length aq] 24 (0, 0)) (zk aa) hg (Kd.R_ne am.out aa.out (by decide)))
       have aG := zK (blk_grown (g := ag) (o := .cells #[.int .i64 0, .slice none 0 0] 24 (0, 0)) (zk ac) hg (Kd.R_ne am.out ac.out (by decide)))
       have aH := zK (blk_grown (g := ai) (o := .cells #[.int .i64 al, .slice (some ⟨aw, 0, none⟩) af.length aA] 24 (0, 0)) (zk ae) hg (Kd.R_ne am.out ae.out (by decide)))
       have aI := zK (hb)
       have aM := zK (Kd.H_grown (Kd.H_widen (by repeat (first | exact a0.out | refine Kd.H_alloc ?_ _ | refine Kd.H_drewN ?_ _ | refine Kd.H_drew ?_))) hg (fun k_ e_ => .inl (bD.out.1 k_ e_)))
       have bb := zK (ho)
       clear aa ac ae HB a0 ab bD am; have aa := aE; have ac := aG; have ae := aH; have HB := aI; have a0 := aM; have bI := bb; clear aE aG aH aI aM bb ho hb hg hat
       have p37 : 0 ≤ (ad : Int) := zd
       have q37 : (ad : Int) < ((af.length : Int) : Int) := zd
       replace p37 := eq_true p37; replace q37 := eq_true q37
       obtain ⟨a3, a4, b7⟩ := Kd.R_slice bI.out
       (first | subst b7 | (injection b7 with f1_ f2_ f3_; have f4_ := f1_.symm; have f5_ := f3_.symm; clear f1_ f2_ f3_; subst f4_; subst f5_))
       obtain ⟨_, _, aU, _, _, bJ, _⟩ := Kd.H_raw a0.out (zd) (by have h_ : (ad : Int) < ((af.length : Int) : Int) := zd; first | exact h_ | (have e_ := (bR.out); omega) | simpa using h_)
       obtain ⟨_, bK⟩ := Kd.H_at a0.out (zd) (by have h_ : (ad : Int) < ((af.length : Int) : Int) := zd; first | exact h_ | (have e_ := (bR.out); omega) | simpa using h_)
       have bg := bJ 0 _ rfl; have bh := bK 0; (try simp only [Nat.add_zero] at bg bh); (try rw [show ((Kd.slice 30 k30)).sz = 1 from rfl, Nat.mul_one] at bg); (try rw [show ((Kd.slice 30 k30)).sz = 1 from rfl, Nat.mul_one] at bh)
       have bS := Kd.S_seg0 a0.out (zd) (by have h_ : (ad : Int) < ((af.length : Int) : Int) := zd; first | exact h_ | (have e_ := (bR.out); omega) | simpa using h_) (seg := [.slice a3 aN.length a4]) (j := 0) (show 1 ≤ 1 from by decide) (x' := aN) (Kd.M_row bI.out) (fun _ hk => hk)
       (try simp only [show ((Kd.slice 30 k30)).sz = 1 from rfl, Nat.mul_one, Nat.add_zero] at bS); clear bJ bK
       have HNB664_go39 := zK (show ah ≠ aw from by have h_ := Kd.R_ne aU aa.out (by decide); intro e_; exact h_ (by rw [e_]; rfl))
       have HNB665_go39 := zK (show ag ≠ aw from by have h_ := Kd.R_ne aU ac.out (by decide); intro e_; exact h_ (by rw [e_]; rfl))
       have HNB670_go39 := zK (show ai ≠ aw from by have h_ := Kd.R_ne aU ae.out (by decide); intro e_; exact h_ (by rw [e_]; rfl))
       have bT := bS.1
       rw [← Ny680.out] at bT
       have HQ41 := zK bT
       obtain ⟨_, bL⟩ := Kd.R_typed aU aw rfl
       have GG41_ := zK bL; clear bS bT bL
       refine hK.out _ _ ⟨(blk_cell ae.out 0).trans rfl, (blk_cell ae.out 1).trans rfl, b6⟩ (fun hHeld => ?_)
       clear hK K
       refine norm_ (a' := ?_) ?_ ?_
       rotate_left
       ·show Act.put _ (some 41) _ = _
        simp only [Act.put, zp, zq, zr, i64_w, i32_w]
        rfl
       refine zu 13 (some 42) #[tt, tt, tt, tt, tt, tt, tt, tt, tt, tt, tt, tt, tt, tt, ff] (any_of HT_.out (by kernel_rfl)) ?_
       refine last_ (i := 14) (N := none) #[tt, tt, tt, tt, tt, tt, tt, tt, tt, tt, tt, tt, tt, tt, tt] rfl rfl (one_of HT_.out (by kernel_rfl)) (by decide) (fun K hK => ?_)
       refine skip_ (w1 := ?_) (by rfl) rfl ?_ ?_
       rotate_left
       ·go_simp
        rfl
       refine hK.out _ _ ?_
       clear hK K
       refine done_ (done_of HT_.out (by kernel_rfl)) ?_
       have aE : Aside0 (Kd.S (Kd.slice 30 k30) 28 (bU.setCell ⟨aw, (ad : Int).toNat, none⟩ (.slice a3 aN.length a4)) w.heap.size (fun _ => True) (.slice (some ⟨aw, 0, none⟩) af.length aA) b0) := ⟨zT HQ41⟩
       have aG : Aside0 ((bU.setCell ⟨aw, (ad : Int).toNat, none⟩ (.slice a3 aN.length a4)).heap[ah]? = some (.cells #[.int .i64 a0_0, .slice ap aj.length aq] 24 (0, 0))) := ⟨by (with_reducible repeat (first | refine zN ?_ _ | refine zD ?_ | refine zA ?_ _)); refine blk_far ?_ HNB664_go39.out _; (with_reducible repeat (first | refine zN ?_ _ | refine zD ?_ | refine zA ?_ _)); exact aa.out⟩
       have aH : Aside0 ((bU.setCell ⟨aw, (ad : Int).toNat, none⟩ (.slice a3 aN.length a4)).heap[ag]? = some (.cells #[.int .i64 0, .slice none 0 0] 24 (0, 0))) := ⟨by (with_reducible repeat (first | refine zN ?_ _ | refine zD ?_ | refine zA ?_ _)); refine blk_far ?_ HNB665_go39.out _; (with_reducible repeat (first | refine zN ?_ _ | refine zD ?_ | refine zA ?_ _)); exact ac.out⟩
       have aI : Aside0 ((bU.setCell ⟨aw, (ad : Int).toNat, none⟩ (.slice a3 aN.length a4)).heap[ai]? = some (.cells #[.int .i64 al, .slice (some ⟨aw, 0, none⟩) af.length aA] 24 (0, 0))) := ⟨by (with_reducible repeat (first | refine zN ?_ _ | refine zD ?_ | refine zA ?_ _)); refine blk_far ?_ HNB670_go39.out _; (with_reducible repeat (first | refine zN ?_ _ | refine zD ?_ | refine zA ?_ _)); exact ae.out⟩
       have aM : Aside0 (Below w.heap.size w (bU.setCell ⟨aw, (ad : Int).toNat, none⟩ (.slice a3 aN.length a4))) := ⟨zb HB⟩
       (try clear ab); (try clear aa); (try clear ac); (try clear ae); (try clear HB)
       generalize (bU.setCell ⟨aw, (ad : Int).toNat, none⟩ (.slice a3 aN.length a4)) = w44 at aE aG aH aI aM ⊢
       have ab := aE; have aa := aG; have ac := aH; have ae := aI; have HB := aM; clear aE aG aH aI aM; have hnb45 := az.out; have hnc45 := ao.out; have hnb46 := aJ.out; have hnc46 := au.out
       have hcz47_0 : w44.cell? ⟨ai, 0, none⟩ = some (.int .i64 al) := (blk_cell ae.out 0).trans rfl
       have hcz47_1 : w44.cell? ⟨ai, 1, none⟩ = some (.slice (some ⟨aw, 0, none⟩) af.length aA) := (blk_cell ae.out 1).trans rfl
       have hfz47_0 := blk_frozen ae.out 0; have hfz47_1 := blk_frozen ae.out 1; have hnb48 := ay.out; have hnc48 := ax.out
       have hcz49_0 : w44.cell? ⟨ag, 0, none⟩ = some (.int .i64 0) := (blk_cell ac.out 0).trans rfl
       have hcz49_1 : w44.cell? ⟨ag, 1, none⟩ = some (.slice none 0 0) := (blk_cell ac.out 1).trans rfl
       have hfz49_0 := blk_frozen ac.out 0; have hfz49_1 := blk_frozen ac.out 1
       try go_wp2
       refine bodyPost_ret (results_ctt rfl _ _ ag 24 #[.int .i64 al, .slice (some ⟨aw, 0, none⟩) af.length aA] (0, 0) _ rfl (by (with_reducible repeat (first | refine zN ?_ _ | refine zD ?_ | refine zA ?_ _)); refine blk_put (cs := #[.int .i64 al, .slice none 0 0]) ?_ 1 _ rfl; (with_reducible repeat (first | refine zN ?_ _ | refine zD ?_ | refine zA ?_ _)); refine blk_put (cs := #[.int .i64 0, .slice none 0 0]) ?_ 0 _ rfl; (with_reducible repeat (first | refine zN ?_ _ | refine zD ?_ | refine zA ?_ _)); exact ac.out) Try.underlying24 rfl (by kernel_rfl)) rfl ?_
       exact ⟨_, by first | rfl | (simp [errW_none, errW_some] <;> rfl) | (simp [*, errW_none, errW_some] <;> rfl), by (with_reducible repeat (first | apply Kd.S_alloc | apply Kd.S_drewN | apply Kd.S_drew)); exact Kd.S_mono (Kd.S_far (p := ⟨ag, 1, none⟩) (Kd.S_far (p := ⟨ag, 0, none⟩) (Kd.S_types ab.out ac.out (by decide)) (fun _ hk => hk.2) (.int .i64 al)) (fun _ hk => hk.2) (.slice (some ⟨aw, 0, none⟩) af.length aA)) (fun _ hk => trivial), by repeat (first | (with_reducible first | exact HB.out | apply zB | apply zC | apply zE | refine zS ?_ ak.out | refine zS ?_ an.out | refine zS ?_ av.out) | exact HB.out)⟩
      ·rw [if_neg c36] at H
       exact absurd H (by simp)
     ·rw [if_neg c35] at H
      exact absurd H (by simp)
    ·rw [if_neg c34] at H
     exact absurd H (by simp)
def spec_PutBag.j0 : Nat → Int → Int → Int → Bool → Int → List (List (S30)) → Option (Int × (List (List (S30))) × Int × Bool)
 | 0, _, _, _, _, _, _ => none
 | k + 1, x1, x2, x9, x27, x682000, x682001 => if x27 = true then (some (x682000, x682001, (-1), false)) else ((spec_l06Copy.f k x682000 x682001).bind fun bt689 => (if 0 ≤ x9 then (if x9 < (bt689.2.length : Int) then (if (rd_L2 bt689.2 x9).length < 8796093022208 then (some (bt689.1, (bt689.2.set (x9 : Int).toNat ((rd_L2 bt689.2 x9) ++ [(⟨x1, x2⟩ : S30)])), x9, true)) else (none)) else (none)) else (none)))
def spec_PutBag.f (k : Nat) (a0_0 : Int) (l0_1 : List (List (S30))) (a1 : Int) (a2 : Int) : Option (Int × (List (List (S30))) × Int × Bool) := (spec_l06Copy.f k a0_0 l0_1).bind fun bt683 => ((spec_LaneFor.f k bt683.1 bt683.2 a2 (-1)).bind fun t687 => (if t687 < 0 then (spec_PutBag.j0 k a1 a2 t687 true bt683.1 bt683.2) else (if a1 < 1 then (spec_PutBag.j0 k a1 a2 t687 true bt683.1 bt683.2) else ((spec_l06Find.f k bt683.1 bt683.2 a1).bind fun t688 => (spec_PutBag.j0 k a1 a2 t687 (decide (t688 ≥ 0)) bt683.1 bt683.2)))))
def spec_PutBag.T6 : Bool × List (List Nat × List Nat) := (true, [([], []), ([0], [0]), ([], []), ([], []), ([3], [3]), ([], []), ([4, 5], [4, 5]), ([6], [6]), ([], []), ([], []), ([8, 9], [8, 9]), ([10], [10]), ([7, 11], [7, 11]), ([1, 2, 0, 1, 2, 3, 4, 5, 6, 7, 8, 9, 10, 11, 12], [1, 2]), ([13, 12, 12, 0, 1, 2, 3, 4, 5, 6, 7, 8, 9, 10, 11, 12], [12, 13])])
def spec_PutBag.B6 : List Nat := [0, 1, 0, 0, 8, 0, 56, 120, 0, 0, 768, 1792, 4088, 8191, 16383]
theorem spec_PutBag.tab6 : rtab .any (opsOf Try.f32 6) = spec_PutBag.T6 := by kernel_rfl
theorem spec_PutBag.bits6 : waitsOk spec_PutBag.T6.2 spec_PutBag.B6 = true := by kernel_rfl
set_option maxHeartbeats 8000000 in
set_option maxRecDepth 100000 in
theorem spec_PutBag.calls (k : Nat) (a0_0 : Int) (aK : Option Addr) (aM : Nat) (ay : List (List (S30))) (a1 : Int) (a2 : Int) (r1 : Int) (r2 : List (List (S30))) (r3 : Int) (r4 : Bool) (w : World) (bF : Kd.C (Kd.slice 30 k30) w aK ay.length ay) (hc0_1 : ay.length ≤ aM) (h : spec_PutBag.f k a0_0 ay a1 a2 = some (r1, r2, r3, r4)) :
  Calls Try.prog 32 #[.agg #[.int .i64 a0_0, .slice aK ay.length aM], .int .i64 a1, .int .i64 a2] w fun e w' => ∃ v1_ : Value, e = .returned (.tuple #[.agg #[.int .i64 r1, v1_], .int .i64 r3, .bool r4]) ∧ Kd.S (Kd.slice 30 k30) 28 w' w.heap.size (fun _ => True) v1_ r2 ∧ Below w.heap.size w w' := by
 have hu24 := Try.underlying24; have hu30 := Try.underlying30; have bY := zK bF; have bZ := zK hc0_1; clear bF hc0_1
 have HB := zK (Below.refl w.heap.size w)
 have H : ((spec_l06Copy.f k a0_0 ay).bind fun bt683 => ((spec_LaneFor.f k bt683.1 bt683.2 a2 (-1)).bind fun ad => (if ad < 0 then (spec_PutBag.j0 k a1 a2 ad true bt683.1 bt683.2) else (if a1 < 1 then (spec_PutBag.j0 k a1 a2 ad true bt683.1 bt683.2) else ((spec_l06Find.f k bt683.1 bt683.2 a1).bind fun aU => (spec_PutBag.j0 k a1 a2 ad (decide (aU ≥ 0)) bt683.1 bt683.2)))))) = some (r1, r2, r3, r4) := h
 clear h; replace H := Option.bind_eq_some_iff.mp H
 obtain ⟨⟨al, ah⟩, A40, H⟩ := H
 replace H : ((spec_LaneFor.f k al ah a2 (-1)).bind fun ad => (if ad < 0 then (spec_PutBag.j0 k a1 a2 ad true al ah) else (if a1 < 1 then (spec_PutBag.j0 k a1 a2 ad true al ah) else ((spec_l06Find.f k al ah a1).bind fun aU => (spec_PutBag.j0 k a1 a2 ad (decide (aU ≥ 0)) al ah))))) = some (r1, r2, r3, r4) := H
 have A4 := zK A40; clear A40; replace H := Option.bind_eq_some_iff.mp H
 obtain ⟨ad, A50, H⟩ := H
 replace H : (if ad < 0 then (spec_PutBag.j0 k a1 a2 ad true al ah) else (if a1 < 1 then (spec_PutBag.j0 k a1 a2 ad true al ah) else ((spec_l06Find.f k al ah a1).bind fun aU => (spec_PutBag.j0 k a1 a2 ad (decide (aU ≥ 0)) al ah)))) = some (r1, r2, r3, r4) := H
 have A5 := zK A50; clear A50; have HC6 := zK H; clear H
 go_enter Try.func32, Try.ntmps32
 go_upto_region 3 with (first | ((with_reducible refine gate_dst (N := 3) rfl ?_); refine box_event ?hg (N := 3) ?hd (cs := #[.int .i64 a0_0, .slice aK ay.length aM]) (t := 24) ?hr ?_; (case hd => rfl); (case hg => rfl); (case hr => first | (go_simp; done) | (go_simp; rfl)); intro ae hg w7 hbox hb; have az := zK (below_step (zb HB) hb); have aA := zK (hbox); have aC := zK ((by rw [hg]; exact (below_size (zb HB)) : w.heap.size ≤ ae)); have aD := zK ((by rw [hg]; exact (below_size (zb HB)) : w.heap.size ≤ ae)); clear HB; have HB := az; have aa := aA; have GW681 := aC; have am := aD; clear az aA aC aD; clear hb hbox hg) | ((with_reducible refine gate_dst (N := 6) rfl ?_); refine box_event ?hg (N := 6) ?hd (cs := #[.int .i64 0, .slice none 0 0]) (t := 24) ?hr ?_; (case hd => rfl); (case hg => rfl); (case hr => first | (go_simp; done) | (go_simp; rfl)); intro aj hg w8 hbox hb; have az := zK (blk_below (g := ae) (o := .cells #[.int .i64 a0_0, .slice aK ay.length aM] 24 (0, 0)) (zk aa) hb); have aA := zK (below_step (zb HB) hb); have aC := zK (hbox); have aD := zK ((by rw [hg]; exact (below_size (zb HB)) : w.heap.size ≤ aj)); have aR := zK ((by rw [hg]; exact (below_size (zb HB)) : w.heap.size ≤ aj)); have aV := zK ((by rw [hg]; exact Nat.ne_of_lt (blk_lt (g := ae) (o := .cells #[.int .i64 a0_0, .slice aK ay.length aM] 24 (0, 0)) (zk aa)) : ae ≠ aj)); have bG := zK ((by rw [hg]; exact Nat.ne_of_gt (blk_lt (g := ae) (o := .cells #[.int .i64 a0_0, .slice aK ay.length aM] 24 (0, 0)) (zk aa)) : aj ≠ ae)); clear aa; clear HB; have aa := az; have HB := aA; have ac := aC; have GW682 := aD; have ao := aR; have aE := aV; have ar := bG; clear az aA aC aD aR aV bG; clear hb hbox hg; have hnb9 := aE.out; have hnc9 := ar.out; have bm : w8.cell? ⟨ae, 0, none⟩ = some (.int .i64 a0_0) := (blk_cell aa.out 0).trans rfl; have bn : w8.cell? ⟨ae, 1, none⟩ = some (.slice aK ay.length aM) := (blk_cell aa.out 1).trans rfl; have bo := blk_frozen aa.out 0; have bp := blk_frozen aa.out 1) | ((with_reducible refine gate_callee (f := 69) rfl ?_); refine goesL_ (some 12) rfl rfl Try.func69 (by kernel_rfl) rfl #[.agg #[.int .i64 a0_0, .slice aK ay.length aM]] rfl (by (try simp only [List.map_toArray, List.map_cons, List.map_nil]); first | done | rfl | (simp only [List.length_drop, List.length_take]; rfl)) ?_; (with_reducible refine (spec_l06Copy.calls k a0_0 _ _ ay al ah _ ?side1 ?side2 A4.out).mono ?_); (case side1 => repeat (first | exact (Kd.C_below bY.out HB.out) | (with_reducible refine Kd.C_alloc ?_ _) | (with_reducible refine Kd.C_drewN ?_ _) | (with_reducible refine Kd.C_drew ?_))); (case side2 => exact bZ.out); rintro e w11 ⟨v685, rfl, ho0, hb⟩; refine ⟨_, rfl, ?_⟩; have az := zK (Kd.S_lower ho0 (below_size (zb HB))); have aA := zK (blk_below (g := ae) (o := .cells #[.int .i64 a0_0, .slice aK ay.length aM] 24 (0, 0)) (zk aa) hb); have aC := zK (blk_below (g := aj) (o := .cells #[.int .i64 0, .slice none 0 0] 24 (0, 0)) (zk ac) hb); have aD := zK (below_step (zb HB) hb); clear aa; clear ac; clear HB; have aw := az; have aa := aA; have ac := aC; have HB := aD; clear az aA aC aD; (try clear hb); (try clear hk); (try clear ho0); have bq : w11.cell? ⟨ae, 0, none⟩ = some (.int .i64 a0_0) := (blk_cell aa.out 0).trans rfl; have br : w11.cell? ⟨ae, 1, none⟩ = some (.slice aK ay.length aM) := (blk_cell aa.out 1).trans rfl; have bs := blk_frozen aa.out 0; have bt := blk_frozen aa.out 1; obtain ⟨aq, ap, eo13⟩ := Kd.S_slice aw.out; subst eo13) | ((with_reducible refine gate_callee (f := 26) rfl ?_); refine goesL_ (some 15) rfl rfl Try.func26 (by kernel_rfl) rfl #[.agg #[.int .i64 al, .slice aq ah.length ap], .int .i64 a2, .int .i64 (-1)] rfl (by (try simp only [List.map_toArray, List.map_cons, List.map_nil]); first | done | rfl | (simp only [List.length_drop, List.length_take]; rfl)) ?_; (with_reducible refine (spec_LaneFor.calls k al _ _ ah a2 (-1) ad _ ?side1 ?side2 A5.out).mono ?_); (case side1 => refine (Kd.S_reads' (e := 28) (base := w.heap.size) (ok := fun k_ => True) (n := ah.length) (c := ap) ?_).2.2; exact (by (with_reducible repeat (first | apply Kd.S_alloc | apply Kd.S_drewN | apply Kd.S_drew)); exact (Kd.S_mono (Kd.S_far (p := ⟨ae, 1, none⟩) (Kd.S_far (p := ⟨ae, 0, none⟩) (Kd.S_types aw.out aa.out (by decide)) (fun _ hk => hk.2) (.int .i64 al)) (fun _ hk => hk.2) (.slice aq ah.length ap)) (fun _ h_ => h_.1)))); (case side2 => exact (Kd.S_reads' aw.out).2.1); rintro e w14 ⟨rfl, hb⟩; refine ⟨_, rfl, ?_⟩; have az := zK (Kd.S_below (by (with_reducible repeat (first | apply Kd.S_alloc | apply Kd.S_drewN | apply Kd.S_drew)); exact (Kd.S_mono (Kd.S_far (p := ⟨ae, 1, none⟩) (Kd.S_far (p := ⟨ae, 0, none⟩) (Kd.S_types aw.out aa.out (by decide)) (fun _ hk => hk.2) (.int .i64 al)) (fun _ hk => hk.2) (.slice aq ah.length ap)) (fun _ h_ => h_.1))) hb); have aA := zK (blk_below (g := ae) (o := .cells #[.int .i64 al, .slice aq ah.length ap] 24 (0, 0)) (by (with_reducible repeat (first | refine zN ?_ _ | refine zD ?_ | refine zA ?_ _)); refine blk_put (cs := #[.int .i64 al, .slice aK ay.length aM]) ?_ 1 _ rfl; (with_reducible repeat (first | refine zN ?_ _ | refine zD ?_ | refine zA ?_ _)); refine blk_put (cs := #[.int .i64 a0_0, .slice aK ay.length aM]) ?_ 0 _ rfl; (with_reducible repeat (first | refine zN ?_ _ | refine zD ?_ | refine zA ?_ _)); exact aa.out) hb); have aC := zK (blk_below (g := aj) (o := .cells #[.int .i64 0, .slice none 0 0] 24 (0, 0)) (by (with_reducible repeat (first | refine zN ?_ _ | refine zD ?_ | refine zA ?_ _)); refine blk_far ?_ ar.out _; (with_reducible repeat (first | refine zN ?_ _ | refine zD ?_ | refine zA ?_ _)); refine blk_far ?_ ar.out _; (with_reducible repeat (first | refine zN ?_ _ | refine zD ?_ | refine zA ?_ _)); exact ac.out) hb); have aD := zK (below_step (zb HB) hb); clear aw; clear aa; clear ac; clear HB; have aw := az; have aa := aA; have ac := aC; have HB := aD; clear az aA aC aD; (try clear hb); (try clear hk)))
 (try simp only [Act.put, zp, zq, zr])
 go_cut [27] (fun v27 wc => ∃ (kq : Nat) (a9 : Bool), v27 = .bool a9 ∧ Aside0 (spec_PutBag.j0 kq a1 a2 ad a9 al ah = some (r1, r2, r3, r4)) ∧ Aside0 (kq ≤ k) ∧ Aside0 (Kd.S (Kd.slice 30 k30) 28 wc w.heap.size (fun _ => True) (.slice aq ah.length ap) ah) ∧ Aside0 (wc.heap[ae]? = some (.cells #[.int .i64 al, (.slice aq ah.length ap)] 24 (0, 0))) ∧ Aside0 (wc.heap[aj]? = some (.cells #[.int .i64 0, (.slice none 0 0)] 24 (0, 0))) ∧ Aside0 (Below w.heap.size w wc))
 case first =>
  have H := HC6.out; clear HC6
  by_cases bP : ad < 0
  ·rw [if_pos bP] at H
   have aT : decide (ad < 0) = true := decide_eq_true bP
   clear bP
   (first | rw [aT] | (simp only [i64_w, i32_w]; rw [aT]) | skip)
   have H' := zK H; clear H
   go_wp2
   go_meet
   case rel => exact ⟨_, (true), (by first | rfl | (simp; done) | (simp [*]; done)), H', ⟨by first | omega | exact Nat.le_refl _⟩, ⟨zT aw⟩, ⟨zk aa⟩, ⟨zk ac⟩, ⟨zb HB⟩⟩
  ·rw [if_neg bP] at H
   have aT : decide (ad < 0) = false := decide_eq_false bP
   clear bP
   (first | rw [aT] | (simp only [i64_w, i32_w]; rw [aT]) | skip)
   by_cases bQ : a1 < 1
   ·rw [if_pos bQ] at H
    have bH : decide (a1 < 1) = true := decide_eq_true bQ
    clear bQ; have H' := zK H; clear H
    go_wp2
    go_meet
    case rel => exact ⟨_, (true), (by first | rfl | (simp; done) | (simp [*]; done)), H', ⟨by first | omega | exact Nat.le_refl _⟩, ⟨zT aw⟩, ⟨zk aa⟩, ⟨zk ac⟩, ⟨zb HB⟩⟩
   ·rw [if_neg bQ] at H
    have bH : decide (a1 < 1) = false := decide_eq_false bQ
    clear bQ; replace H := Option.bind_eq_some_iff.mp H
    obtain ⟨aU, b0, H⟩ := H
    replace H : (spec_PutBag.j0 k a1 a2 ad (decide (aU ≥ 0)) al ah) = some (r1, r2, r3, r4) := H
    have A17 := zK b0; clear b0; have H' := zK H; clear H; have hnb18 := aE.out; have hnc18 := ar.out
    have bv : w14.cell? ⟨ae, 0, none⟩ = some (.int .i64 al) := (blk_cell aa.out 0).trans rfl
    have bw : w14.cell? ⟨ae, 1, none⟩ = some (.slice aq ah.length ap) := (blk_cell aa.out 1).trans rfl
    have bx := blk_frozen aa.out 0; have bz := blk_frozen aa.out 1
    go_wp2_with (first | (go_at_call 70; (with_reducible refine (spec_l06Find.calls k al _ _ ah a1 aU _ ?side1 ?side2 A17.out).mono ?_); (case side1 => repeat (first | exact (Kd.S_reads' aw.out).2.2 | (with_reducible refine Kd.C_alloc ?_ _) | (with_reducible refine Kd.C_drewN ?_ _) | (with_reducible refine Kd.C_drew ?_))); (case side2 => exact (Kd.S_reads' aw.out).2.1); rintro e w20 ⟨rfl, hb⟩; have az := zK (Kd.S_below (zT aw) hb); have aA := zK (blk_below (g := ae) (o := .cells #[.int .i64 al, .slice aq ah.length ap] 24 (0, 0)) (zk aa) hb); have aC := zK (blk_below (g := aj) (o := .cells #[.int .i64 0, .slice none 0 0] 24 (0, 0)) (zk ac) hb); have aD := zK (below_step (zb HB) hb); clear aw; clear aa; clear ac; clear HB; have aw := az; have aa := aA; have ac := aC; have HB := aD; clear az aA aC aD; (try clear hb)))
    go_meet
    case rel => exact ⟨_, (decide (aU ≥ 0)), (by first | rfl | (simp; done) | (simp [*]; done)), H', ⟨by first | omega | exact Nat.le_refl _⟩, ⟨zT aw⟩, ⟨zk aa⟩, ⟨zk ac⟩, ⟨zb HB⟩⟩
 case rest =>
  clear HC6
  try clear c1
  try clear c2
  try clear p2
  try clear c3
  try clear c6
  try clear c9
  try clear bP
  try clear aT
  try clear bQ
  try clear bH
  try clear c18
  try clear bm
  try clear bn
  try clear bq
  try clear br
  try clear bv
  try clear bw
  try clear bo
  try clear bp
  try clear bs
  try clear bt
  try clear bx
  try clear bz
  obtain ⟨kq, a9, rfl, HA, HJ5, ab, aa, ac, HB⟩ := hcut
  cases kq with
  | zero => exact absurd HA.out (by simp [spec_PutBag.j0])
  | succ kj5 =>
   have H := HA.out; clear HA
   simp only [spec_PutBag.j0] at H
   by_cases c21 : a9 = true
   ·subst c21
    have H1 : (some (al, ah, (-1), false)) = some (r1, r2, r3, r4) := by rw [if_pos rfl] at H; exact H
    clear H; have H := H1; clear H1
    simp only [Option.some.injEq, Prod.mk.injEq] at H
    obtain ⟨rfl, rfl, rfl, rfl⟩ := H
    have hnb22 := aE.out; have hnc22 := ar.out
    have hcz23_0 : wc.cell? ⟨ae, 0, none⟩ = some (.int .i64 al) := (blk_cell aa.out 0).trans rfl
    have hcz23_1 : wc.cell? ⟨ae, 1, none⟩ = some (.slice aq ah.length ap) := (blk_cell aa.out 1).trans rfl
    have hfz23_0 := blk_frozen aa.out 0; have hfz23_1 := blk_frozen aa.out 1
    have hcz24_0 : wc.cell? ⟨aj, 0, none⟩ = some (.int .i64 0) := (blk_cell ac.out 0).trans rfl
    have hcz24_1 : wc.cell? ⟨aj, 1, none⟩ = some (.slice none 0 0) := (blk_cell ac.out 1).trans rfl
    have hfz24_0 := blk_frozen ac.out 0; have hfz24_1 := blk_frozen ac.out 1
    go_wp2
    refine bodyPost_ret (results_ctt rfl _ _ aj 24 #[.int .i64 al, .slice aq ah.length ap] (0, 0) _ rfl (by (with_reducible repeat (first | refine zN ?_ _ | refine zD ?_ | refine zA ?_ _)); refine blk_put (cs := #[.int .i64 al, .slice none 0 0]) ?_ 1 _ rfl; (with_reducible repeat (first | refine zN ?_ _ | refine zD ?_ | refine zA ?_ _)); refine blk_put (cs := #[.int .i64 0, .slice none 0 0]) ?_ 0 _ rfl; (with_reducible repeat (first | refine zN ?_ _ | refine zD ?_ | refine zA ?_ _)); exact ac.out) Try.underlying24 rfl (by kernel_rfl)) rfl ?_
    exact ⟨_, by first | rfl | (simp [errW_none, errW_some] <;> rfl) | (simp [*, errW_none, errW_some] <;> rfl), by (with_reducible repeat (first | apply Kd.S_alloc | apply Kd.S_drewN | apply Kd.S_drew)); exact Kd.S_mono (Kd.S_far (p := ⟨aj, 1, none⟩) (Kd.S_far (p := ⟨aj, 0, none⟩) (Kd.S_types ab.out ac.out (by decide)) (fun _ hk => hk.2) (.int .i64 al)) (fun _ hk => hk.2) (.slice aq ah.length ap)) (fun _ hk => trivial), by repeat (first | (with_reducible first | exact HB.out | apply zB | apply zC | apply zE | refine zS ?_ am.out | refine zS ?_ ao.out) | exact HB.out)⟩
   ·replace c21 := Bool.eq_false_iff.mpr c21
    subst c21
    have H1 : ((spec_l06Copy.f kj5 al ah).bind fun bt689 => (if 0 ≤ ad then (if ad < (bt689.2.length : Int) then (if (rd_L2 bt689.2 ad).length < 8796093022208 then (some (bt689.1, (bt689.2.set (ad : Int).toNat ((rd_L2 bt689.2 ad) ++ [(⟨a1, a2⟩ : S30)])), ad, true)) else (none)) else (none)) else (none))) = some (r1, r2, r3, r4) := by rw [if_neg (show ¬ (false = true) by decide)] at H; exact H
    clear H; have H := H1; clear H1; replace H := Option.bind_eq_some_iff.mp H
    obtain ⟨⟨au, ai⟩, b1, H⟩ := H
    replace H : (if 0 ≤ ad then (if ad < (ai.length : Int) then (if (rd_L2 ai ad).length < 8796093022208 then (some (au, (ai.set (ad : Int).toNat ((rd_L2 ai ad) ++ [(⟨a1, a2⟩ : S30)])), ad, true)) else (none)) else (none)) else (none)) = some (r1, r2, r3, r4) := H
    have A25 := zK b1; clear b1
    by_cases c26 : 0 ≤ ad
    ·rw [if_pos c26] at H
     have c26b0 : decide (0 ≤ ad) = true := decide_eq_true c26
     clear c26
     by_cases c27 : ad < (ai.length : Int)
     ·rw [if_pos c27] at H
      have c27b0 : decide (ad < (ai.length : Int)) = true := decide_eq_true c27
      clear c27
      by_cases c28 : (rd_L2 ai ad).length < 8796093022208
      ·rw [if_pos c28] at H
       have b2 := zK c28; clear c28
       obtain ⟨aN, a3⟩ : ∃ y_ : List (S30), y_ = ((rd_L2 ai ad) ++ [(⟨a1, a2⟩ : S30)]) := ⟨_, rfl⟩
       replace H : (some (au, (ai.set (ad : Int).toNat aN), ad, true)) = some (r1, r2, r3, r4) := by first | (rw [a3]; with_reducible exact H) | (have H2_ := (Option.bind_some _ _).symm.trans H; rw [a3]; with_reducible exact H2_) | (have H2_ := (Option.bind_some _ _).symm.trans H; with_reducible exact H2_) | with_reducible exact H | (rw [a3]; exact H) | exact H
       have Ny695 := zK a3; clear a3
       obtain ⟨b3, a4⟩ : ∃ y_ : List (List (S30)), y_ = (ai.set (ad : Int).toNat aN) := ⟨_, rfl⟩
       replace H : (some (au, b3, ad, true)) = some (r1, r2, r3, r4) := by first | (rw [a4]; with_reducible exact H) | (have H2_ := (Option.bind_some _ _).symm.trans H; rw [a4]; with_reducible exact H2_) | (have H2_ := (Option.bind_some _ _).symm.trans H; with_reducible exact H2_) | with_reducible exact H | (rw [a4]; exact H) | exact H
       have Ny698 := zK a4; clear a4
       simp only [Option.some.injEq, Prod.mk.injEq] at H
       obtain ⟨rfl, rfl, rfl, rfl⟩ := H
       have hnb30 := aE.out; have hnc30 := ar.out
       have hcz31_0 : wc.cell? ⟨ae, 0, none⟩ = some (.int .i64 al) := (blk_cell aa.out 0).trans rfl
       have hcz31_1 : wc.cell? ⟨ae, 1, none⟩ = some (.slice aq ah.length ap) := (blk_cell aa.out 1).trans rfl
       have hfz31_0 := blk_frozen aa.out 0; have hfz31_1 := blk_frozen aa.out 1
       try go_wp2_with (first | ((with_reducible refine gate_callee (f := 69) rfl ?_); refine goesL_ (some 30) rfl rfl Try.func69 (by kernel_rfl) rfl #[.agg #[.int .i64 al, .slice aq ah.length ap]] rfl (by (try simp only [List.map_toArray, List.map_cons, List.map_nil]); first | done | rfl | (simp only [List.length_drop, List.length_take]; rfl)) ?_; (with_reducible refine (spec_l06Copy.calls kj5 al _ _ ah au ai _ ?side1 ?side2 A25.out).mono ?_); (case side1 => repeat (first | exact (Kd.S_reads' ab.out).2.2 | (with_reducible refine Kd.C_alloc ?_ _) | (with_reducible refine Kd.C_drewN ?_ _) | (with_reducible refine Kd.C_drew ?_))); (case side2 => exact (Kd.S_reads' ab.out).2.1); rintro e w32 ⟨v691, rfl, ho0, hb⟩; refine ⟨_, rfl, ?_⟩; obtain ⟨ba, bf⟩ := Opens.size_of hb; have az := zK (Opens.S_elderN bf (zT ab) (Kd.S_base ho0) hb); have aA := zK (Kd.S_lower (Opens.S_floor bf (Kd.S_new' ho0 (Kd.S_lt (zT ab)))) (below_size (zb HB))); have aC := zK (blk_below (g := ae) (o := .cells #[.int .i64 al, .slice aq ah.length ap] 24 (0, 0)) (zk aa) hb); have aD := zK (blk_below (g := aj) (o := .cells #[.int .i64 0, .slice none 0 0] 24 (0, 0)) (zk ac) hb); have aR := zK (below_step (zb HB) hb); clear ab; clear aa; clear ac; clear HB; have ab := az; have ak := aA; have aa := aC; have ac := aD; have HB := aR; clear az aA aC aD aR; (try clear hb); (try clear ho0)) | ((with_reducible refine gate_dst (N := 10) rfl ?_); refine box_event ?hg (N := 10) ?hd (cs := #[.int .i64 0, .slice none 0 0]) (t := 24) ?hr ?_; (case hd => rfl); (case hg => rfl); (case hr => first | (go_simp; done) | (go_simp; rfl)); intro af hg bA hbox hb; have az := zK (Kd.S_below (zT ab) hb); have aA := zK (Kd.S_below (zT ak) hb); have aC := zK (blk_below (g := ae) (o := .cells #[.int .i64 al, .slice aq ah.length ap] 24 (0, 0)) (zk aa) hb); have aD := zK (blk_below (g := aj) (o := .cells #[.int .i64 0, .slice none 0 0] 24 (0, 0)) (zk ac) hb); have aR := zK (below_step (zb HB) hb); have aV := zK (hbox); have bG := zK ((by rw [hg]; exact (below_size (zb HB)) : w.heap.size ≤ af)); have n7_ := zK ((by rw [hg]; exact (below_size (zb HB)) : w.heap.size ≤ af)); have n8_ := zK ((by rw [hg]; exact Nat.ne_of_lt (blk_lt (g := ae) (o := .cells #[.int .i64 al, .slice aq ah.length ap] 24 (0, 0)) (zk aa)) : ae ≠ af)); have n9_ := zK ((by rw [hg]; exact Nat.ne_of_gt (blk_lt (g := ae) (o := .cells #[.int .i64 al, .slice aq ah.length ap] 24 (0, 0)) (zk aa)) : af ≠ ae)); have b4 := zK ((by rw [hg]; exact Nat.ne_of_lt (blk_lt (g := aj) (o := .cells #[.int .i64 0, .slice none 0 0] 24 (0, 0)) (zk ac)) : aj ≠ af)); have b5 := zK ((by rw [hg]; exact Nat.ne_of_gt (blk_lt (g := aj) (o := .cells #[.int .i64 0, .slice none 0 0] 24 (0, 0)) (zk ac)) : af ≠ aj)); clear ab; clear ak; clear aa; clear ac; clear HB; have ab := az; have ak := aA; have aa := aC; have ac := aD; have HB := aR; have ag := aV; have GW693 := bG; have a5 := n7_; have aI := n8_; have bd := n9_; have aJ := b4; have be := b5; clear az aA aC aD aR aV bG n7_ n8_ n9_ b4 b5; clear hb hbox hg; have hnb34 := bd.out; have hnc34 := aI.out; have hnb35 := be.out; have hnc35 := aJ.out; have hcz36_0 : bA.cell? ⟨af, 0, none⟩ = some (.int .i64 0) := (blk_cell ag.out 0).trans rfl; have hcz36_1 : bA.cell? ⟨af, 1, none⟩ = some (.slice none 0 0) := (blk_cell ag.out 1).trans rfl; have hfz36_0 := blk_frozen ag.out 0; have hfz36_1 := blk_frozen ag.out 1; obtain ⟨aQ, ax, eo37⟩ := Kd.S_slice ak.out; subst eo37))
       have az : Aside0 (Kd.S (Kd.slice 30 k30) 28 ((bA.setCell ⟨af, 0, none⟩ (.int .i64 au)).setCell ⟨af, 1, none⟩ (.slice aQ ai.length ax)) w.heap.size (fun k_ => ((fun k_ => some k_ ≠ (.slice aQ ai.length ax : Value).ownBlock)) k_ ∧ k_ < ba) (.slice aq ah.length ap) ah) := ⟨by (with_reducible repeat (first | apply Kd.S_alloc | apply Kd.S_drewN | apply Kd.S_drew)); exact Kd.S_mono (Kd.S_far (p := ⟨af, 1, none⟩) (Kd.S_far (p := ⟨af, 0, none⟩) (Kd.S_types ab.out ag.out (by decide)) (fun _ hk => hk.2) (.int .i64 au)) (fun _ hk => hk.2) (.slice aQ ai.length ax)) (fun _ hk => ⟨hk.1.1.2, hk.1.2⟩)⟩
       have aA : Aside0 (Kd.S (Kd.slice 30 k30) 28 ((bA.setCell ⟨af, 0, none⟩ (.int .i64 au)).setCell ⟨af, 1, none⟩ (.slice aQ ai.length ax)) w.heap.size (fun k_ => ((fun k_ => some k_ ≠ (.slice aq ah.length ap : Value).ownBlock)) k_ ∧ ba ≤ k_) (.slice aQ ai.length ax) ai) := ⟨by (with_reducible repeat (first | apply Kd.S_alloc | apply Kd.S_drewN | apply Kd.S_drew)); exact Kd.S_mono (Kd.S_far (p := ⟨af, 1, none⟩) (Kd.S_far (p := ⟨af, 0, none⟩) (Kd.S_types ak.out ag.out (by decide)) (fun _ hk => hk.2) (.int .i64 au)) (fun _ hk => hk.2) (.slice aQ ai.length ax)) (fun _ hk => ⟨hk.1.1.2, hk.1.2⟩)⟩
       have aC : Aside0 (((bA.setCell ⟨af, 0, none⟩ (.int .i64 au)).setCell ⟨af, 1, none⟩ (.slice aQ ai.length ax)).heap[ae]? = some (.cells #[.int .i64 al, .slice aq ah.length ap] 24 (0, 0))) := ⟨by (with_reducible repeat (first | refine zN ?_ _ | refine zD ?_ | refine zA ?_ _)); refine blk_far ?_ aI.out _; (with_reducible repeat (first | refine zN ?_ _ | refine zD ?_ | refine zA ?_ _)); refine blk_far ?_ aI.out _; (with_reducible repeat (first | refine zN ?_ _ | refine zD ?_ | refine zA ?_ _)); exact aa.out⟩
       have aD : Aside0 (((bA.setCell ⟨af, 0, none⟩ (.int .i64 au)).setCell ⟨af, 1, none⟩ (.slice aQ ai.length ax)).heap[aj]? = some (.cells #[.int .i64 0, .slice none 0 0] 24 (0, 0))) := ⟨by (with_reducible repeat (first | refine zN ?_ _ | refine zD ?_ | refine zA ?_ _)); refine blk_far ?_ aJ.out _; (with_reducible repeat (first | refine zN ?_ _ | refine zD ?_ | refine zA ?_ _)); refine blk_far ?_ aJ.out _; (with_reducible repeat (first | refine zN ?_ _ | refine zD ?_ | refine zA ?_ _)); exact ac.out⟩
       have aR : Aside0 (((bA.setCell ⟨af, 0, none⟩ (.int .i64 au)).setCell ⟨af, 1, none⟩ (.slice aQ ai.length ax)).heap[af]? = some (.cells #[.int .i64 au, .slice aQ ai.length ax] 24 (0, 0))) := ⟨by (with_reducible repeat (first | refine zN ?_ _ | refine zD ?_ | refine zA ?_ _)); refine blk_put (cs := #[.int .i64 au, .slice none 0 0]) ?_ 1 _ rfl; (with_reducible repeat (first | refine zN ?_ _ | refine zD ?_ | refine zA ?_ _)); refine blk_put (cs := #[.int .i64 0, .slice none 0 0]) ?_ 0 _ rfl; (with_reducible repeat (first | refine zN ?_ _ | refine zD ?_ | refine zA ?_ _)); exact ag.out⟩
       have aV : Aside0 (Below w.heap.size w ((bA.setCell ⟨af, 0, none⟩ (.int .i64 au)).setCell ⟨af, 1, none⟩ (.slice aQ ai.length ax))) := ⟨zb HB⟩
       (try clear ab); (try clear ak); (try clear aa); (try clear ac); (try clear ag); (try clear HB)
       generalize ((bA.setCell ⟨af, 0, none⟩ (.int .i64 au)).setCell ⟨af, 1, none⟩ (.slice aQ ai.length ax)) = w38 at az aA aC aD aR aV ⊢
       have ab := az; have ak := aA; have aa := aC; have ac := aD; have ag := aR; have HB := aV; clear az aA aC aD aR aV
       have az := zK (Kd.S_drew ab.out)
       have aA := zK (Kd.S_drew ak.out)
       have aC := zK (zD aa.out)
       have aD := zK (zD ac.out)
       have aR := zK (zD ag.out)
       have aV := zK (zE HB.out)
       clear ab ak aa ac ag HB; have ab := az; have ak := aA; have aa := aC; have ac := aD; have ag := aR; have HB := aV; clear az aA aC aD aR aV
       have bB : 0 ≤ (ad : Int) := zd
       have bC : ad < (ai.length : Int) := zd
       obtain ⟨ad694, a6, a7, e694, aG, bb, bc⟩ := at_L2 (Kd.S_reads' ak.out).2.2 ad bB bC
       cases e694
       obtain ⟨ce694, bR, bS, bg⟩ := Kd.S_get ak.out [] ad bB (by first | exact bC | exact zd | (have e_ := (Kd.S_reads' ak.out).1; omega))
       obtain ⟨ve694_0, rfl, aW⟩ := bS
       have aH := bg 0 _ rfl
       rw [Nat.add_zero, show ((Kd.slice 30 k30)).sz = 1 from rfl, Nat.mul_one] at aH
       replace aH := Option.some.inj (aH.symm.trans aG)
       rw [aH] at aW
       have an := zK (show Kd.R k30 30 _ _ _ _ (rd_L2 ai ad) from aW)
       clear aH aW; have aX := zK aG; clear bg bR; have bD := zK bc; have HC694_0 := zK bb; clear bc bb; replace bB := eq_true bB; replace bC := eq_true bC; have bI := ak
       have hNW40 := zK (((Kd.S_R ak.out).1 _ rfl).2)
       obtain ⟨av, co40, b6, b7, gl40, cl40, b8⟩ := Kd.S_form ak.out (by have h_ : (ad : Int) < ((ai.length : Int) : Int) := zd; have h2_ : 0 ≤ (ad : Int) := (zd); omega)
       (first | cases b6 | (injection b6 with ea_ en_ ec_; (first | subst ea_ | (injection ea_ with ea_; subst ea_)); subst ec_; clear en_))
       have GB40 := zK b7; have b9 := zK b8; clear b7 gl40 b8
       (first | simp only [add_plain] at aG | skip)
       obtain ⟨bJ, ce40, ca, hM40, bK, _, _, cb⟩ := Kd.S_elem ak.out [] (ad : Int) (zd) (by have h_ : (ad : Int) < ((ai.length : Int) : Int) := zd; first | exact h_ | (have e_ := (Kd.S_reads' ak.out).1; omega) | simpa using h_)
       obtain ⟨ve40_0, rfl, bh⟩ := hM40
       have bi := bK 0 _ rfl; have bT := aX.out; (try simp only [add_plain] at bT); (try simp only [Nat.add_zero] at bi); (try rw [show ((Kd.slice 30 k30)).sz = 1 from rfl, Nat.mul_one] at bi)
       replace bi := Option.some.inj (bi.symm.trans bT)
       subst bi; clear bT bK ca
       have bE := zK (show Kd.R k30 30 _ w.heap.size bJ (.slice a6 (rd_L2 ai ad).length a7) (rd_L2 ai ad) from bh)
       have a8 := zK cb
       have bU := zK (Kd.S_reads' ak.out).1
       clear cb bh; have bj := aX.out; (try simp only [add_plain] at bj)
       have hG40 := zK (Opens.S_floor_at bI.out (fun k_ hk => hk.2) (zd) (by have h_ : (ad : Int) < ((ai.length : Int) : Int) := zd; first | exact h_ | (have e_ := (Kd.S_reads' ak.out).1; omega) | simpa using h_) bj)
       clear bj bI
       refine start_ (n := 15) (S := fun w' => w'.cell? ⟨af, 0, none⟩ = some (.int .i64 au) ∧ w'.cell? ⟨af, 1, none⟩ = some (.slice (some ⟨av, 0, none⟩) ai.length ax) ∧ w'.cell? ⟨av, (ad).toNat, none⟩ = some (.slice a6 (rd_L2 ai ad).length a7)) (ds := [14]) #[ff, ff, ff, ff, ff, ff, ff, ff, ff, ff, ff, ff, ff, ff, ff] (by kernel_rfl) rfl rfl ⟨(blk_cell ag.out 0).trans rfl, (blk_cell ag.out 1).trans rfl, aG⟩ (fun hHeld => ?_); refine with_tabW spec_PutBag.tab6 spec_PutBag.bits6 (fun HT_ HW_ => ?_)
       generalize w38.drew = w39 at ab ak aa ac ag HB b9 a8 an bD aX bE aG hHeld ⊢
       refine zu 0 (some 31) #[tt, ff, ff, ff, ff, ff, ff, ff, ff, ff, ff, ff, ff, ff, ff] (any_of HT_.out (by kernel_rfl)) ?_
       refine zu 2 (some 33) #[tt, ff, tt, ff, ff, ff, ff, ff, ff, ff, ff, ff, ff, ff, ff] (any_of HT_.out (by kernel_rfl)) ?_
       refine zu 3 (some 34) #[tt, ff, tt, tt, ff, ff, ff, ff, ff, ff, ff, ff, ff, ff, ff] (any_of HT_.out (by kernel_rfl)) ?_
       refine zu 5 (some 36) #[tt, ff, tt, tt, ff, tt, ff, ff, ff, ff, ff, ff, ff, ff, ff] (any_of HT_.out (by kernel_rfl)) ?_
       refine zu 8 (some 39) #[tt, ff, tt, tt, ff, tt, ff, ff, tt, ff, ff, ff, ff, ff, ff] (any_of HT_.out (by kernel_rfl)) ?_
       refine zu 9 (some 40) #[tt, ff, tt, tt, ff, tt, ff, ff, tt, tt, ff, ff, ff, ff, ff] (any_of HT_.out (by kernel_rfl)) ?_
       refine zu 10 (some 41) #[tt, ff, tt, tt, ff, tt, ff, ff, tt, tt, tt, ff, ff, ff, ff] (any_of HT_.out (by kernel_rfl)) ?_
       refine zt 1 (some 32) #[tt, tt, tt, tt, ff, tt, ff, ff, tt, tt, tt, ff, ff, ff, ff] (take_ofW HT_.out HW_.out (by kernel_rfl)) hHeld ?_
       refine zt 4 (some 35) #[tt, tt, tt, tt, tt, tt, ff, ff, tt, tt, tt, ff, ff, ff, ff] (take_ofW HT_.out HW_.out (by kernel_rfl)) hHeld ?_
       refine zu 6 (some 37) #[tt, tt, tt, tt, tt, tt, tt, ff, tt, tt, tt, ff, ff, ff, ff] (any_of HT_.out (by kernel_rfl)) ?_
       refine zt 7 (some 38) #[tt, tt, tt, tt, tt, tt, tt, tt, tt, tt, tt, ff, ff, ff, ff] (take_ofW HT_.out HW_.out (by kernel_rfl)) hHeld ?_
       refine one_ (i := 11) (N := some 42) #[tt, tt, tt, tt, tt, tt, tt, tt, tt, tt, tt, tt, ff, ff, ff] rfl rfl (one_of HT_.out (by kernel_rfl)) (by decide) (fun K hK => ?_)
       refine value_ (w1 := ?_) (v := ?_) (by rfl) rfl ?_ ?_
       rotate_left 2
       ·go_simp
        constructor
        ·rfl
        ·rfl
       refine hK.out _ _ ⟨(blk_cell (zA ag.out _) 0).trans rfl, (blk_cell (zA ag.out _) 1).trans rfl, (World.cell?_alloc_lt _ _ _ (World.block_lt_of_cell? _ _ (hHeld.2.2))).trans (hHeld.2.2)⟩ (fun hHeld => ?_)
       clear hK K
       refine norm_ (a' := ?_) ?_ ?_
       rotate_left
       ·show Act.put _ (some 42) _ = _
        simp only [Act.put, zp, zq, zr, i64_w, i32_w]
        rfl
       refine one_ (i := 12) (N := some 43) #[tt, tt, tt, tt, tt, tt, tt, tt, tt, tt, tt, tt, tt, ff, ff] rfl rfl (one_of HT_.out (by kernel_rfl)) (by decide) (fun K hK => ?_)
       refine Kd.R_append_step k30 (w0 := w) w.heap.size (by rfl) (.tmp 38) (.tmp 42) 28 30 (.agg #[(.int .i64 0), (.int .i64 0)]) 16 rfl Try.underlying28 info30 rfl (by decide) (by omega) (.slice a6 (rd_L2 ai ad).length a7) (rd_L2 ai ad) (⟨a1, a2⟩ : S30) [.int .i64 a1, .int .i64 a2] (fun k_ => bJ k_ ∨ ((fun k_ => some k_ ≠ (.slice aq ah.length ap : Value).ownBlock)) k_ ∧ w39.heap.size ≤ k_) (fun _ => False) rfl rfl ?aP (fun _ hk => hk.elim) ?aF ?aO ?aB ?aS ?aL ?_
       (case aP => exact k30_mkM _ _ _ (⟨a1, a2⟩ : S30))
       (case aB => exact (zb HB))
       (case aF => exact (fun k_ hk => .inr ⟨Kd.fresh' (Kd.S_lt (zT ab)) k_ hk, hk⟩))
       (case aO => exact (by (with_reducible repeat (first | apply Kd.R_alloc | apply Kd.R_drewN | apply Kd.R_drew)); exact Kd.R_mono bE.out (fun _ hk => .inl hk)))
       (case aS => exact (below_size (zb HB)))
       (case aL => have := b2.out; omega)
       intro v696 bV ho hb hg hat
       (first | have cc := cell_grown hg (hHeld.2.2) (by first | (rw [add_block]; exact (fun e_ => ((an.out.1 _ e_.symm).2) rfl)) | (show some (Addr.add _ _).block ≠ _; rw [add_block]; exact (fun e_ => ((an.out.1 _ e_.symm).2) rfl)) | exact (fun e_ => ((an.out.1 _ e_.symm).2) rfl)) | have cc := cell_grown hg (cell_unalloc (hHeld.2.2) (by first | (rw [add_block]; exact Kd.S_lt ak.out _ rfl) | (show (Addr.add _ _).block < _; rw [add_block]; exact Kd.S_lt ak.out _ rfl) | exact Kd.S_lt ak.out _ rfl)) (by first | (rw [add_block]; exact (fun e_ => ((an.out.1 _ e_.symm).2) rfl)) | (show some (Addr.add _ _).block ≠ _; rw [add_block]; exact (fun e_ => ((an.out.1 _ e_.symm).2) rfl)) | exact (fun e_ => ((an.out.1 _ e_.symm).2) rfl)))
       rw [← Ny695.out] at ho
       have az := zK (Kd.S_grown (zT ab) hg (by intro k_ hk_ e_; exact Nat.lt_irrefl _ (Nat.lt_of_lt_of_le hk_.2 (hG40.out k_ e_.symm))))
       have aA := zK (blk_grown (g := ae) (o := .cells #[.int .i64 al, .slice aq ah.length ap] 24 (0, 0)) (zk aa) hg (Kd.R_ne an.out aa.out (by decide)))
       have aC := zK (blk_grown (g := aj) (o := .cells #[.int .i64 0, .slice none 0 0] 24 (0, 0)) (zk ac) hg (Kd.R_ne an.out ac.out (by decide)))
       have aD := zK (blk_grown (g := af) (o := .cells #[.int .i64 au, .slice (some ⟨av, 0, none⟩) ai.length ax] 24 (0, 0)) (zk ag) hg (Kd.R_ne an.out ag.out (by decide)))
       have aR := zK (hb)
       have aV := zK (Kd.H_grown (Kd.H_widen (by repeat (first | exact a8.out | refine Kd.H_alloc ?_ _ | refine Kd.H_drewN ?_ _ | refine Kd.H_drew ?_))) hg (fun k_ e_ => .inl (bE.out.1 k_ e_)))
       have bG := zK (ho)
       clear ab aa ac ag HB a8 ak bE an; have ab := az; have aa := aA; have ac := aC; have ag := aD; have HB := aR; have a8 := aV; have bL := bG; clear az aA aC aD aR aV bG ho hb hg hat
       have p29 : 0 ≤ (ad : Int) := zd
       have q29 : (ad : Int) < ((ai.length : Int) : Int) := zd
       replace p29 := eq_true p29; replace q29 := eq_true q29
       obtain ⟨aY, aZ, cd⟩ := Kd.R_slice bL.out
       (first | subst cd | (injection cd with f1_ f2_ f3_; have f4_ := f1_.symm; have f5_ := f3_.symm; clear f1_ f2_ f3_; subst f4_; subst f5_))
       obtain ⟨_, _, a0, _, _, bM, _⟩ := Kd.H_raw a8.out (zd) (by have h_ : (ad : Int) < ((ai.length : Int) : Int) := zd; first | exact h_ | (have e_ := (bU.out); omega) | simpa using h_)
       obtain ⟨_, bN⟩ := Kd.H_at a8.out (zd) (by have h_ : (ad : Int) < ((ai.length : Int) : Int) := zd; first | exact h_ | (have e_ := (bU.out); omega) | simpa using h_)
       have bk := bM 0 _ rfl; have bl := bN 0; (try simp only [Nat.add_zero] at bk bl); (try rw [show ((Kd.slice 30 k30)).sz = 1 from rfl, Nat.mul_one] at bk); (try rw [show ((Kd.slice 30 k30)).sz = 1 from rfl, Nat.mul_one] at bl)
       have bW := Kd.S_seg0 a8.out (zd) (by have h_ : (ad : Int) < ((ai.length : Int) : Int) := zd; first | exact h_ | (have e_ := (bU.out); omega) | simpa using h_) (seg := [.slice aY aN.length aZ]) (j := 0) (show 1 ≤ 1 from by decide) (x' := aN) (Kd.M_row bL.out) (fun _ hk => by first | exact hk | (rcases hk with h_ | h_; exact .inl h_; exact .inr ⟨⟨h_.1, Nat.le_trans (Nat.le_trans hNW40.out (Nat.le_of_lt (blk_lt b9.out))) h_.2⟩, h_.2⟩))
       (try simp only [show ((Kd.slice 30 k30)).sz = 1 from rfl, Nat.mul_one, Nat.add_zero] at bW); clear bM bN
       have HNB681_go40 := zK (show ae ≠ av from by have h_ := Kd.R_ne a0 aa.out (by decide); intro e_; exact h_ (by rw [e_]; rfl))
       have HNB682_go40 := zK (show aj ≠ av from by have h_ := Kd.R_ne a0 ac.out (by decide); intro e_; exact h_ (by rw [e_]; rfl))
       have HNB693_go40 := zK (show af ≠ av from by have h_ := Kd.R_ne a0 ag.out (by decide); intro e_; exact h_ (by rw [e_]; rfl))
       have bX := bW.1
       rw [← Ny698.out] at bX
       have HQ42 := zK bX
       obtain ⟨_, bO⟩ := Kd.R_typed a0 av rfl
       have GG42_ := zK bO; clear bW bX bO
       refine hK.out _ _ ⟨(blk_cell ag.out 0).trans rfl, (blk_cell ag.out 1).trans rfl, cc⟩ (fun hHeld => ?_)
       clear hK K
       refine norm_ (a' := ?_) ?_ ?_
       rotate_left
       ·show Act.put _ (some 43) _ = _
        simp only [Act.put, zp, zq, zr, i64_w, i32_w]
        rfl
       refine zu 13 (some 44) #[tt, tt, tt, tt, tt, tt, tt, tt, tt, tt, tt, tt, tt, tt, ff] (any_of HT_.out (by kernel_rfl)) ?_
       refine last_ (i := 14) (N := none) #[tt, tt, tt, tt, tt, tt, tt, tt, tt, tt, tt, tt, tt, tt, tt] rfl rfl (one_of HT_.out (by kernel_rfl)) (by decide) (fun K hK => ?_)
       refine skip_ (w1 := ?_) (by rfl) rfl ?_ ?_
       rotate_left
       ·go_simp
        rfl
       refine hK.out _ _ ?_
       clear hK K
       refine done_ (done_of HT_.out (by kernel_rfl)) ?_
       have az : Aside0 (Kd.S (Kd.slice 30 k30) 28 (bV.setCell ⟨av, (ad : Int).toNat, none⟩ (.slice aY aN.length aZ)) w.heap.size (fun k_ => ((fun k_ => some k_ ≠ (.slice (some ⟨av, 0, none⟩) ai.length ax : Value).ownBlock)) k_ ∧ k_ < ba) (.slice aq ah.length ap) ah) := ⟨by (with_reducible repeat (first | apply Kd.S_alloc | apply Kd.S_drewN | apply Kd.S_drew)); exact Kd.S_mono (Kd.S_far (p := ⟨av, (ad : Int).toNat, none⟩) (Kd.S_mono ab.out (fun k_ hk => (⟨hk, fun e_ => hk.1 (by rw [e_]; rfl)⟩ : _ ∧ k_ ≠ av))) (fun _ hk => hk.2) (.slice aY aN.length aZ)) (fun _ hk => ⟨hk.1.1, hk.1.2⟩)⟩
       have aA : Aside0 (Kd.S (Kd.slice 30 k30) 28 (bV.setCell ⟨av, (ad : Int).toNat, none⟩ (.slice aY aN.length aZ)) w.heap.size (fun k_ => ((fun k_ => some k_ ≠ (.slice aq ah.length ap : Value).ownBlock)) k_ ∧ ba ≤ k_) (.slice (some ⟨av, 0, none⟩) ai.length ax) b3) := ⟨zT HQ42⟩
       have aC : Aside0 ((bV.setCell ⟨av, (ad : Int).toNat, none⟩ (.slice aY aN.length aZ)).heap[ae]? = some (.cells #[.int .i64 al, .slice aq ah.length ap] 24 (0, 0))) := ⟨by (with_reducible repeat (first | refine zN ?_ _ | refine zD ?_ | refine zA ?_ _)); refine blk_far ?_ HNB681_go40.out _; (with_reducible repeat (first | refine zN ?_ _ | refine zD ?_ | refine zA ?_ _)); exact aa.out⟩
       have aD : Aside0 ((bV.setCell ⟨av, (ad : Int).toNat, none⟩ (.slice aY aN.length aZ)).heap[aj]? = some (.cells #[.int .i64 0, .slice none 0 0] 24 (0, 0))) := ⟨by (with_reducible repeat (first | refine zN ?_ _ | refine zD ?_ | refine zA ?_ _)); refine blk_far ?_ HNB682_go40.out _; (with_reducible repeat (first | refine zN ?_ _ | refine zD ?_ | refine zA ?_ _)); exact ac.out⟩
       have aR : Aside0 ((bV.setCell ⟨av, (ad : Int).toNat, none⟩ (.slice aY aN.length aZ)).heap[af]? = some (.cells #[.int .i64 au, .slice (some ⟨av, 0, none⟩) ai.length ax] 24 (0, 0))) := ⟨by (with_reducible repeat (first | refine zN ?_ _ | refine zD ?_ | refine zA ?_ _)); refine blk_far ?_ HNB693_go40.out _; (with_reducible repeat (first | refine zN ?_ _ | refine zD ?_ | refine zA ?_ _)); exact ag.out⟩
       have aV : Aside0 (Below w.heap.size w (bV.setCell ⟨av, (ad : Int).toNat, none⟩ (.slice aY aN.length aZ))) := ⟨zb HB⟩
       (try clear ab); (try clear ak); (try clear aa); (try clear ac); (try clear ag); (try clear HB)
       generalize (bV.setCell ⟨av, (ad : Int).toNat, none⟩ (.slice aY aN.length aZ)) = w45 at az aA aC aD aR aV ⊢
       have ab := az; have ak := aA; have aa := aC; have ac := aD; have ag := aR; have HB := aV; clear az aA aC aD aR aV
       have hcz46_0 : w45.cell? ⟨af, 0, none⟩ = some (.int .i64 au) := (blk_cell ag.out 0).trans rfl
       have hcz46_1 : w45.cell? ⟨af, 1, none⟩ = some (.slice (some ⟨av, 0, none⟩) ai.length ax) := (blk_cell ag.out 1).trans rfl
       have hfz46_0 := blk_frozen ag.out 0; have hfz46_1 := blk_frozen ag.out 1
       have hcz47_0 : w45.cell? ⟨aj, 0, none⟩ = some (.int .i64 0) := (blk_cell ac.out 0).trans rfl
       have hcz47_1 : w45.cell? ⟨aj, 1, none⟩ = some (.slice none 0 0) := (blk_cell ac.out 1).trans rfl
       have hfz47_0 := blk_frozen ac.out 0; have hfz47_1 := blk_frozen ac.out 1
       try go_wp2
       refine bodyPost_ret (results_ctt rfl _ _ aj 24 #[.int .i64 au, .slice (some ⟨av, 0, none⟩) ai.length ax] (0, 0) _ rfl (by (with_reducible repeat (first | refine zN ?_ _ | refine zD ?_ | refine zA ?_ _)); refine blk_put (cs := #[.int .i64 au, .slice none 0 0]) ?_ 1 _ rfl; (with_reducible repeat (first | refine zN ?_ _ | refine zD ?_ | refine zA ?_ _)); refine blk_put (cs := #[.int .i64 0, .slice none 0 0]) ?_ 0 _ rfl; (with_reducible repeat (first | refine zN ?_ _ | refine zD ?_ | refine zA ?_ _)); exact ac.out) Try.underlying24 rfl (by kernel_rfl)) rfl ?_
       exact ⟨_, by first | rfl | (simp [errW_none, errW_some] <;> rfl) | (simp [*, errW_none, errW_some] <;> rfl), by (with_reducible repeat (first | apply Kd.S_alloc | apply Kd.S_drewN | apply Kd.S_drew)); exact Kd.S_mono (Kd.S_far (p := ⟨aj, 1, none⟩) (Kd.S_far (p := ⟨aj, 0, none⟩) (Kd.S_types ak.out ac.out (by decide)) (fun _ hk => hk.2) (.int .i64 au)) (fun _ hk => hk.2) (.slice (some ⟨av, 0, none⟩) ai.length ax)) (fun _ hk => trivial), by repeat (first | (with_reducible first | exact HB.out | apply zB | apply zC | apply zE | refine zS ?_ am.out | refine zS ?_ ao.out | refine zS ?_ a5.out) | exact HB.out)⟩
      ·rw [if_neg c28] at H
       exact absurd H (by simp)
     ·rw [if_neg c27] at H
      exact absurd H (by simp)
    ·rw [if_neg c26] at H
     exact absurd H (by simp)
end Go.Proofs.Ytheckjlldkkceaa.Px
