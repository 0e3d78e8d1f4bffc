import Derived.Test.YtmjhbdmicejppaaZxPx0
import Derived.Test.YtmjhbdmicejppaaZxPx1
import Derived.Test.YtmjhbdmicejppaaZxPx2
import Derived.Test.YtmjhbdmicejppaaZxPx6
import Derived.Test.YtmjhbdmicejppaaZxPx8
namespace Go.Proofs.Ytmjhbdmicejppaa.Px
open Go.RowKit Go.Proofs.YtmjhbdmicejppaaW.PrintWords Go.Proofs.YtmjhbdmicejppaaW.PrintLast Go.Proofs.YtmjhbdmicejppaaW.PrintMore
attribute [local go_sem] max2_int min2_int max_two min_two max_three min_three max_four min_four   
set_option linter.unusedVariables false
set_option linter.unusedSimpArgs false
mutual
def spec_TurnLoop.j0 : Nat → Int → Bool → List Int → Int → List (S69) → List (S74) → Option (List Int × Int × (List (S69)) × (List (S74)))
 | 0, _, _, _, _, _, _ => none
 | k + 1, x1, x15, x476000, x476001, x476002, x476003 => if x15 = true then (some (x476000, x476001, x476002, x476003)) else (spec_TurnLoop.l0 k x1 0 x476000 x476001 x476002 x476003)
def spec_TurnLoop.l0 : Nat → Int → Int → List Int → Int → List (S69) → List (S74) → Option (List Int × Int × (List (S69)) × (List (S74)))
 | 0, _, _, _, _, _, _ => none
 | k + 1, x1, x5, x476000, x476001, x476002, x476003 => if x5 < x1 then ((spec_l05Step.f k x476000 x476001 x476002 x476003).bind fun bt489 => (spec_TurnLoop.l0 k x1 (wrap64 (x5 + 1)) bt489.1 bt489.2.1 bt489.2.2.1 bt489.2.2.2)) else (some (x476000, x476001, x476002, x476003))
end
def spec_TurnLoop.f (k : Nat) (l0_0 : List Int) (a0_1 : Int) (l0_2 : List (S69)) (l0_3 : List (S74)) (a1 : Int) : Option (List Int × Int × (List (S69)) × (List (S74))) := (spec_l05Copy.f k l0_0 a0_1 l0_2 l0_3).bind fun bt477 => ((spec_LoopOk.f k bt477.1 bt477.2.1 bt477.2.2.1 bt477.2.2.2).bind fun t487 => (if t487 = true then ((spec_l01In.f a1 0 600).bind fun t488 => (spec_TurnLoop.j0 k a1 (!t488) bt477.1 bt477.2.1 bt477.2.2.1 bt477.2.2.2)) else (spec_TurnLoop.j0 k a1 true bt477.1 bt477.2.1 bt477.2.2.1 bt477.2.2.2)))
set_option maxHeartbeats 8000000 in
set_option maxRecDepth 100000 in
theorem spec_TurnLoop.calls (k : Nat) (aL : Option Addr) (aM : Nat) (aI : List Int) (a0_1 : Int) (aJ : Option Addr) (aK : Nat) (aC : List (S69)) (aD : Option Addr) (aE : Nat) (ay : List (S74)) (a1 : Int) (r1 : List Int) (r2 : Int) (r3 : List (S69)) (r4 : List (S74)) (w : World) (b8 : Kd.C (Kd.int .i64) w aL aI.length aI) (hc0_0 : aI.length ≤ aM) (b9 : Kd.C k69 w aJ aC.length aC) (hc0_2 : aC.length ≤ aK) (ca : Kd.C k74 w aD ay.length ay) (hc0_3 : ay.length ≤ aE) (h : spec_TurnLoop.f k aI a0_1 aC ay a1 = some (r1, r2, r3, r4)) :
  Calls Try.prog 26 #[.agg #[.slice aL aI.length aM, .int .i64 a0_1, .slice aJ aC.length aK, .slice aD ay.length aE], .int .i64 a1] w fun e w' => ∃ v0_ v2_ v3_ : Value, e = .returned (.agg #[v0_, .int .i64 r2, v2_, v3_]) ∧ Kd.R (Kd.int .i64) 3 w' w.heap.size (fun _ => True) v0_ r1 ∧ Kd.S k69 69 w' w.heap.size (fun k_ => some k_ ≠ (v0_ : Value).ownBlock) v2_ r3 ∧ Kd.S k74 74 w' w.heap.size (fun k_ => some k_ ≠ (v0_ : Value).ownBlock) v3_ r4 ∧ Below w.heap.size w w' := by
 have hu28 := Try.underlying28; have cg := zK b8; have ch := zK hc0_0; clear b8 hc0_0; have ci := zK b9; have cj := zK hc0_2; clear b9 hc0_2; have ck := zK ca; have cl := zK hc0_3; clear ca hc0_3
 have HB := zK (Below.refl w.heap.size w)
 have H : ((spec_l05Copy.f k aI a0_1 aC ay).bind fun bt477 => ((spec_LoopOk.f k bt477.1 bt477.2.1 bt477.2.2.1 bt477.2.2.2).bind fun bw => (if bw = true then ((spec_l01In.f a1 0 600).bind fun aN => (spec_TurnLoop.j0 k a1 (!aN) bt477.1 bt477.2.1 bt477.2.2.1 bt477.2.2.2)) else (spec_TurnLoop.j0 k a1 true bt477.1 bt477.2.1 bt477.2.2.1 bt477.2.2.2)))) = some (r1, r2, r3, r4) := h
 clear h; replace H := Option.bind_eq_some_iff.mp H
 obtain ⟨⟨ag, ao, al, ap⟩, A30, H⟩ := H
 replace H : ((spec_LoopOk.f k ag ao al ap).bind fun bw => (if bw = true then ((spec_l01In.f a1 0 600).bind fun aN => (spec_TurnLoop.j0 k a1 (!aN) ag ao al ap)) else (spec_TurnLoop.j0 k a1 true ag ao al ap))) = some (r1, r2, r3, r4) := H
 have A3 := zK A30; clear A30; have HC4 := zK H; clear H
 go_enter Try.func26, Try.ntmps26
 go_upto_region 2 with (first | ((with_reducible refine gate_dst (N := 2) rfl ?_); refine box_event ?hg (N := 2) ?hd (cs := #[.slice aL aI.length aM, .int .i64 a0_1, .slice aJ aC.length aK, .slice aD ay.length aE]) (t := 28) ?hr ?_; (case hd => rfl); (case hg => rfl); (case hr => first | (go_simp; done) | (go_simp; rfl)); intro aa hg w5 hbox hb; have aP := zK (below_step (zb HB) hb); have aQ := zK (hbox); have aR := zK ((by rw [hg]; exact (below_size (zb HB)) : w.heap.size ≤ aa)); have aS := zK ((by rw [hg]; exact (below_size (zb HB)) : w.heap.size ≤ aa)); clear HB; have HB := aP; have ab := aQ; have GW475 := aR; have au := aS; clear aP aQ aR aS; clear hb hbox hg) | ((with_reducible refine gate_dst (N := 4) rfl ?_); refine box_event ?hg (N := 4) ?hd (cs := #[.slice none 0 0, .int .i64 0, .slice none 0 0, .slice none 0 0]) (t := 28) ?hr ?_; (case hd => rfl); (case hg => rfl); (case hr => first | (go_simp; done) | (go_simp; rfl)); intro ac hg w6 hbox hb; have aP := zK (blk_below (g := aa) (o := .cells #[.slice aL aI.length aM, .int .i64 a0_1, .slice aJ aC.length aK, .slice aD ay.length aE] 28 (0, 0)) (zk ab) hb); have aQ := zK (below_step (zb HB) hb); have aR := zK (hbox); have aS := zK ((by rw [hg]; exact (below_size (zb HB)) : w.heap.size ≤ ac)); have a4 := zK ((by rw [hg]; exact (below_size (zb HB)) : w.heap.size ≤ ac)); have a5 := zK ((by rw [hg]; exact Nat.ne_of_lt (blk_lt (g := aa) (o := .cells #[.slice aL aI.length aM, .int .i64 a0_1, .slice aJ aC.length aK, .slice aD ay.length aE] 28 (0, 0)) (zk ab)) : aa ≠ ac)); have cm := zK ((by rw [hg]; exact Nat.ne_of_gt (blk_lt (g := aa) (o := .cells #[.slice aL aI.length aM, .int .i64 a0_1, .slice aJ aC.length aK, .slice aD ay.length aE] 28 (0, 0)) (zk ab)) : ac ≠ aa)); clear ab; clear HB; have ab := aP; have HB := aQ; have ae := aR; have GW476 := aS; have az := a4; have aB := a5; have ad := cm; clear aP aQ aR aS a4 a5 cm; clear hb hbox hg; have hnb7 := aB.out; have hnc7 := ad.out; have bA : w6.cell? ⟨aa, 0, none⟩ = some (.slice aL aI.length aM) := (blk_cell ab.out 0).trans rfl; have bB : w6.cell? ⟨aa, 1, none⟩ = some (.int .i64 a0_1) := (blk_cell ab.out 1).trans rfl; have bC : w6.cell? ⟨aa, 2, none⟩ = some (.slice aJ aC.length aK) := (blk_cell ab.out 2).trans rfl; have bD : w6.cell? ⟨aa, 3, none⟩ = some (.slice aD ay.length aE) := (blk_cell ab.out 3).trans rfl; have bE := blk_frozen ab.out 0; have bF := blk_frozen ab.out 1; have bG := blk_frozen ab.out 2; have bH := blk_frozen ab.out 3) | ((with_reducible refine gate_callee (f := 68) rfl ?_); refine goesL_ (some 7) rfl rfl Try.func68 (by kernel_rfl) rfl #[.agg #[.slice aL aI.length aM, .int .i64 a0_1, .slice aJ aC.length aK, .slice aD ay.length aE]] rfl (by (try simp only [List.map_toArray, List.map_cons, List.map_nil]); first | done | rfl | (simp only [List.length_drop, List.length_take]; rfl)) ?_; (with_reducible refine (spec_l05Copy.calls k _ _ aI a0_1 _ _ aC _ _ ay ag ao al ap _ ?side1 ?side2 ?side3 ?side4 ?side5 ?side6 A3.out).mono ?_); (case side1 => repeat (first | exact (Kd.C_below cg.out HB.out) | (with_reducible refine Kd.C_alloc ?_ _) | (with_reducible refine Kd.C_drewN ?_ _) | (with_reducible refine Kd.C_drew ?_))); (case side2 => exact ch.out); (case side3 => repeat (first | exact (Kd.C_below ci.out HB.out) | (with_reducible refine Kd.C_alloc ?_ _) | (with_reducible refine Kd.C_drewN ?_ _) | (with_reducible refine Kd.C_drew ?_))); (case side4 => exact cj.out); (case side5 => repeat (first | exact (Kd.C_below ck.out HB.out) | (with_reducible refine Kd.C_alloc ?_ _) | (with_reducible refine Kd.C_drewN ?_ _) | (with_reducible refine Kd.C_drew ?_))); (case side6 => exact cl.out); rintro e w9 ⟨v478, v482, v485, rfl, ho0, ho1, ho2, hb⟩; refine ⟨_, rfl, ?_⟩; have aP := zK (Kd.R_lower ho0 (below_size (zb HB))); have aQ := zK (Kd.S_lower ho1 (below_size (zb HB))); have aR := zK (Kd.S_lower ho2 (below_size (zb HB))); have aS := zK (blk_below (g := aa) (o := .cells #[.slice aL aI.length aM, .int .i64 a0_1, .slice aJ aC.length aK, .slice aD ay.length aE] 28 (0, 0)) (zk ab) hb); have a4 := zK (blk_below (g := ac) (o := .cells #[.slice none 0 0, .int .i64 0, .slice none 0 0, .slice none 0 0] 28 (0, 0)) (zk ae) hb); have a5 := zK (below_step (zb HB) hb); clear ab; clear ae; clear HB; have aF := aP; have aG := aQ; have aH := aR; have ab := aS; have ae := a4; have HB := a5; clear aP aQ aR aS a4 a5; (try clear hb); (try clear ho0); (try clear ho1); (try clear ho2); obtain ⟨ar, aq, eo10⟩ := Kd.R_slice aF.out; subst eo10; have a6 : w9.cell? ⟨aa, 0, none⟩ = some (.slice aL aI.length aM) := (blk_cell ab.out 0).trans rfl; have a7 : w9.cell? ⟨aa, 1, none⟩ = some (.int .i64 a0_1) := (blk_cell ab.out 1).trans rfl; have a8 : w9.cell? ⟨aa, 2, none⟩ = some (.slice aJ aC.length aK) := (blk_cell ab.out 2).trans rfl; have a9 : w9.cell? ⟨aa, 3, none⟩ = some (.slice aD ay.length aE) := (blk_cell ab.out 3).trans rfl; have ba := blk_frozen ab.out 0; have bb := blk_frozen ab.out 1; have bc := blk_frozen ab.out 2; have bd := blk_frozen ab.out 3; obtain ⟨aw, av, eo12⟩ := Kd.S_slice aG.out; subst eo12; obtain ⟨aA, ax, eo13⟩ := Kd.S_slice aH.out; subst eo13))
 (try simp only [Act.put, zp, zq, zr])
 go_cut [15] (fun v15 wc => ∃ (kq : Nat) (be : Bool), v15 = .bool be ∧ Aside0 (spec_TurnLoop.j0 kq a1 be ag ao al ap = some (r1, r2, r3, r4)) ∧ Aside0 (kq ≤ k) ∧ Aside0 (Kd.R (Kd.int .i64) 3 wc w.heap.size (fun _ => True) (.slice ar ag.length aq) ag) ∧ Aside0 (Kd.S k69 69 wc w.heap.size (fun k_ => some k_ ≠ ((.slice ar ag.length aq) : Value).ownBlock) (.slice aw al.length av) al) ∧ Aside0 (Kd.S k74 74 wc w.heap.size (fun k_ => some k_ ≠ ((.slice ar ag.length aq) : Value).ownBlock) (.slice aA ap.length ax) ap) ∧ Aside0 (wc.heap[aa]? = some (.cells #[(.slice ar ag.length aq), .int .i64 ao, (.slice aw al.length av), (.slice aA ap.length ax)] 28 (0, 0))) ∧ Aside0 (wc.heap[ac]? = some (.cells #[(.slice none 0 0), .int .i64 0, (.slice none 0 0), (.slice none 0 0)] 28 (0, 0))) ∧ Aside0 (Below w.heap.size w wc))
 case first =>
  have H := HC4.out; clear HC4; replace H := Option.bind_eq_some_iff.mp H
  obtain ⟨bw, cn, H⟩ := H
  replace H : (if bw = true then ((spec_l01In.f a1 0 600).bind fun aN => (spec_TurnLoop.j0 k a1 (!aN) ag ao al ap)) else (spec_TurnLoop.j0 k a1 true ag ao al ap)) = some (r1, r2, r3, r4) := H
  have A14 := zK cn; clear cn
  by_cases ce : bw = true
  ·subst ce
   have H1 : ((spec_l01In.f a1 0 600).bind fun aN => (spec_TurnLoop.j0 k a1 (!aN) ag ao al ap)) = some (r1, r2, r3, r4) := by rw [if_pos rfl] at H; exact H
   clear H; have H := H1; clear H1; replace H := Option.bind_eq_some_iff.mp H
   obtain ⟨aN, co, H⟩ := H
   replace H : (spec_TurnLoop.j0 k a1 (!aN) ag ao al ap) = some (r1, r2, r3, r4) := H
   have A16 := zK co; clear co; have H' := zK H; clear H; have hnb17 := aB.out; have hnc17 := ad.out
   have bf : w9.cell? ⟨aa, 0, none⟩ = some (.slice aL aI.length aM) := (blk_cell ab.out 0).trans rfl
   have bg : w9.cell? ⟨aa, 1, none⟩ = some (.int .i64 a0_1) := (blk_cell ab.out 1).trans rfl
   have bh : w9.cell? ⟨aa, 2, none⟩ = some (.slice aJ aC.length aK) := (blk_cell ab.out 2).trans rfl
   have bi : w9.cell? ⟨aa, 3, none⟩ = some (.slice aD ay.length aE) := (blk_cell ab.out 3).trans rfl
   have bj := blk_frozen ab.out 0; have bk := blk_frozen ab.out 1; have bl := blk_frozen ab.out 2; have bm := blk_frozen ab.out 3
   go_wp2_with (first | ((with_reducible refine gate_callee (f := 23) rfl ?_); refine goesL_ (some 9) rfl rfl Try.func23 (by kernel_rfl) rfl #[.agg #[.slice ar ag.length aq, .int .i64 ao, .slice aw al.length av, .slice aA ap.length ax]] rfl (by (try simp only [List.map_toArray, List.map_cons, List.map_nil]); first | done | rfl | (simp only [List.length_drop, List.length_take]; rfl)) ?_; (with_reducible refine (spec_LoopOk.calls k _ _ ag ao _ _ al _ _ ap true _ ?side1 ?side2 ?side3 ?side4 ?side5 ?side6 A14.out).mono ?_); (case side1 => refine (Kd.R_reads' (e := 3) (base := w.heap.size) (ok := fun k_ => True) (n := ag.length) (c := aq) ?_).2.2; exact (by (with_reducible repeat (first | apply Kd.R_alloc | apply Kd.R_drewN | apply Kd.R_drew)); exact (Kd.R_mono (Kd.R_far (p := ⟨aa, 3, none⟩) (Kd.R_far (p := ⟨aa, 2, none⟩) (Kd.R_far (p := ⟨aa, 1, none⟩) (Kd.R_far (p := ⟨aa, 0, none⟩) (Kd.R_types aF.out ab.out (by decide)) (fun _ hk => hk.2) (.slice ar ag.length aq)) (fun _ hk => hk.2) (.int .i64 ao)) (fun _ hk => hk.2) (.slice aw al.length av)) (fun _ hk => hk.2) (.slice aA ap.length ax)) (fun _ h_ => h_.1)))); (case side2 => exact (Kd.R_reads' aF.out).2.1); (case side3 => refine (Kd.S_reads' (e := 69) (base := w.heap.size) (ok := fun k_ => some k_ ≠ (.slice ar ag.length aq : Value).ownBlock) (n := al.length) (c := av) ?_).2.2; exact (by (with_reducible repeat (first | apply Kd.S_alloc | apply Kd.S_drewN | apply Kd.S_drew)); exact (Kd.S_mono (Kd.S_far (p := ⟨aa, 3, none⟩) (Kd.S_far (p := ⟨aa, 2, none⟩) (Kd.S_far (p := ⟨aa, 1, none⟩) (Kd.S_far (p := ⟨aa, 0, none⟩) (Kd.S_types aG.out ab.out (by decide)) (fun _ hk => hk.2) (.slice ar ag.length aq)) (fun _ hk => hk.2) (.int .i64 ao)) (fun _ hk => hk.2) (.slice aw al.length av)) (fun _ hk => hk.2) (.slice aA ap.length ax)) (fun _ h_ => h_.1)))); (case side4 => exact (Kd.S_reads' aG.out).2.1); (case side5 => refine (Kd.S_reads' (e := 74) (base := w.heap.size) (ok := fun k_ => some k_ ≠ (.slice ar ag.length aq : Value).ownBlock) (n := ap.length) (c := ax) ?_).2.2; exact (by (with_reducible repeat (first | apply Kd.S_alloc | apply Kd.S_drewN | apply Kd.S_drew)); exact (Kd.S_mono (Kd.S_far (p := ⟨aa, 3, none⟩) (Kd.S_far (p := ⟨aa, 2, none⟩) (Kd.S_far (p := ⟨aa, 1, none⟩) (Kd.S_far (p := ⟨aa, 0, none⟩) (Kd.S_types aH.out ab.out (by decide)) (fun _ hk => hk.2) (.slice ar ag.length aq)) (fun _ hk => hk.2) (.int .i64 ao)) (fun _ hk => hk.2) (.slice aw al.length av)) (fun _ hk => hk.2) (.slice aA ap.length ax)) (fun _ h_ => h_.1)))); (case side6 => exact (Kd.S_reads' aH.out).2.1); rintro e w19 ⟨rfl, hb⟩; refine ⟨_, rfl, ?_⟩; have aP := zK (Kd.R_below (by (with_reducible repeat (first | apply Kd.R_alloc | apply Kd.R_drewN | apply Kd.R_drew)); exact (Kd.R_mono (Kd.R_far (p := ⟨aa, 3, none⟩) (Kd.R_far (p := ⟨aa, 2, none⟩) (Kd.R_far (p := ⟨aa, 1, none⟩) (Kd.R_far (p := ⟨aa, 0, none⟩) (Kd.R_types aF.out ab.out (by decide)) (fun _ hk => hk.2) (.slice ar ag.length aq)) (fun _ hk => hk.2) (.int .i64 ao)) (fun _ hk => hk.2) (.slice aw al.length av)) (fun _ hk => hk.2) (.slice aA ap.length ax)) (fun _ h_ => h_.1))) hb); have aQ := zK (Kd.S_below (by (with_reducible repeat (first | apply Kd.S_alloc | apply Kd.S_drewN | apply Kd.S_drew)); exact (Kd.S_mono (Kd.S_far (p := ⟨aa, 3, none⟩) (Kd.S_far (p := ⟨aa, 2, none⟩) (Kd.S_far (p := ⟨aa, 1, none⟩) (Kd.S_far (p := ⟨aa, 0, none⟩) (Kd.S_types aG.out ab.out (by decide)) (fun _ hk => hk.2) (.slice ar ag.length aq)) (fun _ hk => hk.2) (.int .i64 ao)) (fun _ hk => hk.2) (.slice aw al.length av)) (fun _ hk => hk.2) (.slice aA ap.length ax)) (fun _ h_ => h_.1))) hb); have aR := zK (Kd.S_below (by (with_reducible repeat (first | apply Kd.S_alloc | apply Kd.S_drewN | apply Kd.S_drew)); exact (Kd.S_mono (Kd.S_far (p := ⟨aa, 3, none⟩) (Kd.S_far (p := ⟨aa, 2, none⟩) (Kd.S_far (p := ⟨aa, 1, none⟩) (Kd.S_far (p := ⟨aa, 0, none⟩) (Kd.S_types aH.out ab.out (by decide)) (fun _ hk => hk.2) (.slice ar ag.length aq)) (fun _ hk => hk.2) (.int .i64 ao)) (fun _ hk => hk.2) (.slice aw al.length av)) (fun _ hk => hk.2) (.slice aA ap.length ax)) (fun _ h_ => h_.1))) hb); have aS := zK (blk_below (g := aa) (o := .cells #[.slice ar ag.length aq, .int .i64 ao, .slice aw al.length av, .slice aA ap.length ax] 28 (0, 0)) (by (with_reducible repeat (first | refine zN ?_ _ | refine zD ?_ | refine zA ?_ _)); refine blk_put (cs := #[.slice ar ag.length aq, .int .i64 ao, .slice aw al.length av, .slice aD ay.length aE]) ?_ 3 _ rfl; (with_reducible repeat (first | refine zN ?_ _ | refine zD ?_ | refine zA ?_ _)); refine blk_put (cs := #[.slice ar ag.length aq, .int .i64 ao, .slice aJ aC.length aK, .slice aD ay.length aE]) ?_ 2 _ rfl; (with_reducible repeat (first | refine zN ?_ _ | refine zD ?_ | refine zA ?_ _)); refine blk_put (cs := #[.slice ar ag.length aq, .int .i64 a0_1, .slice aJ aC.length aK, .slice aD ay.length aE]) ?_ 1 _ rfl; (with_reducible repeat (first | refine zN ?_ _ | refine zD ?_ | refine zA ?_ _)); refine blk_put (cs := #[.slice aL aI.length aM, .int .i64 a0_1, .slice aJ aC.length aK, .slice aD ay.length aE]) ?_ 0 _ rfl; (with_reducible repeat (first | refine zN ?_ _ | refine zD ?_ | refine zA ?_ _)); exact ab.out) hb); have a4 := zK (blk_below (g := ac) (o := .cells #[.slice none 0 0, .int .i64 0, .slice none 0 0, .slice none 0 0] 28 (0, 0)) (by (with_reducible repeat (first | refine zN ?_ _ | refine zD ?_ | refine zA ?_ _)); refine blk_far ?_ ad.out _; (with_reducible repeat (first | refine zN ?_ _ | refine zD ?_ | refine zA ?_ _)); refine blk_far ?_ ad.out _; (with_reducible repeat (first | refine zN ?_ _ | refine zD ?_ | refine zA ?_ _)); refine blk_far ?_ ad.out _; (with_reducible repeat (first | refine zN ?_ _ | refine zD ?_ | refine zA ?_ _)); refine blk_far ?_ ad.out _; (with_reducible repeat (first | refine zN ?_ _ | refine zD ?_ | refine zA ?_ _)); exact ae.out) hb); have a5 := zK (below_step (zb HB) hb); clear aF; clear aG; clear aH; clear ab; clear ae; clear HB; have aF := aP; have aG := aQ; have aH := aR; have ab := aS; have ae := a4; have HB := a5; clear aP aQ aR aS a4 a5; (try clear hb); (try clear hk)) | (go_at_call 62; (with_reducible refine (spec_l01In.calls a1 0 600 aN _ A16.out).mono ?_); rintro e w' ⟨rfl, ⟨nd, rfl⟩⟩))
   go_meet
   case rel => exact ⟨_, (!aN), (by first | rfl | (simp; done) | (simp [*]; done)), H', ⟨by first | omega | exact Nat.le_refl _⟩, ⟨zR aF⟩, ⟨zT aG⟩, ⟨zT aH⟩, ⟨zk ab⟩, ⟨zk ae⟩, ⟨zb HB⟩⟩
  ·replace ce := Bool.eq_false_iff.mpr ce
   subst ce
   have H1 : (spec_TurnLoop.j0 k a1 true ag ao al ap) = some (r1, r2, r3, r4) := by rw [if_neg (show ¬ (false = true) by decide)] at H; exact H
   clear H; have H := H1; clear H1; have H' := zK H; clear H; have hnb20 := aB.out; have hnc20 := ad.out
   have bn : w9.cell? ⟨aa, 0, none⟩ = some (.slice aL aI.length aM) := (blk_cell ab.out 0).trans rfl
   have bo : w9.cell? ⟨aa, 1, none⟩ = some (.int .i64 a0_1) := (blk_cell ab.out 1).trans rfl
   have bp : w9.cell? ⟨aa, 2, none⟩ = some (.slice aJ aC.length aK) := (blk_cell ab.out 2).trans rfl
   have bq : w9.cell? ⟨aa, 3, none⟩ = some (.slice aD ay.length aE) := (blk_cell ab.out 3).trans rfl
   have br := blk_frozen ab.out 0; have bs := blk_frozen ab.out 1; have bu := blk_frozen ab.out 2; have bv := blk_frozen ab.out 3
   go_wp2_with (first | ((with_reducible refine gate_callee (f := 23) rfl ?_); refine goesL_ (some 9) rfl rfl Try.func23 (by kernel_rfl) rfl #[.agg #[.slice ar ag.length aq, .int .i64 ao, .slice aw al.length av, .slice aA ap.length ax]] rfl (by (try simp only [List.map_toArray, List.map_cons, List.map_nil]); first | done | rfl | (simp only [List.length_drop, List.length_take]; rfl)) ?_; (with_reducible refine (spec_LoopOk.calls k _ _ ag ao _ _ al _ _ ap false _ ?side1 ?side2 ?side3 ?side4 ?side5 ?side6 A14.out).mono ?_); (case side1 => refine (Kd.R_reads' (e := 3) (base := w.heap.size) (ok := fun k_ => True) (n := ag.length) (c := aq) ?_).2.2; exact (by (with_reducible repeat (first | apply Kd.R_alloc | apply Kd.R_drewN | apply Kd.R_drew)); exact (Kd.R_mono (Kd.R_far (p := ⟨aa, 3, none⟩) (Kd.R_far (p := ⟨aa, 2, none⟩) (Kd.R_far (p := ⟨aa, 1, none⟩) (Kd.R_far (p := ⟨aa, 0, none⟩) (Kd.R_types aF.out ab.out (by decide)) (fun _ hk => hk.2) (.slice ar ag.length aq)) (fun _ hk => hk.2) (.int .i64 ao)) (fun _ hk => hk.2) (.slice aw al.length av)) (fun _ hk => hk.2) (.slice aA ap.length ax)) (fun _ h_ => h_.1)))); (case side2 => exact (Kd.R_reads' aF.out).2.1); (case side3 => refine (Kd.S_reads' (e := 69) (base := w.heap.size) (ok := fun k_ => some k_ ≠ (.slice ar ag.length aq : Value).ownBlock) (n := al.length) (c := av) ?_).2.2; exact (by (with_reducible repeat (first | apply Kd.S_alloc | apply Kd.S_drewN | apply Kd.S_drew)); exact (Kd.S_mono (Kd.S_far (p := ⟨aa, 3, none⟩) (Kd.S_far (p := ⟨aa, 2, none⟩) (Kd.S_far (p := ⟨aa, 1, none⟩) (Kd.S_far (p := ⟨aa, 0, none⟩) (Kd.S_types aG.out ab.out (by decide)) (fun _ hk => hk.2) (.slice ar ag.length aq)) (fun _ hk => hk.2) (.int .i64 ao)) (fun _ hk => hk.2) (.slice aw al.length av)) (fun _ hk => hk.2) (.slice aA ap.length ax)) (fun _ h_ => h_.1)))); (case side4 => exact (Kd.S_reads' aG.out).2.1); (case side5 => refine (Kd.S_reads' (e := 74) (base := w.heap.size) (ok := fun k_ => some k_ ≠ (.slice ar ag.length aq : Value).ownBlock) (n := ap.length) (c := ax) ?_).2.2; exact (by (with_reducible repeat (first | apply Kd.S_alloc | apply Kd.S_drewN | apply Kd.S_drew)); exact (Kd.S_mono (Kd.S_far (p := ⟨aa, 3, none⟩) (Kd.S_far (p := ⟨aa, 2, none⟩) (Kd.S_far (p := ⟨aa, 1, none⟩) (Kd.S_far (p := ⟨aa, 0, none⟩) (Kd.S_types aH.out ab.out (by decide)) (fun _ hk => hk.2) (.slice ar ag.length aq)) (fun _ hk => hk.2) (.int .i64 ao)) (fun _ hk => hk.2) (.slice aw al.length av)) (fun _ hk => hk.2) (.slice aA ap.length ax)) (fun _ h_ => h_.1)))); (case side6 => exact (Kd.S_reads' aH.out).2.1); rintro e w22 ⟨rfl, hb⟩; refine ⟨_, rfl, ?_⟩; have aP := zK (Kd.R_below (by (with_reducible repeat (first | apply Kd.R_alloc | apply Kd.R_drewN | apply Kd.R_drew)); exact (Kd.R_mono (Kd.R_far (p := ⟨aa, 3, none⟩) (Kd.R_far (p := ⟨aa, 2, none⟩) (Kd.R_far (p := ⟨aa, 1, none⟩) (Kd.R_far (p := ⟨aa, 0, none⟩) (Kd.R_types aF.out ab.out (by decide)) (fun _ hk => hk.2) (.slice ar ag.length aq)) (fun _ hk => hk.2) (.int .i64 ao)) (fun _ hk => hk.2) (.slice aw al.length av)) (fun _ hk => hk.2) (.slice aA ap.length ax)) (fun _ h_ => h_.1))) hb); have aQ := zK (Kd.S_below (by (with_reducible repeat (first | apply Kd.S_alloc | apply Kd.S_drewN | apply Kd.S_drew)); exact (Kd.S_mono (Kd.S_far (p := ⟨aa, 3, none⟩) (Kd.S_far (p := ⟨aa, 2, none⟩) (Kd.S_far (p := ⟨aa, 1, none⟩) (Kd.S_far (p := ⟨aa, 0, none⟩) (Kd.S_types aG.out ab.out (by decide)) (fun _ hk => hk.2) (.slice ar ag.length aq)) (fun _ hk => hk.2) (.int .i64 ao)) (fun _ hk => hk.2) (.slice aw al.length av)) (fun _ hk => hk.2) (.slice aA ap.length ax)) (fun _ h_ => h_.1))) hb); have aR := zK (Kd.S_below (by (with_reducible repeat (first | apply Kd.S_alloc | apply Kd.S_drewN | apply Kd.S_drew)); exact (Kd.S_mono (Kd.S_far (p := ⟨aa, 3, none⟩) (Kd.S_far (p := ⟨aa, 2, none⟩) (Kd.S_far (p := ⟨aa, 1, none⟩) (Kd.S_far (p := ⟨aa, 0, none⟩) (Kd.S_types aH.out ab.out (by decide)) (fun _ hk => hk.2) (.slice ar ag.length aq)) (fun _ hk => hk.2) (.int .i64 ao)) (fun _ hk => hk.2) (.slice aw al.length av)) (fun _ hk => hk.2) (.slice aA ap.length ax)) (fun _ h_ => h_.1))) hb); have aS := zK (blk_below (g := aa) (o := .cells #[.slice ar ag.length aq, .int .i64 ao, .slice aw al.length av, .slice aA ap.length ax] 28 (0, 0)) (by (with_reducible repeat (first | refine zN ?_ _ | refine zD ?_ | refine zA ?_ _)); refine blk_put (cs := #[.slice ar ag.length aq, .int .i64 ao, .slice aw al.length av, .slice aD ay.length aE]) ?_ 3 _ rfl; (with_reducible repeat (first | refine zN ?_ _ | refine zD ?_ | refine zA ?_ _)); refine blk_put (cs := #[.slice ar ag.length aq, .int .i64 ao, .slice aJ aC.length aK, .slice aD ay.length aE]) ?_ 2 _ rfl; (with_reducible repeat (first | refine zN ?_ _ | refine zD ?_ | refine zA ?_ _)); refine blk_put (cs := #[.slice ar ag.length aq, .int .i64 a0_1, .slice aJ aC.length aK, .slice aD ay.length aE]) ?_ 1 _ rfl; (with_reducible repeat (first | refine zN ?_ _ | refine zD ?_ | refine zA ?_ _)); refine blk_put (cs := #[.slice aL aI.length aM, .int .i64 a0_1, .slice aJ aC.length aK, .slice aD ay.length aE]) ?_ 0 _ rfl; (with_reducible repeat (first | refine zN ?_ _ | refine zD ?_ | refine zA ?_ _)); exact ab.out) hb); have a4 := zK (blk_below (g := ac) (o := .cells #[.slice none 0 0, .int .i64 0, .slice none 0 0, .slice none 0 0] 28 (0, 0)) (by (with_reducible repeat (first | refine zN ?_ _ | refine zD ?_ | refine zA ?_ _)); refine blk_far ?_ ad.out _; (with_reducible repeat (first | refine zN ?_ _ | refine zD ?_ | refine zA ?_ _)); refine blk_far ?_ ad.out _; (with_reducible repeat (first | refine zN ?_ _ | refine zD ?_ | refine zA ?_ _)); refine blk_far ?_ ad.out _; (with_reducible repeat (first | refine zN ?_ _ | refine zD ?_ | refine zA ?_ _)); refine blk_far ?_ ad.out _; (with_reducible repeat (first | refine zN ?_ _ | refine zD ?_ | refine zA ?_ _)); exact ae.out) hb); have a5 := zK (below_step (zb HB) hb); clear aF; clear aG; clear aH; clear ab; clear ae; clear HB; have aF := aP; have aG := aQ; have aH := aR; have ab := aS; have ae := a4; have HB := a5; clear aP aQ aR aS a4 a5; (try clear hb); (try clear hk)))
   go_meet
   case rel => exact ⟨_, (true), (by first | rfl | (simp; done) | (simp [*]; done)), H', ⟨by first | omega | exact Nat.le_refl _⟩, ⟨zR aF⟩, ⟨zT aG⟩, ⟨zT aH⟩, ⟨zk ab⟩, ⟨zk ae⟩, ⟨zb HB⟩⟩
 case rest =>
  clear HC4
  try clear c1
  try clear c2
  try clear p2
  try clear c6
  try clear c7
  try clear ce
  try clear c17
  try clear c20
  try clear a6
  try clear a7
  try clear a8
  try clear a9
  try clear bf
  try clear bg
  try clear bh
  try clear bi
  try clear bn
  try clear bo
  try clear bp
  try clear bq
  try clear bA
  try clear bB
  try clear bC
  try clear bD
  try clear ba
  try clear bb
  try clear bc
  try clear bd
  try clear bj
  try clear bk
  try clear bl
  try clear bm
  try clear br
  try clear bs
  try clear bu
  try clear bv
  try clear bE
  try clear bF
  try clear bG
  try clear bH
  obtain ⟨kq, be, rfl, HA, HJ3, ak, am, an, ab, ae, HB⟩ := hcut
  cases kq with
  | zero => exact absurd HA.out (by simp [spec_TurnLoop.j0])
  | succ kj3 =>
   have H := HA.out; clear HA
   simp only [spec_TurnLoop.j0] at H
   by_cases cp : be = true
   ·subst cp
    have H1 : (some (ag, ao, al, ap)) = some (r1, r2, r3, r4) := by rw [if_pos rfl] at H; exact H
    clear H; have H := H1; clear H1
    simp only [Option.some.injEq, Prod.mk.injEq] at H
    obtain ⟨rfl, rfl, rfl, rfl⟩ := H
    have hnb24 := aB.out; have hnc24 := ad.out
    have bM : wc.cell? ⟨aa, 0, none⟩ = some (.slice ar ag.length aq) := (blk_cell ab.out 0).trans rfl
    have bN : wc.cell? ⟨aa, 1, none⟩ = some (.int .i64 ao) := (blk_cell ab.out 1).trans rfl
    have bO : wc.cell? ⟨aa, 2, none⟩ = some (.slice aw al.length av) := (blk_cell ab.out 2).trans rfl
    have bP : wc.cell? ⟨aa, 3, none⟩ = some (.slice aA ap.length ax) := (blk_cell ab.out 3).trans rfl
    have bQ := blk_frozen ab.out 0; have bR := blk_frozen ab.out 1; have bS := blk_frozen ab.out 2; have bT := blk_frozen ab.out 3
    have bU : wc.cell? ⟨ac, 0, none⟩ = some (.slice none 0 0) := (blk_cell ae.out 0).trans rfl
    have bV : wc.cell? ⟨ac, 1, none⟩ = some (.int .i64 0) := (blk_cell ae.out 1).trans rfl
    have bW : wc.cell? ⟨ac, 2, none⟩ = some (.slice none 0 0) := (blk_cell ae.out 2).trans rfl
    have bX : wc.cell? ⟨ac, 3, none⟩ = some (.slice none 0 0) := (blk_cell ae.out 3).trans rfl
    have bY := blk_frozen ae.out 0; have bZ := blk_frozen ae.out 1; have b0 := blk_frozen ae.out 2; have b1 := blk_frozen ae.out 3
    go_wp2
    refine bodyPost_ret (results_cell_row rfl _ _ ac 28 #[.slice ar ag.length aq, .int .i64 ao, .slice aw al.length av, .slice aA ap.length ax] (0, 0) _ rfl (by (with_reducible repeat (first | refine zN ?_ _ | refine zD ?_ | refine zA ?_ _)); refine blk_put (cs := #[.slice ar ag.length aq, .int .i64 ao, .slice aw al.length av, .slice none 0 0]) ?_ 3 _ rfl; (with_reducible repeat (first | refine zN ?_ _ | refine zD ?_ | refine zA ?_ _)); refine blk_put (cs := #[.slice ar ag.length aq, .int .i64 ao, .slice none 0 0, .slice none 0 0]) ?_ 2 _ rfl; (with_reducible repeat (first | refine zN ?_ _ | refine zD ?_ | refine zA ?_ _)); refine blk_put (cs := #[.slice ar ag.length aq, .int .i64 0, .slice none 0 0, .slice none 0 0]) ?_ 1 _ rfl; (with_reducible repeat (first | refine zN ?_ _ | refine zD ?_ | refine zA ?_ _)); refine blk_put (cs := #[.slice none 0 0, .int .i64 0, .slice none 0 0, .slice none 0 0]) ?_ 0 _ rfl; (with_reducible repeat (first | refine zN ?_ _ | refine zD ?_ | refine zA ?_ _)); exact ae.out) Try.underlying28 rfl (by kernel_rfl)) rfl ?_
    exact ⟨_, _, _, by first | rfl | (simp [errW_none, errW_some] <;> rfl) | (simp [*, errW_none, errW_some] <;> rfl), by (with_reducible repeat (first | apply Kd.R_alloc | apply Kd.R_drewN | apply Kd.R_drew)); exact Kd.R_mono (Kd.R_far (p := ⟨ac, 3, none⟩) (Kd.R_far (p := ⟨ac, 2, none⟩) (Kd.R_far (p := ⟨ac, 1, none⟩) (Kd.R_far (p := ⟨ac, 0, none⟩) (Kd.R_types ak.out ae.out (by decide)) (fun _ hk => hk.2) (.slice ar ag.length aq)) (fun _ hk => hk.2) (.int .i64 ao)) (fun _ hk => hk.2) (.slice aw al.length av)) (fun _ hk => hk.2) (.slice aA ap.length ax)) (fun _ hk => trivial), by (with_reducible repeat (first | apply Kd.S_alloc | apply Kd.S_drewN | apply Kd.S_drew)); exact Kd.S_mono (Kd.S_far (p := ⟨ac, 3, none⟩) (Kd.S_far (p := ⟨ac, 2, none⟩) (Kd.S_far (p := ⟨ac, 1, none⟩) (Kd.S_far (p := ⟨ac, 0, none⟩) (Kd.S_types am.out ae.out (by decide)) (fun _ hk => hk.2) (.slice ar ag.length aq)) (fun _ hk => hk.2) (.int .i64 ao)) (fun _ hk => hk.2) (.slice aw al.length av)) (fun _ hk => hk.2) (.slice aA ap.length ax)) (fun _ hk => hk.1), by (with_reducible repeat (first | apply Kd.S_alloc | apply Kd.S_drewN | apply Kd.S_drew)); exact Kd.S_mono (Kd.S_far (p := ⟨ac, 3, none⟩) (Kd.S_far (p := ⟨ac, 2, none⟩) (Kd.S_far (p := ⟨ac, 1, none⟩) (Kd.S_far (p := ⟨ac, 0, none⟩) (Kd.S_types an.out ae.out (by decide)) (fun _ hk => hk.2) (.slice ar ag.length aq)) (fun _ hk => hk.2) (.int .i64 ao)) (fun _ hk => hk.2) (.slice aw al.length av)) (fun _ hk => hk.2) (.slice aA ap.length ax)) (fun _ hk => hk.1), by repeat (first | (with_reducible first | exact HB.out | apply zB | apply zC | apply zE | refine zS ?_ au.out | refine zS ?_ az.out) | exact HB.out)⟩
   ·replace cp := Bool.eq_false_iff.mpr cp
    subst cp
    have H1 : (spec_TurnLoop.l0 kj3 a1 0 ag ao al ap) = some (r1, r2, r3, r4) := by rw [if_neg (show ¬ (false = true) by decide)] at H; exact H
    clear H; have H := H1; clear H1; have H' := zK H; clear H
    go_wp2
    go_loopg [5] kj3 (fun kq v5 w' => ∃ (aT : Int) (ah : List Int) (af : Int) (ai : List (S69)) (aj : List (S74)) (u476000 : Value) (u476002 : Value) (u476003 : Value), v5 = .int .i64 aT ∧ Aside0 (spec_TurnLoop.l0 kq a1 aT ah af ai aj = some (r1, r2, r3, r4)) ∧ Aside0 (kq ≤ kj3) ∧ Aside0 (Kd.R (Kd.int .i64) 3 w' w.heap.size (fun _ => True) u476000 ah) ∧ Aside0 (Kd.S k69 69 w' w.heap.size (fun k_ => some k_ ≠ (u476000 : Value).ownBlock) u476002 ai) ∧ Aside0 (Kd.S k74 74 w' w.heap.size (fun k_ => some k_ ≠ (u476000 : Value).ownBlock) u476003 aj) ∧ Aside0 (w'.heap[aa]? = some (.cells #[u476000, .int .i64 af, u476002, u476003] 28 (0, 0))) ∧ Aside0 (w'.heap[ac]? = some (.cells #[(.slice none 0 0), .int .i64 0, (.slice none 0 0), (.slice none 0 0)] 28 (0, 0))) ∧ Aside0 (Below w.heap.size w w'))
    case atStart => exact ⟨(0), (ag), (ao), (al), (ap), (.slice ar ag.length aq), (.slice aw al.length av), (.slice aA ap.length ax), (by first | rfl | (simp; done) | (simp [*]; done)), H', ⟨Nat.le_refl _⟩, ⟨zR ak⟩, ⟨zT am⟩, ⟨zT an⟩, ⟨zk ab⟩, ⟨zk ae⟩, ⟨zb HB⟩⟩
    case round =>
     clear H'
     try clear c1
     try clear c2
     try clear p2
     try clear c6
     try clear c7
     try clear ce
     try clear c17
     try clear c20
     try clear cp
     try clear c24
     try clear c26
     try clear a6
     try clear a7
     try clear a8
     try clear a9
     try clear bf
     try clear bg
     try clear bh
     try clear bi
     try clear bn
     try clear bo
     try clear bp
     try clear bq
     try clear bM
     try clear bN
     try clear bO
     try clear bP
     try clear bU
     try clear bV
     try clear bW
     try clear bX
     try clear bA
     try clear bB
     try clear bC
     try clear bD
     try clear ba
     try clear bb
     try clear bc
     try clear bd
     try clear bj
     try clear bk
     try clear bl
     try clear bm
     try clear br
     try clear bs
     try clear bu
     try clear bv
     try clear bQ
     try clear bR
     try clear bS
     try clear bT
     try clear bY
     try clear bZ
     try clear b0
     try clear b1
     try clear bE
     try clear bF
     try clear bG
     try clear bH
     try clear p2
     obtain ⟨aT, ah, af, ai, aj, u476000, u476002, u476003, rfl, HA, HK2, ak, am, an, ab, ae, HB⟩ := hrel
     cases gk with
     | zero => exact absurd HA.out (by simp [spec_TurnLoop.l0])
     | succ k2 =>
      have H := HA.out; clear HA
      simp only [spec_TurnLoop.l0] at H
      by_cases cf : aT < a1
      ·rw [if_pos cf] at H
       have cq : decide (aT < a1) = true := decide_eq_true cf
       clear cf; replace H := Option.bind_eq_some_iff.mp H
       obtain ⟨⟨aO, aU, aV, aW⟩, cr, H⟩ := H
       replace H : (spec_TurnLoop.l0 k2 a1 (wrap64 (aT + 1)) aO aU aV aW) = some (r1, r2, r3, r4) := H
       have A28 := zK cr; clear cr; have H' := zK H; clear H; have hnb29 := aB.out; have hnc29 := ad.out
       have hcz30_0 : wr.cell? ⟨aa, 0, none⟩ = some (u476000) := (blk_cell ab.out 0).trans rfl
       have hcz30_1 : wr.cell? ⟨aa, 1, none⟩ = some (.int .i64 af) := (blk_cell ab.out 1).trans rfl
       have hcz30_2 : wr.cell? ⟨aa, 2, none⟩ = some (u476002) := (blk_cell ab.out 2).trans rfl
       have hcz30_3 : wr.cell? ⟨aa, 3, none⟩ = some (u476003) := (blk_cell ab.out 3).trans rfl
       have hfz30_0 := blk_frozen ab.out 0; have hfz30_1 := blk_frozen ab.out 1; have hfz30_2 := blk_frozen ab.out 2; have hfz30_3 := blk_frozen ab.out 3
       obtain ⟨b2, b3, eo31⟩ := Kd.R_slice ak.out
       subst eo31
       obtain ⟨bx, bz, eo32⟩ := Kd.S_slice am.out
       subst eo32
       obtain ⟨aX, aY, eo33⟩ := Kd.S_slice an.out
       subst eo33
       go_wp2_with (first | ((with_reducible refine gate_callee (f := 56) rfl ?_); refine goesL_ (some 23) rfl rfl Try.func56 (by kernel_rfl) rfl #[.agg #[.slice b2 ah.length b3, .int .i64 af, .slice bx ai.length bz, .slice aX aj.length aY]] rfl (by (try simp only [List.map_toArray, List.map_cons, List.map_nil]); first | done | rfl | (simp only [List.length_drop, List.length_take]; rfl)) ?_; (with_reducible refine (spec_l05Step.calls k2 _ _ ah af _ _ ai _ _ aj aO aU aV aW _ ?side1 ?side2 ?side3 ?side4 ?side5 ?side6 A28.out).mono ?_); (case side1 => repeat (first | exact (Kd.R_reads' ak.out).2.2 | (with_reducible refine Kd.C_alloc ?_ _) | (with_reducible refine Kd.C_drewN ?_ _) | (with_reducible refine Kd.C_drew ?_))); (case side2 => exact (Kd.R_reads' ak.out).2.1); (case side3 => repeat (first | exact (Kd.S_reads' am.out).2.2 | (with_reducible refine Kd.C_alloc ?_ _) | (with_reducible refine Kd.C_drewN ?_ _) | (with_reducible refine Kd.C_drew ?_))); (case side4 => exact (Kd.S_reads' am.out).2.1); (case side5 => repeat (first | exact (Kd.S_reads' an.out).2.2 | (with_reducible refine Kd.C_alloc ?_ _) | (with_reducible refine Kd.C_drewN ?_ _) | (with_reducible refine Kd.C_drew ?_))); (case side6 => exact (Kd.S_reads' an.out).2.1); rintro e w34 ⟨v490, v494, v497, rfl, ho0, ho1, ho2, hb⟩; refine ⟨_, rfl, ?_⟩; have aP := zK (Kd.R_elder' (zR ak) (Kd.R_base ho0) hb); have aQ := zK (Kd.S_mono (Kd.S_told (Kd.S_told (Kd.S_old (zT am) hb) (Kd.R_base ho0)) (Kd.S_base ho1)) (fun _ h_ => h_.1)); have aR := zK (Kd.S_mono (Kd.S_told (Kd.S_told (Kd.S_old (zT an) hb) (Kd.R_base ho0)) (Kd.S_base ho2)) (fun _ h_ => h_.1)); have aS := zK (Kd.R_lower (Kd.R_new' ho0 (Kd.R_lt (zR ak))) (below_size (zb HB))); have a4 := zK (Kd.S_lower (Kd.S_new' (Kd.S_new' ho1 (Kd.R_lt (zR ak))) (Kd.S_lt (zT am))) (below_size (zb HB))); have a5 := zK (Kd.S_lower (Kd.S_new' (Kd.S_new' ho2 (Kd.R_lt (zR ak))) (Kd.S_lt (zT an))) (below_size (zb HB))); have cm := zK (blk_below (g := aa) (o := .cells #[.slice b2 ah.length b3, .int .i64 af, .slice bx ai.length bz, .slice aX aj.length aY] 28 (0, 0)) (zk ab) hb); have n7_ := zK (blk_below (g := ac) (o := .cells #[.slice none 0 0, .int .i64 0, .slice none 0 0, .slice none 0 0] 28 (0, 0)) (zk ae) hb); have n8_ := zK (below_step (zb HB) hb); clear ak; clear am; clear an; clear ab; clear ae; clear HB; have ak := aP; have am := aQ; have an := aR; have cb := aS; have cc := a4; have cd := a5; have ab := cm; have ae := n7_; have HB := n8_; clear aP aQ aR aS a4 a5 cm n7_ n8_; (try clear hb); (try clear ho0); (try clear ho1); (try clear ho2); obtain ⟨aZ, a0, eo35⟩ := Kd.R_slice cb.out; subst eo35; have hcz36_0 : w34.cell? ⟨aa, 0, none⟩ = some (.slice b2 ah.length b3) := (blk_cell ab.out 0).trans rfl; have hcz36_1 : w34.cell? ⟨aa, 1, none⟩ = some (.int .i64 af) := (blk_cell ab.out 1).trans rfl; have hcz36_2 : w34.cell? ⟨aa, 2, none⟩ = some (.slice bx ai.length bz) := (blk_cell ab.out 2).trans rfl; have hcz36_3 : w34.cell? ⟨aa, 3, none⟩ = some (.slice aX aj.length aY) := (blk_cell ab.out 3).trans rfl; have hfz36_0 := blk_frozen ab.out 0; have hfz36_1 := blk_frozen ab.out 1; have hfz36_2 := blk_frozen ab.out 2; have hfz36_3 := blk_frozen ab.out 3; obtain ⟨bI, bJ, eo37⟩ := Kd.S_slice cc.out; subst eo37; obtain ⟨b4, b5, eo38⟩ := Kd.S_slice cd.out; subst eo38))
       go_roundg k2
       case measure => have := HJ3.out; have := HK2.out; omega
       case rel => exact ⟨(wrap64 (aT + 1)), (aO), (aU), (aV), (aW), (.slice aZ aO.length a0), (.slice bI aV.length bJ), (.slice b4 aW.length b5), (by first | rfl | (simp; done) | (simp [*]; done)), H', ⟨by have := HJ3.out; have := HK2.out; omega⟩, ⟨by (with_reducible repeat (first | apply Kd.R_alloc | apply Kd.R_drewN | apply Kd.R_drew)); exact Kd.R_mono (Kd.R_far (p := ⟨aa, 3, none⟩) (Kd.R_far (p := ⟨aa, 2, none⟩) (Kd.R_far (p := ⟨aa, 1, none⟩) (Kd.R_far (p := ⟨aa, 0, none⟩) (Kd.R_types cb.out ab.out (by decide)) (fun _ hk => hk.2) (.slice aZ aO.length a0)) (fun _ hk => hk.2) (.int .i64 aU)) (fun _ hk => hk.2) (.slice bI aV.length bJ)) (fun _ hk => hk.2) (.slice b4 aW.length b5)) (fun _ hk => trivial)⟩, ⟨by (with_reducible repeat (first | apply Kd.S_alloc | apply Kd.S_drewN | apply Kd.S_drew)); exact Kd.S_mono (Kd.S_far (p := ⟨aa, 3, none⟩) (Kd.S_far (p := ⟨aa, 2, none⟩) (Kd.S_far (p := ⟨aa, 1, none⟩) (Kd.S_far (p := ⟨aa, 0, none⟩) (Kd.S_types cc.out ab.out (by decide)) (fun _ hk => hk.2) (.slice aZ aO.length a0)) (fun _ hk => hk.2) (.int .i64 aU)) (fun _ hk => hk.2) (.slice bI aV.length bJ)) (fun _ hk => hk.2) (.slice b4 aW.length b5)) (fun _ hk => hk.1.1.1)⟩, ⟨by (with_reducible repeat (first | apply Kd.S_alloc | apply Kd.S_drewN | apply Kd.S_drew)); exact Kd.S_mono (Kd.S_far (p := ⟨aa, 3, none⟩) (Kd.S_far (p := ⟨aa, 2, none⟩) (Kd.S_far (p := ⟨aa, 1, none⟩) (Kd.S_far (p := ⟨aa, 0, none⟩) (Kd.S_types cd.out ab.out (by decide)) (fun _ hk => hk.2) (.slice aZ aO.length a0)) (fun _ hk => hk.2) (.int .i64 aU)) (fun _ hk => hk.2) (.slice bI aV.length bJ)) (fun _ hk => hk.2) (.slice b4 aW.length b5)) (fun _ hk => hk.1.1.1)⟩, ⟨by (with_reducible repeat (first | refine zN ?_ _ | refine zD ?_ | refine zA ?_ _)); refine blk_put (cs := #[.slice aZ aO.length a0, .int .i64 aU, .slice bI aV.length bJ, .slice aX aj.length aY]) ?_ 3 _ rfl; (with_reducible repeat (first | refine zN ?_ _ | refine zD ?_ | refine zA ?_ _)); refine blk_put (cs := #[.slice aZ aO.length a0, .int .i64 aU, .slice bx ai.length bz, .slice aX aj.length aY]) ?_ 2 _ rfl; (with_reducible repeat (first | refine zN ?_ _ | refine zD ?_ | refine zA ?_ _)); refine blk_put (cs := #[.slice aZ aO.length a0, .int .i64 af, .slice bx ai.length bz, .slice aX aj.length aY]) ?_ 1 _ rfl; (with_reducible repeat (first | refine zN ?_ _ | refine zD ?_ | refine zA ?_ _)); refine blk_put (cs := #[.slice b2 ah.length b3, .int .i64 af, .slice bx ai.length bz, .slice aX aj.length aY]) ?_ 0 _ rfl; (with_reducible repeat (first | refine zN ?_ _ | refine zD ?_ | refine zA ?_ _)); exact ab.out⟩, ⟨by (with_reducible repeat (first | refine zN ?_ _ | refine zD ?_ | refine zA ?_ _)); refine blk_far ?_ ad.out _; (with_reducible repeat (first | refine zN ?_ _ | refine zD ?_ | refine zA ?_ _)); refine blk_far ?_ ad.out _; (with_reducible repeat (first | refine zN ?_ _ | refine zD ?_ | refine zA ?_ _)); refine blk_far ?_ ad.out _; (with_reducible repeat (first | refine zN ?_ _ | refine zD ?_ | refine zA ?_ _)); refine blk_far ?_ ad.out _; (with_reducible repeat (first | refine zN ?_ _ | refine zD ?_ | refine zA ?_ _)); exact ae.out⟩, ⟨zb HB⟩⟩
      ·rw [if_neg cf] at H
       have cq : decide (aT < a1) = false := decide_eq_false cf
       clear cf
       simp only [Option.some.injEq, Prod.mk.injEq] at H
       obtain ⟨rfl, rfl, rfl, rfl⟩ := H
       have hnb39 := aB.out; have hnc39 := ad.out
       have hcz40_0 : wr.cell? ⟨aa, 0, none⟩ = some (u476000) := (blk_cell ab.out 0).trans rfl
       have hcz40_1 : wr.cell? ⟨aa, 1, none⟩ = some (.int .i64 af) := (blk_cell ab.out 1).trans rfl
       have hcz40_2 : wr.cell? ⟨aa, 2, none⟩ = some (u476002) := (blk_cell ab.out 2).trans rfl
       have hcz40_3 : wr.cell? ⟨aa, 3, none⟩ = some (u476003) := (blk_cell ab.out 3).trans rfl
       have hfz40_0 := blk_frozen ab.out 0; have hfz40_1 := blk_frozen ab.out 1; have hfz40_2 := blk_frozen ab.out 2; have hfz40_3 := blk_frozen ab.out 3
       obtain ⟨a2, a3, eo41⟩ := Kd.R_slice ak.out
       subst eo41
       have hcz42_0 : wr.cell? ⟨ac, 0, none⟩ = some (.slice none 0 0) := (blk_cell ae.out 0).trans rfl
       have hcz42_1 : wr.cell? ⟨ac, 1, none⟩ = some (.int .i64 0) := (blk_cell ae.out 1).trans rfl
       have hcz42_2 : wr.cell? ⟨ac, 2, none⟩ = some (.slice none 0 0) := (blk_cell ae.out 2).trans rfl
       have hcz42_3 : wr.cell? ⟨ac, 3, none⟩ = some (.slice none 0 0) := (blk_cell ae.out 3).trans rfl
       have hfz42_0 := blk_frozen ae.out 0; have hfz42_1 := blk_frozen ae.out 1; have hfz42_2 := blk_frozen ae.out 2; have hfz42_3 := blk_frozen ae.out 3
       obtain ⟨bK, bL, eo43⟩ := Kd.S_slice am.out
       subst eo43
       obtain ⟨b6, b7, eo44⟩ := Kd.S_slice an.out
       subst eo44
       go_wp2
       refine bodyPost_ret (results_cell_row rfl _ _ ac 28 #[.slice a2 ah.length a3, .int .i64 af, .slice bK ai.length bL, .slice b6 aj.length b7] (0, 0) _ rfl (by (with_reducible repeat (first | refine zN ?_ _ | refine zD ?_ | refine zA ?_ _)); refine blk_put (cs := #[.slice a2 ah.length a3, .int .i64 af, .slice bK ai.length bL, .slice none 0 0]) ?_ 3 _ rfl; (with_reducible repeat (first | refine zN ?_ _ | refine zD ?_ | refine zA ?_ _)); refine blk_put (cs := #[.slice a2 ah.length a3, .int .i64 af, .slice none 0 0, .slice none 0 0]) ?_ 2 _ rfl; (with_reducible repeat (first | refine zN ?_ _ | refine zD ?_ | refine zA ?_ _)); refine blk_put (cs := #[.slice a2 ah.length a3, .int .i64 0, .slice none 0 0, .slice none 0 0]) ?_ 1 _ rfl; (with_reducible repeat (first | refine zN ?_ _ | refine zD ?_ | refine zA ?_ _)); refine blk_put (cs := #[.slice none 0 0, .int .i64 0, .slice none 0 0, .slice none 0 0]) ?_ 0 _ rfl; (with_reducible repeat (first | refine zN ?_ _ | refine zD ?_ | refine zA ?_ _)); exact ae.out) Try.underlying28 rfl (by kernel_rfl)) rfl ?_
       exact ⟨_, _, _, by first | rfl | (simp [errW_none, errW_some] <;> rfl) | (simp [*, errW_none, errW_some] <;> rfl), by (with_reducible repeat (first | apply Kd.R_alloc | apply Kd.R_drewN | apply Kd.R_drew)); exact Kd.R_mono (Kd.R_far (p := ⟨ac, 3, none⟩) (Kd.R_far (p := ⟨ac, 2, none⟩) (Kd.R_far (p := ⟨ac, 1, none⟩) (Kd.R_far (p := ⟨ac, 0, none⟩) (Kd.R_types ak.out ae.out (by decide)) (fun _ hk => hk.2) (.slice a2 ah.length a3)) (fun _ hk => hk.2) (.int .i64 af)) (fun _ hk => hk.2) (.slice bK ai.length bL)) (fun _ hk => hk.2) (.slice b6 aj.length b7)) (fun _ hk => trivial), by (with_reducible repeat (first | apply Kd.S_alloc | apply Kd.S_drewN | apply Kd.S_drew)); exact Kd.S_mono (Kd.S_far (p := ⟨ac, 3, none⟩) (Kd.S_far (p := ⟨ac, 2, none⟩) (Kd.S_far (p := ⟨ac, 1, none⟩) (Kd.S_far (p := ⟨ac, 0, none⟩) (Kd.S_types am.out ae.out (by decide)) (fun _ hk => hk.2) (.slice a2 ah.length a3)) (fun _ hk => hk.2) (.int .i64 af)) (fun _ hk => hk.2) (.slice bK ai.length bL)) (fun _ hk => hk.2) (.slice b6 aj.length b7)) (fun _ hk => hk.1), by (with_reducible repeat (first | apply Kd.S_alloc | apply Kd.S_drewN | apply Kd.S_drew)); exact Kd.S_mono (Kd.S_far (p := ⟨ac, 3, none⟩) (Kd.S_far (p := ⟨ac, 2, none⟩) (Kd.S_far (p := ⟨ac, 1, none⟩) (Kd.S_far (p := ⟨ac, 0, none⟩) (Kd.S_types an.out ae.out (by decide)) (fun _ hk => hk.2) (.slice a2 ah.length a3)) (fun _ hk => hk.2) (.int .i64 af)) (fun _ hk => hk.2) (.slice bK ai.length bL)) (fun _ hk => hk.2) (.slice b6 aj.length b7)) (fun _ hk => hk.1), by repeat (first | (with_reducible first | exact HB.out | apply zB | apply zC | apply zE | refine zS ?_ au.out | refine zS ?_ az.out) | exact HB.out)⟩
end Go.Proofs.Ytmjhbdmicejppaa.Px
