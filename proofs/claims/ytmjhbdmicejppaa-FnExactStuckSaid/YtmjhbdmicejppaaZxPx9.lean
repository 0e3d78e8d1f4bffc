import Derived.Test.YtmjhbdmicejppaaZxPx0
import Derived.Test.YtmjhbdmicejppaaZxPx3
import Derived.Test.YtmjhbdmicejppaaZxPx4
import Derived.Test.YtmjhbdmicejppaaZxPx7
namespace Go.Proofs.Ytmjhbdmicejppaa.Px
open Go.RowKit Go.Proofs.YtmjhbdmicejppaaW.PrintWords Go.Proofs.YtmjhbdmicejppaaW.PrintLast Go.Proofs.YtmjhbdmicejppaaW.PrintMore
attribute [local go_sem] max2_int min2_int max_two min_two max_three min_three max_four min_four   
set_option linter.unusedVariables false
set_option linter.unusedSimpArgs false
mutual
def spec_l05Copy.l0 : Nat → List (S69) → Int → List Int → Int → List (S69) → List (S74) → Option (List Int × Int × (List (S69)) × (List (S74)))
 | 0, _, _, _, _, _, _ => none
 | k + 1, x3, x4, x290000, x290001, x290002, x290003 => if x4 < (x290002.length : Int) then (if 0 ≤ x4 then ((some (([] : List Int) : List Int)).bind fun y302 => (if y302.length + ((rd_T69 x290002 x4).f2).length < 17592186044416 then (if x3.length < 3518437208883 then (spec_l05Copy.l0 k (x3 ++ [(⟨(rd_T69 x290002 x4).f0, (rd_T69 x290002 x4).f1, (y302 ++ ((rd_T69 x290002 x4).f2))⟩ : S69)]) (wrap64 (x4 + 1)) x290000 x290001 x290002 x290003) else (none)) else (none))) else (none)) else (spec_l05Copy.l1 k (([] : List (S74))) 0 x290000 x290001 x3 x290003)
def spec_l05Copy.l1 : Nat → List (S74) → Int → List Int → Int → List (S69) → List (S74) → Option (List Int × Int × (List (S69)) × (List (S74)))
 | 0, _, _, _, _, _, _ => none
 | k + 1, x6, x7, x290000, x290001, x290002, x290003 => if x7 < (x290003.length : Int) then (if 0 ≤ x7 then ((some (([] : List Int) : List Int)).bind fun y316 => (if y316.length + ((rd_T74 x290003 x7).f1).length < 17592186044416 then (if x6.length < 4398046511104 then (spec_l05Copy.l1 k (x6 ++ [(⟨(rd_T74 x290003 x7).f0, (y316 ++ ((rd_T74 x290003 x7).f1))⟩ : S74)]) (wrap64 (x7 + 1)) x290000 x290001 x290002 x290003) else (none)) else (none))) else (none)) else (some (x290000, x290001, x290002, x6))
end
def spec_l05Copy.f (k : Nat) (l0_0 : List Int) (a0_1 : Int) (l0_2 : List (S69)) (l0_3 : List (S74)) : Option (List Int × Int × (List (S69)) × (List (S74))) := (some (([] : List Int) : List Int)).bind fun y291 => (if y291.length + l0_0.length < 17592186044416 then (spec_l05Copy.l0 k (([] : List (S69))) 0 (y291 ++ l0_0) a0_1 l0_2 l0_3) else (none))
set_option maxHeartbeats 8000000 in
set_option maxRecDepth 100000 in
theorem spec_l05Copy.calls (k : Nat) (bf : Option Addr) (bg : Nat) (aI : List Int) (a0_1 : Int) (a4 : Option Addr) (aA : Nat) (ae : List (S69)) (ay : Option Addr) (aw : Nat) (af : List (S74)) (r1 : List Int) (r2 : Int) (r3 : List (S69)) (r4 : List (S74)) (w : World) (cU : Kd.C (Kd.int .i64) w bf aI.length aI) (hc0_0 : aI.length ≤ bg) (cV : Kd.C k69 w a4 ae.length ae) (hc0_2 : ae.length ≤ aA) (cW : Kd.C k74 w ay af.length af) (hc0_3 : af.length ≤ aw) (h : spec_l05Copy.f k aI a0_1 ae af = some (r1, r2, r3, r4)) :
  Calls Try.prog 68 #[.agg #[.slice bf aI.length bg, .int .i64 a0_1, .slice a4 ae.length aA, .slice ay af.length aw]] w fun e w' => ∃ v0_ v2_ v3_ : Value, e = .returned (.agg #[v0_, .int .i64 r2, v2_, v3_]) ∧ Kd.R (Kd.int .i64) 3 w' w.heap.size (fun _ => True) v0_ r1 ∧ Kd.S k69 69 w' w.heap.size (fun k_ => some k_ ≠ (v0_ : Value).ownBlock) v2_ r3 ∧ Kd.S k74 74 w' w.heap.size (fun k_ => some k_ ≠ (v0_ : Value).ownBlock) v3_ r4 ∧ Below w.heap.size w w' := by
 have hu28 := Try.underlying28; have hu69 := Try.underlying69; have hu74 := Try.underlying74; have db := zK cU; have HC0_0 := zK hc0_0; clear cU hc0_0; have dc := zK cV; have HC0_2 := zK hc0_2; clear cV hc0_2; have dd := zK cW; have HC0_3 := zK hc0_3; clear cW hc0_3
 have HB := zK (Below.refl w.heap.size w)
 have H : ((some (([] : List Int) : List Int)).bind fun bo => (if bo.length + aI.length < 17592186044416 then (spec_l05Copy.l0 k (([] : List (S69))) 0 (bo ++ aI) a0_1 ae af) else (none))) = some (r1, r2, r3, r4) := h
 clear h
 obtain ⟨bo, bp⟩ : ∃ y_ : List Int, y_ = (([] : List Int)) := ⟨_, rfl⟩
 replace H : (if bo.length + aI.length < 17592186044416 then (spec_l05Copy.l0 k (([] : List (S69))) 0 (bo ++ aI) a0_1 ae af) else (none)) = some (r1, r2, r3, r4) := by first | (rw [bp]; with_reducible exact H) | (have H2_ := (Option.bind_some _ _).symm.trans H; rw [bp]; with_reducible exact H2_) | (have H2_ := (Option.bind_some _ _).symm.trans H; with_reducible exact H2_) | with_reducible exact H | (rw [bp]; exact H) | exact H
 have Ny291 := zK bp; clear bp
 by_cases c2 : bo.length + aI.length < 17592186044416
 ·rw [if_pos c2] at H
  have LMc2 := zK c2; clear c2
  obtain ⟨ag, bq⟩ : ∃ y_ : List Int, y_ = (bo ++ aI) := ⟨_, rfl⟩
  replace H : (spec_l05Copy.l0 k (([] : List (S69))) 0 ag a0_1 ae af) = some (r1, r2, r3, r4) := by first | (rw [bq]; with_reducible exact H) | (have H2_ := (Option.bind_some _ _).symm.trans H; rw [bq]; with_reducible exact H2_) | (have H2_ := (Option.bind_some _ _).symm.trans H; with_reducible exact H2_) | with_reducible exact H | (rw [bq]; exact H) | exact H
  have Ny294 := zK bq; clear bq
  obtain ⟨de, br⟩ : ∃ y_ : List (S69), y_ = (([] : List (S69))) := ⟨_, rfl⟩
  replace H : (spec_l05Copy.l0 k de 0 ag a0_1 ae af) = some (r1, r2, r3, r4) := by first | (rw [br]; with_reducible exact H) | (have H2_ := (Option.bind_some _ _).symm.trans H; rw [br]; with_reducible exact H2_) | (have H2_ := (Option.bind_some _ _).symm.trans H; with_reducible exact H2_) | with_reducible exact H | (rw [br]; exact H) | exact H
  have Ny297 := zK br; clear br; have H' := zK H; clear H
  go_enter Try.func68, Try.ntmps68
  go_wp2_with (first | ((with_reducible refine gate_dst (N := 1) rfl ?_); refine box_event ?hg (N := 1) ?hd (cs := #[.slice bf aI.length bg, .int .i64 a0_1, .slice a4 ae.length aA, .slice ay af.length aw]) (t := 28) ?hr ?_; (case hd => rfl); (case hg => rfl); (case hr => first | (go_simp; done) | (go_simp; rfl)); intro ad hg w3 hbox hb; have aC := zK (below_step (zb HB) hb); have aD := zK (hbox); have aE := zK ((by rw [hg]; exact (below_size (zb HB)) : w.heap.size ≤ ad)); have aG := zK ((by rw [hg]; exact (below_size (zb HB)) : w.heap.size ≤ ad)); clear HB; have HB := aC; have aa := aD; have GW289 := aE; have aq := aG; clear aC aD aE aG; clear hb hbox hg) | ((with_reducible refine gate_dst (N := 2) rfl ?_); refine box_event ?hg (N := 2) ?hd (cs := #[.slice none 0 0, .int .i64 0, .slice none 0 0, .slice none 0 0]) (t := 28) ?hr ?_; (case hd => rfl); (case hg => rfl); (case hr => first | (go_simp; done) | (go_simp; rfl)); intro ah hg w4 hbox hb; have aC := zK (blk_below (g := ad) (o := .cells #[.slice bf aI.length bg, .int .i64 a0_1, .slice a4 ae.length aA, .slice ay af.length aw] 28 (0, 0)) (zk aa) hb); have aD := zK (below_step (zb HB) hb); have aE := zK (hbox); have aG := zK ((by rw [hg]; exact (below_size (zb HB)) : w.heap.size ≤ ah)); have aW := zK ((by rw [hg]; exact (below_size (zb HB)) : w.heap.size ≤ ah)); have aZ := zK ((by rw [hg]; exact Nat.ne_of_lt (blk_lt (g := ad) (o := .cells #[.slice bf aI.length bg, .int .i64 a0_1, .slice a4 ae.length aA, .slice ay af.length aw] 28 (0, 0)) (zk aa)) : ad ≠ ah)); have a7 := zK ((by rw [hg]; exact Nat.ne_of_gt (blk_lt (g := ad) (o := .cells #[.slice bf aI.length bg, .int .i64 a0_1, .slice a4 ae.length aA, .slice ay af.length aw] 28 (0, 0)) (zk aa)) : ah ≠ ad)); clear aa; clear HB; have aa := aC; have HB := aD; have ac := aE; have GW290 := aG; have ar := aW; have aM := aZ; have ax := a7; clear aC aD aE aG aW aZ a7; clear hb hbox hg) | ((with_reducible refine gate_dst (N := 9) rfl ?_); refine Kd.R_lit (Kd.int .i64) _ 3 ?hg (N := 9) ?hd (xs := ([] : List Int)) (inner := []) (ok := fun _ => True) (okp := fun _ => True) ?hr ?hp (fun _ hk => hk) trivial (Below.refl _ _) (Nat.le_refl _) (by simp) ?_; (case hd => rfl); (case hg => rfl); (case hr => first | (go_simp; done) | (go_simp; rfl)); (case hp => exact (Reps.none _ _)); intro v292 w5 ho6 hb hg_ hnew_; clear hg_ hnew_; (first | rw [← Ny291.out] at ho6 | (simp only [Int.reduceToNat] at ho6; rw [← Ny291.out] at ho6)); have aC := zK (Kd.R_lower ho6 (below_size (zb HB))); have aD := zK (blk_below (g := ad) (o := .cells #[.slice bf aI.length bg, .int .i64 a0_1, .slice a4 ae.length aA, .slice ay af.length aw] 28 (0, 0)) (zk aa) hb); have aE := zK (blk_below (g := ah) (o := .cells #[.slice none 0 0, .int .i64 0, .slice none 0 0, .slice none 0 0] 28 (0, 0)) (zk ac) hb); have aG := zK (below_step (zb HB) hb); clear aa; clear ac; clear HB; have bF := aC; have aa := aD; have ac := aE; have HB := aG; clear aC aD aE aG; clear hb ho6; have hnb7 := aM.out; have hnc7 := ax.out; have bX : w5.cell? ⟨ad, 0, none⟩ = some (.slice bf aI.length bg) := (blk_cell aa.out 0).trans rfl; have bY : w5.cell? ⟨ad, 1, none⟩ = some (.int .i64 a0_1) := (blk_cell aa.out 1).trans rfl; have bZ : w5.cell? ⟨ad, 2, none⟩ = some (.slice a4 ae.length aA) := (blk_cell aa.out 2).trans rfl; have b0 : w5.cell? ⟨ad, 3, none⟩ = some (.slice ay af.length aw) := (blk_cell aa.out 3).trans rfl; have b1 := blk_frozen aa.out 0; have b2 := blk_frozen aa.out 1; have b3 := blk_frozen aa.out 2; have b4 := blk_frozen aa.out 3) | ((with_reducible refine gate_builtin (b := .append) (xs := #[.tmp 9, .tmp 11]) rfl ?_); at_builtin; refine Kd.R_append_rows (Kd.int .i64) (w0 := w) w.heap.size rfl (.tmp 9) (.tmp 11) 24 3 (.int .i64 0) 8 rfl Try.underlying24 info3 rfl (by decide) (by omega) v292 bo aI _ _ _ (fun _ => True) (fun _ => False) rfl rfl ?aO ?aR (fun _ _ h => h) (fun _ h => h.elim) ?aF ?aB ?aS ?aL ?_; (case aR => repeat (first | exact (Kd.C_below db.out HB.out) | (with_reducible refine Kd.C_alloc ?_ _) | (with_reducible refine Kd.C_drewN ?_ _) | (with_reducible refine Kd.C_drew ?_))); (case aB => exact (zb HB)); (case aF => exact (fun _ _ => trivial)); (case aO => exact (zR bF)); (case aS => exact (below_size (zb HB))); (case aL => have := LMc2.out; omega); intro v295 w9 ho hb hg hat; rw [← Ny294.out] at ho; have aC := zK (blk_grown (g := ad) (o := .cells #[.slice bf aI.length bg, .int .i64 a0_1, .slice a4 ae.length aA, .slice ay af.length aw] 28 (0, 0)) (zk aa) hg (Kd.R_ne bF.out aa.out (by decide))); have aD := zK (blk_grown (g := ah) (o := .cells #[.slice none 0 0, .int .i64 0, .slice none 0 0, .slice none 0 0] 28 (0, 0)) (zk ac) hg (Kd.R_ne bF.out ac.out (by decide))); have aE := zK (hb); have aG := zK (ho); clear aa; clear ac; clear HB; clear bF; have aa := aC; have ac := aD; have HB := aE; have bl := aG; clear aC aD aE aG; clear ho hb hg hat; obtain ⟨ao, ap, eo10⟩ := Kd.R_slice bl.out; subst eo10; have bG : w9.cell? ⟨ad, 0, none⟩ = some (.slice bf aI.length bg) := (blk_cell aa.out 0).trans rfl; have bH : w9.cell? ⟨ad, 1, none⟩ = some (.int .i64 a0_1) := (blk_cell aa.out 1).trans rfl; have bI : w9.cell? ⟨ad, 2, none⟩ = some (.slice a4 ae.length aA) := (blk_cell aa.out 2).trans rfl; have bJ : w9.cell? ⟨ad, 3, none⟩ = some (.slice ay af.length aw) := (blk_cell aa.out 3).trans rfl; have bK := blk_frozen aa.out 0; have bL := blk_frozen aa.out 1; have bM := blk_frozen aa.out 2; have bN := blk_frozen aa.out 3) | ((with_reducible refine gate_dst (N := 14) rfl ?_); refine Kd.S_lit k69 _ 69 ?hg (N := 14) ?hd (xs := ([] : List (S69))) (inner := []) (ok := fun _ => True) (okp := fun _ => True) ?hr ?hp (fun _ hk => hk) trivial (Below.refl _ _) (Nat.le_refl _) (by simp) ?_; (case hd => rfl); (case hg => rfl); (case hr => first | (go_simp; done) | (go_simp; rfl)); (case hp => exact (Reps.none _ _)); intro v298 w12 ho13 hb hg_ hnew_; clear hg_ hnew_; (first | rw [← Ny297.out] at ho13 | (simp only [Int.reduceToNat] at ho13; rw [← Ny297.out] at ho13)); have aC := zK (Kd.R_below (by (with_reducible repeat (first | apply Kd.R_alloc | apply Kd.R_drewN | apply Kd.R_drew)); exact (Kd.R_mono (Kd.R_far (p := ⟨ad, 0, none⟩) (Kd.R_types bl.out aa.out (by decide)) (fun _ hk => hk.2) (.slice ao ag.length ap)) (fun _ h_ => h_.1))) hb); have aD := zK (Kd.S_lower (Kd.S_new' ho13 (Kd.R_lt (by (with_reducible repeat (first | apply Kd.R_alloc | apply Kd.R_drewN | apply Kd.R_drew)); exact (Kd.R_mono (Kd.R_far (p := ⟨ad, 0, none⟩) (Kd.R_types bl.out aa.out (by decide)) (fun _ hk => hk.2) (.slice ao ag.length ap)) (fun _ h_ => h_.1))))) (below_size (zb HB))); have aE := zK (blk_below (g := ad) (o := .cells #[.slice ao ag.length ap, .int .i64 a0_1, .slice a4 ae.length aA, .slice ay af.length aw] 28 (0, 0)) (by (with_reducible repeat (first | refine zN ?_ _ | refine zD ?_ | refine zA ?_ _)); refine blk_put (cs := #[.slice bf aI.length bg, .int .i64 a0_1, .slice a4 ae.length aA, .slice ay af.length aw]) ?_ 0 _ rfl; (with_reducible repeat (first | refine zN ?_ _ | refine zD ?_ | refine zA ?_ _)); exact aa.out) hb); have aG := zK (blk_below (g := ah) (o := .cells #[.slice none 0 0, .int .i64 0, .slice none 0 0, .slice none 0 0] 28 (0, 0)) (by (with_reducible repeat (first | refine zN ?_ _ | refine zD ?_ | refine zA ?_ _)); refine blk_far ?_ ax.out _; (with_reducible repeat (first | refine zN ?_ _ | refine zD ?_ | refine zA ?_ _)); exact ac.out) hb); have aW := zK (below_step (zb HB) hb); clear bl; clear aa; clear ac; clear HB; have bl := aC; have df := aD; have aa := aE; have ac := aG; have HB := aW; clear aC aD aE aG aW; clear hb ho13))
  go_loopg [3, 4] k (fun kq v3 v4 w' => ∃ (av : List (S69)) (ai : Int), v4 = .int .i64 ai ∧ Aside0 (spec_l05Copy.l0 kq av ai ag a0_1 ae af = some (r1, r2, r3, r4)) ∧ Aside0 (kq ≤ k) ∧ Aside0 (Kd.S k69 69 w' w.heap.size (fun k_ => some k_ ≠ ((.slice ao ag.length ap) : Value).ownBlock) v3 av) ∧ Aside0 (Kd.R (Kd.int .i64) 3 w' w.heap.size (fun _ => True) (.slice ao ag.length ap) ag) ∧ Aside0 (w'.heap[ad]? = some (.cells #[(.slice ao ag.length ap), .int .i64 a0_1, (.slice a4 ae.length aA), (.slice ay af.length aw)] 28 (0, 0))) ∧ Aside0 (w'.heap[ah]? = some (.cells #[(.slice none 0 0), .int .i64 0, (.slice none 0 0), (.slice none 0 0)] 28 (0, 0))) ∧ Aside0 (Below w.heap.size w w'))
  case atStart => exact ⟨(de), (0), (by first | rfl | (simp; done) | (simp [*]; done)), H', ⟨Nat.le_refl _⟩, ⟨by (with_reducible repeat (first | apply Kd.S_alloc | apply Kd.S_drewN | apply Kd.S_drew)); exact Kd.S_mono df.out (fun _ hk => hk.2)⟩, ⟨zR bl⟩, ⟨zk aa⟩, ⟨zk ac⟩, ⟨zb HB⟩⟩
  case round =>
   clear H'
   try clear c2
   try clear p2
   try clear c6
   try clear c7
   try clear bG
   try clear bH
   try clear bI
   try clear bJ
   try clear bX
   try clear bY
   try clear bZ
   try clear b0
   try clear bK
   try clear bL
   try clear bM
   try clear bN
   try clear b1
   try clear b2
   try clear b3
   try clear b4
   obtain ⟨av, ai, rfl, HA, HK1, az, ab, aa, ac, HB⟩ := hrel
   cases gk with
   | zero => exact absurd HA.out (by simp [spec_l05Copy.l0])
   | succ k1 =>
    have H := HA.out; clear HA
    simp only [spec_l05Copy.l0] at H
    by_cases cY : ai < (ae.length : Int)
    ·rw [if_pos cY] at H
     have cX : decide (ai < (ae.length : Int)) = true := decide_eq_true cY
     clear cY
     by_cases dg : 0 ≤ ai
     ·rw [if_pos dg] at H
      have dh : decide (0 ≤ ai) = true := decide_eq_true dg
      clear dg
      obtain ⟨b5, bs⟩ : ∃ y_ : List Int, y_ = (([] : List Int)) := ⟨_, rfl⟩
      replace H : (if b5.length + ((rd_T69 ae ai).f2).length < 17592186044416 then (if av.length < 3518437208883 then (spec_l05Copy.l0 k1 (av ++ [(⟨(rd_T69 ae ai).f0, (rd_T69 ae ai).f1, (b5 ++ ((rd_T69 ae ai).f2))⟩ : S69)]) (wrap64 (ai + 1)) ag a0_1 ae af) else (none)) else (none)) = some (r1, r2, r3, r4) := by first | (rw [bs]; with_reducible exact H) | (have H2_ := (Option.bind_some _ _).symm.trans H; rw [bs]; with_reducible exact H2_) | (have H2_ := (Option.bind_some _ _).symm.trans H; with_reducible exact H2_) | with_reducible exact H | (rw [bs]; exact H) | exact H
      have Ny302 := zK bs; clear bs
      by_cases di : b5.length + ((rd_T69 ae ai).f2).length < 17592186044416
      ·rw [if_pos di] at H
       have dj := zK di; clear di
       obtain ⟨aX, bu⟩ : ∃ y_ : List Int, y_ = (b5 ++ ((rd_T69 ae ai).f2)) := ⟨_, rfl⟩
       replace H : (if av.length < 3518437208883 then (spec_l05Copy.l0 k1 (av ++ [(⟨(rd_T69 ae ai).f0, (rd_T69 ae ai).f1, aX⟩ : S69)]) (wrap64 (ai + 1)) ag a0_1 ae af) else (none)) = some (r1, r2, r3, r4) := by first | (rw [bu]; with_reducible exact H) | (have H2_ := (Option.bind_some _ _).symm.trans H; rw [bu]; with_reducible exact H2_) | (have H2_ := (Option.bind_some _ _).symm.trans H; with_reducible exact H2_) | with_reducible exact H | (rw [bu]; exact H) | exact H
       have Ny305 := zK bu; clear bu
       by_cases dk : av.length < 3518437208883
       ·rw [if_pos dk] at H
        have dl := zK dk; clear dk
        obtain ⟨dm, bv⟩ : ∃ y_ : List (S69), y_ = (av ++ [(⟨(rd_T69 ae ai).f0, (rd_T69 ae ai).f1, aX⟩ : S69)]) := ⟨_, rfl⟩
        replace H : (spec_l05Copy.l0 k1 dm (wrap64 (ai + 1)) ag a0_1 ae af) = some (r1, r2, r3, r4) := by first | (rw [bv]; with_reducible exact H) | (have H2_ := (Option.bind_some _ _).symm.trans H; rw [bv]; with_reducible exact H2_) | (have H2_ := (Option.bind_some _ _).symm.trans H; with_reducible exact H2_) | with_reducible exact H | (rw [bv]; exact H) | exact H
        have Ny308 := zK bv; clear bv; have H' := zK H; clear H; have hnb18 := aM.out; have hnc18 := ax.out
        have cb : wr.cell? ⟨ad, 0, none⟩ = some (.slice ao ag.length ap) := (blk_cell aa.out 0).trans rfl
        have cc : wr.cell? ⟨ad, 1, none⟩ = some (.int .i64 a0_1) := (blk_cell aa.out 1).trans rfl
        have cd : wr.cell? ⟨ad, 2, none⟩ = some (.slice a4 ae.length aA) := (blk_cell aa.out 2).trans rfl
        have ce : wr.cell? ⟨ad, 3, none⟩ = some (.slice ay af.length aw) := (blk_cell aa.out 3).trans rfl
        have cf := blk_frozen aa.out 0; have cg := blk_frozen aa.out 1; have ch := blk_frozen aa.out 2; have ci := blk_frozen aa.out 3
        have cj : 0 ≤ (ai : Int) := zd
        have ck : ai < (ae.length : Int) := zd
        obtain ⟨bh, a0, a1, e300, bc, bd, be, bO, bP⟩ := at_T69 dc.out ai cj ck
        cases e300
        replace bc := (HB.out.cell (World.block_lt_of_cell? w _ bc)).trans bc
        replace bd := (HB.out.cell (World.block_lt_of_cell? w _ bd)).trans bd
        replace be := (HB.out.cell (World.block_lt_of_cell? w _ be)).trans be
        have cl := zK bP; have HC300_2 := zK bO; clear bP bO; replace cj := eq_true cj; replace ck := eq_true ck
        go_wp2_with (first | ((with_reducible refine gate_dst (N := 5) rfl ?_); refine box_event ?hg (N := 5) ?hd (cs := #[.int .i64 0, .int .i64 0, .slice none 0 0]) (t := 69) ?hr ?_; (case hd => rfl); (case hg => rfl); (case hr => first | (go_simp; done) | (go_simp; rfl)); intro aj hg w20 hbox hb; have aC := zK (Kd.S_below (Kd.S_elderB (zT az) aj (Nat.le_of_eq hg.symm)) hb); have aD := zK (Kd.R_below (zR ab) hb); have aE := zK (blk_below (g := ad) (o := .cells #[.slice ao ag.length ap, .int .i64 a0_1, .slice (some bh) ae.length aA, .slice ay af.length aw] 28 (0, 0)) (zk aa) hb); have aG := zK (blk_below (g := ah) (o := .cells #[.slice none 0 0, .int .i64 0, .slice none 0 0, .slice none 0 0] 28 (0, 0)) (zk ac) hb); have aW := zK (below_step (zb HB) hb); have aZ := zK (hbox); have a7 := zK ((by rw [hg]; exact (below_size (zb HB)) : w.heap.size ≤ aj)); have bQ := zK ((by rw [hg]; exact (below_size (zb HB)) : w.heap.size ≤ aj)); have dn := zK ((by rw [hg]; exact Nat.ne_of_lt (blk_lt (g := ad) (o := .cells #[.slice ao ag.length ap, .int .i64 a0_1, .slice (some bh) ae.length aA, .slice ay af.length aw] 28 (0, 0)) (zk aa)) : ad ≠ aj)); have dp := zK ((by rw [hg]; exact Nat.ne_of_gt (blk_lt (g := ad) (o := .cells #[.slice ao ag.length ap, .int .i64 a0_1, .slice (some bh) ae.length aA, .slice ay af.length aw] 28 (0, 0)) (zk aa)) : aj ≠ ad)); have b6 := zK ((by rw [hg]; exact Nat.ne_of_lt (blk_lt (g := ah) (o := .cells #[.slice none 0 0, .int .i64 0, .slice none 0 0, .slice none 0 0] 28 (0, 0)) (zk ac)) : ah ≠ aj)); have b7 := zK ((by rw [hg]; exact Nat.ne_of_gt (blk_lt (g := ah) (o := .cells #[.slice none 0 0, .int .i64 0, .slice none 0 0, .slice none 0 0] 28 (0, 0)) (zk ac)) : aj ≠ ah)); clear az; clear ab; clear aa; clear ac; clear HB; have az := aC; have ab := aD; have aa := aE; have ac := aG; have HB := aW; have ak := aZ; have GW301 := a7; have ba := bQ; have aN := dn; have bT := dp; have aQ := b6; have bU := b7; clear aC aD aE aG aW aZ a7 bQ dn dp b6 b7; clear hb hbox hg; have hnb21 := bT.out; have hnc21 := aN.out; have hnb22 := bU.out; have hnc22 := aQ.out; have cm : w20.cell? ⟨aj, 0, none⟩ = some (.int .i64 0) := (blk_cell ak.out 0).trans rfl; have cn : w20.cell? ⟨aj, 1, none⟩ = some (.int .i64 0) := (blk_cell ak.out 1).trans rfl; have co : w20.cell? ⟨aj, 2, none⟩ = some (.slice none 0 0) := (blk_cell ak.out 2).trans rfl; have cp := blk_frozen ak.out 0; have cq := blk_frozen ak.out 1; have cr := blk_frozen ak.out 2) | ((with_reducible refine gate_dst (N := 27) rfl ?_); refine Kd.R_lit (Kd.int .i64) _ 3 ?hg (N := 27) ?hd (xs := ([] : List Int)) (inner := []) (ok := fun _ => True) (okp := fun _ => True) ?hr ?hp (fun _ hk => hk) trivial (Below.refl _ _) (Nat.le_refl _) (by simp) ?_; (case hd => rfl); (case hg => rfl); (case hr => first | (go_simp; done) | (go_simp; rfl)); (case hp => exact (Reps.none _ _)); intro v303 w24 ho25 hb hg_ hnew_; clear hg_ hnew_; (first | rw [← Ny302.out] at ho25 | (simp only [Int.reduceToNat] at ho25; rw [← Ny302.out] at ho25)); have aC := zK (Kd.S_elder' (by (with_reducible repeat (first | apply Kd.S_alloc | apply Kd.S_drewN | apply Kd.S_drew)); exact (Kd.S_mono (Kd.S_far (p := ⟨aj, 2, none⟩) (Kd.S_far (p := ⟨aj, 1, none⟩) (Kd.S_far (p := ⟨aj, 0, none⟩) (Kd.S_mono az.out (fun k_ hk => (⟨hk, hk.2⟩ : _ ∧ k_ ≠ aj))) (fun _ hk => hk.2) (.int .i64 ((rd_T69 ae ai).f0))) (fun _ hk => hk.2) (.int .i64 ((rd_T69 ae ai).f1))) (fun _ hk => hk.2) (.slice a0 ((rd_T69 ae ai).f2).length a1)) (fun _ h_ => h_.1))) (Kd.R_base ho25) hb); have aD := zK (Kd.R_elder' (by (with_reducible repeat (first | apply Kd.R_alloc | apply Kd.R_drewN | apply Kd.R_drew)); exact (Kd.R_mono (Kd.R_far (p := ⟨aj, 2, none⟩) (Kd.R_far (p := ⟨aj, 1, none⟩) (Kd.R_far (p := ⟨aj, 0, none⟩) (Kd.R_types ab.out ak.out (by decide)) (fun _ hk => hk.2) (.int .i64 ((rd_T69 ae ai).f0))) (fun _ hk => hk.2) (.int .i64 ((rd_T69 ae ai).f1))) (fun _ hk => hk.2) (.slice a0 ((rd_T69 ae ai).f2).length a1)) (fun _ h_ => h_.1))) (Kd.R_base ho25) hb); have aE := zK (Kd.R_lower (Kd.R_new' ho25 (Kd.R_lt (by (with_reducible repeat (first | apply Kd.R_alloc | apply Kd.R_drewN | apply Kd.R_drew)); exact (Kd.R_mono (Kd.R_far (p := ⟨aj, 2, none⟩) (Kd.R_far (p := ⟨aj, 1, none⟩) (Kd.R_far (p := ⟨aj, 0, none⟩) (Kd.R_types ab.out ak.out (by decide)) (fun _ hk => hk.2) (.int .i64 ((rd_T69 ae ai).f0))) (fun _ hk => hk.2) (.int .i64 ((rd_T69 ae ai).f1))) (fun _ hk => hk.2) (.slice a0 ((rd_T69 ae ai).f2).length a1)) (fun _ h_ => h_.1))))) (below_size (zb HB))); have aG := zK (blk_below (g := ad) (o := .cells #[.slice ao ag.length ap, .int .i64 a0_1, .slice (some bh) ae.length aA, .slice ay af.length aw] 28 (0, 0)) (by (with_reducible repeat (first | refine zN ?_ _ | refine zD ?_ | refine zA ?_ _)); refine blk_far ?_ aN.out _; (with_reducible repeat (first | refine zN ?_ _ | refine zD ?_ | refine zA ?_ _)); refine blk_far ?_ aN.out _; (with_reducible repeat (first | refine zN ?_ _ | refine zD ?_ | refine zA ?_ _)); refine blk_far ?_ aN.out _; (with_reducible repeat (first | refine zN ?_ _ | refine zD ?_ | refine zA ?_ _)); exact aa.out) hb); have aW := zK (blk_below (g := ah) (o := .cells #[.slice none 0 0, .int .i64 0, .slice none 0 0, .slice none 0 0] 28 (0, 0)) (by (with_reducible repeat (first | refine zN ?_ _ | refine zD ?_ | refine zA ?_ _)); refine blk_far ?_ aQ.out _; (with_reducible repeat (first | refine zN ?_ _ | refine zD ?_ | refine zA ?_ _)); refine blk_far ?_ aQ.out _; (with_reducible repeat (first | refine zN ?_ _ | refine zD ?_ | refine zA ?_ _)); refine blk_far ?_ aQ.out _; (with_reducible repeat (first | refine zN ?_ _ | refine zD ?_ | refine zA ?_ _)); exact ac.out) hb); have aZ := zK (blk_below (g := aj) (o := .cells #[.int .i64 ((rd_T69 ae ai).f0), .int .i64 ((rd_T69 ae ai).f1), .slice a0 ((rd_T69 ae ai).f2).length a1] 69 (0, 0)) (by (with_reducible repeat (first | refine zN ?_ _ | refine zD ?_ | refine zA ?_ _)); refine blk_put (cs := #[.int .i64 ((rd_T69 ae ai).f0), .int .i64 ((rd_T69 ae ai).f1), .slice none 0 0]) ?_ 2 _ rfl; (with_reducible repeat (first | refine zN ?_ _ | refine zD ?_ | refine zA ?_ _)); refine blk_put (cs := #[.int .i64 ((rd_T69 ae ai).f0), .int .i64 0, .slice none 0 0]) ?_ 1 _ rfl; (with_reducible repeat (first | refine zN ?_ _ | refine zD ?_ | refine zA ?_ _)); refine blk_put (cs := #[.int .i64 0, .int .i64 0, .slice none 0 0]) ?_ 0 _ rfl; (with_reducible repeat (first | refine zN ?_ _ | refine zD ?_ | refine zA ?_ _)); exact ak.out) hb); have a7 := zK (below_step (zb HB) hb); clear az; clear ab; clear aa; clear ac; clear ak; clear HB; have az := aC; have ab := aD; have bw := aE; have aa := aG; have ac := aW; have ak := aZ; have HB := a7; clear aC aD aE aG aW aZ a7; clear hb ho25; have ct : w24.cell? ⟨aj, 0, none⟩ = some (.int .i64 ((rd_T69 ae ai).f0)) := (blk_cell ak.out 0).trans rfl; have cu : w24.cell? ⟨aj, 1, none⟩ = some (.int .i64 ((rd_T69 ae ai).f1)) := (blk_cell ak.out 1).trans rfl; have cv : w24.cell? ⟨aj, 2, none⟩ = some (.slice a0 ((rd_T69 ae ai).f2).length a1) := (blk_cell ak.out 2).trans rfl; have cw := blk_frozen ak.out 0; have cx := blk_frozen ak.out 1; have cy := blk_frozen ak.out 2) | ((with_reducible refine gate_builtin (b := .append) (xs := #[.tmp 27, .tmp 29]) rfl ?_); at_builtin; refine Kd.R_append_rows (Kd.int .i64) (w0 := w) w.heap.size rfl (.tmp 27) (.tmp 29) 24 3 (.int .i64 0) 8 rfl Try.underlying24 info3 rfl (by decide) (by omega) v303 b5 ((rd_T69 ae ai).f2) _ _ _ (fun k_ => some k_ ≠ (.slice ao ag.length ap : Value).ownBlock) (fun _ => False) rfl rfl ?aO ?aR (fun _ _ h => h) (fun _ h => h.elim) ?aF ?aB ?aS ?aL ?_; (case aR => repeat (first | exact (Kd.C_below cl.out HB.out) | (with_reducible refine Kd.C_alloc ?_ _) | (with_reducible refine Kd.C_drewN ?_ _) | (with_reducible refine Kd.C_drew ?_))); (case aB => exact (zb HB)); (case aF => exact (fun k_ hk => Kd.fresh' (Kd.R_lt (zR ab)) k_ hk)); (case aO => exact (by (with_reducible repeat (first | apply Kd.R_alloc | apply Kd.R_drewN | apply Kd.R_drew)); exact Kd.R_mono bw.out (fun _ hk => hk.2))); (case aS => exact (below_size (zb HB))); (case aL => have := dj.out; omega); intro v306 w27 ho hb hg hat; rw [← Ny305.out] at ho; have aC := zK (Kd.S_after (ok := (fun k_ => some k_ ≠ (.slice ao ag.length ap : Value).ownBlock ∧ k_ ≠ aj)) (zT az) hg hat); have aD := zK (Kd.R_after (ok := (fun _ => True)) (zR ab) hg hat); have aE := zK (blk_grown (g := ad) (o := .cells #[.slice ao ag.length ap, .int .i64 a0_1, .slice (some bh) ae.length aA, .slice ay af.length aw] 28 (0, 0)) (zk aa) hg (Kd.R_ne bw.out aa.out (by decide))); have aG := zK (blk_grown (g := ah) (o := .cells #[.slice none 0 0, .int .i64 0, .slice none 0 0, .slice none 0 0] 28 (0, 0)) (zk ac) hg (Kd.R_ne bw.out ac.out (by decide))); have aW := zK (blk_grown (g := aj) (o := .cells #[.int .i64 ((rd_T69 ae ai).f0), .int .i64 ((rd_T69 ae ai).f1), .slice a0 ((rd_T69 ae ai).f2).length a1] 69 (0, 0)) (zk ak) hg (Kd.R_ne bw.out ak.out (by decide))); have aZ := zK (hb); have a7 := zK (ho); clear az; clear ab; clear aa; clear ac; clear ak; clear HB; clear bw; have az := aC; have ab := aD; have aa := aE; have ac := aG; have ak := aW; have HB := aZ; have bi := a7; clear aC aD aE aG aW aZ a7; clear ho hb hg hat; obtain ⟨a8, a9, eo28⟩ := Kd.R_slice bi.out; subst eo28; have cz : w27.cell? ⟨aj, 0, none⟩ = some (.int .i64 ((rd_T69 ae ai).f0)) := (blk_cell ak.out 0).trans rfl; have cA : w27.cell? ⟨aj, 1, none⟩ = some (.int .i64 ((rd_T69 ae ai).f1)) := (blk_cell ak.out 1).trans rfl; have cB : w27.cell? ⟨aj, 2, none⟩ = some (.slice a0 ((rd_T69 ae ai).f2).length a1) := (blk_cell ak.out 2).trans rfl; have cC := blk_frozen ak.out 0; have cD := blk_frozen ak.out 1; have cE := blk_frozen ak.out 2) | ((with_reducible refine gate_store (t := 24) (p := 31) rfl ?_); refine store_event (t := 24) (p := 31) (v := ?vo_w30) (w1 := (w27.setCell ⟨aj, 2, none⟩ (.slice a8 aX.length a9))) ?hg ?ho ?hn ?hr ?_; (case ho => rfl); (case hg => rfl); (case hn => rfl); (case hr => first | (go_simp; done) | (go_simp; rfl)); intro b9 hw; have aC : Aside0 (Kd.S k69 69 b9 w.heap.size (fun k_ => some k_ ≠ (.slice ao ag.length ap : Value).ownBlock ∧ some k_ ≠ (.slice a8 aX.length a9 : Value).ownBlock ∧ k_ ≠ aj) u3 av) := ⟨(by rw [hw]; exact (by (with_reducible repeat (first | apply Kd.S_alloc | apply Kd.S_drewN | apply Kd.S_drew)); exact Kd.S_mono (Kd.S_far (p := ⟨aj, 2, none⟩) (Kd.S_mono az.out (fun k_ hk => (⟨hk, hk.1.2⟩ : _ ∧ k_ ≠ aj))) (fun _ hk => hk.2) (.slice a8 aX.length a9)) (fun _ hk => ⟨hk.1.1.1, ⟨hk.1.2, hk.1.1.2⟩⟩)))⟩; have aD : Aside0 (Kd.R (Kd.int .i64) 3 b9 w.heap.size (fun k_ => some k_ ≠ (.slice a8 aX.length a9 : Value).ownBlock) (.slice ao ag.length ap) ag) := ⟨(by rw [hw]; exact (by (with_reducible repeat (first | apply Kd.R_alloc | apply Kd.R_drewN | apply Kd.R_drew)); exact Kd.R_mono (Kd.R_far (p := ⟨aj, 2, none⟩) (Kd.R_types ab.out ak.out (by decide)) (fun _ hk => hk.2) (.slice a8 aX.length a9)) (fun _ hk => hk.1.2)))⟩; have aE : Aside0 (Kd.R (Kd.int .i64) 3 b9 w.heap.size (fun k_ => some k_ ≠ (.slice ao ag.length ap : Value).ownBlock) (.slice a8 aX.length a9) aX) := ⟨(by rw [hw]; exact (by (with_reducible repeat (first | apply Kd.R_alloc | apply Kd.R_drewN | apply Kd.R_drew)); exact Kd.R_mono (Kd.R_far (p := ⟨aj, 2, none⟩) (Kd.R_types bi.out ak.out (by decide)) (fun _ hk => hk.2) (.slice a8 aX.length a9)) (fun _ hk => hk.1)))⟩; have aG : Aside0 (b9.heap[ad]? = some (.cells #[.slice ao ag.length ap, .int .i64 a0_1, .slice (some bh) ae.length aA, .slice ay af.length aw] 28 (0, 0))) := ⟨(by rw [hw]; exact (by (with_reducible repeat (first | refine zN ?_ _ | refine zD ?_ | refine zA ?_ _)); refine blk_far ?_ aN.out _; (with_reducible repeat (first | refine zN ?_ _ | refine zD ?_ | refine zA ?_ _)); exact aa.out))⟩; have aW : Aside0 (b9.heap[ah]? = some (.cells #[.slice none 0 0, .int .i64 0, .slice none 0 0, .slice none 0 0] 28 (0, 0))) := ⟨(by rw [hw]; exact (by (with_reducible repeat (first | refine zN ?_ _ | refine zD ?_ | refine zA ?_ _)); refine blk_far ?_ aQ.out _; (with_reducible repeat (first | refine zN ?_ _ | refine zD ?_ | refine zA ?_ _)); exact ac.out))⟩; have aZ : Aside0 (b9.heap[aj]? = some (.cells #[.int .i64 ((rd_T69 ae ai).f0), .int .i64 ((rd_T69 ae ai).f1), .slice a8 aX.length a9] 69 (0, 0))) := ⟨(by rw [hw]; exact (by (with_reducible repeat (first | refine zN ?_ _ | refine zD ?_ | refine zA ?_ _)); refine blk_put (cs := #[.int .i64 ((rd_T69 ae ai).f0), .int .i64 ((rd_T69 ae ai).f1), .slice a0 ((rd_T69 ae ai).f2).length a1]) ?_ 2 _ rfl; (with_reducible repeat (first | refine zN ?_ _ | refine zD ?_ | refine zA ?_ _)); exact ak.out))⟩; have a7 : Aside0 (Below w.heap.size w b9) := ⟨(by rw [hw]; exact (zb HB))⟩; clear hw; clear az; clear ab; clear bi; clear aa; clear ac; clear ak; clear HB; have az := aC; have ab := aD; have bi := aE; have aa := aG; have ac := aW; have ak := aZ; have HB := a7; clear aC aD aE aG aW aZ a7; have cF : b9.cell? ⟨aj, 0, none⟩ = some (.int .i64 ((rd_T69 ae ai).f0)) := (blk_cell ak.out 0).trans rfl; have cG : b9.cell? ⟨aj, 1, none⟩ = some (.int .i64 ((rd_T69 ae ai).f1)) := (blk_cell ak.out 1).trans rfl; have cH : b9.cell? ⟨aj, 2, none⟩ = some (.slice a8 aX.length a9) := (blk_cell ak.out 2).trans rfl; have cI := blk_frozen ak.out 0; have cJ := blk_frozen ak.out 1; have cK := blk_frozen ak.out 2) | ((with_reducible refine gate_builtin (b := .append) (xs := #[.tmp 32, .tmp 34]) rfl ?_); at_builtin; refine Kd.S_append k69 (w0 := w) w.heap.size rfl (.tmp 32) (.tmp 34) 25 69 (.agg #[(.int .i64 0), (.int .i64 0), (.slice none 0 0)]) 40 rfl Try.underlying25 info69 rfl (by decide) (by omega) u3 av (⟨(rd_T69 ae ai).f0, (rd_T69 ae ai).f1, aX⟩ : S69) [.int .i64 ((rd_T69 ae ai).f0), .int .i64 ((rd_T69 ae ai).f1), .slice a8 aX.length a9] (fun k_ => some k_ ≠ (.slice ao ag.length ap : Value).ownBlock ∧ k_ ≠ aj) (fun k_ => some k_ = (.slice a8 aX.length a9 : Value).ownBlock) rfl rfl ?aP (fun k_ hk_ => ((Kd.R_mono (ok' := fun k_ => ((fun k_ => some k_ ≠ (.slice ao ag.length ap : Value).ownBlock ∧ k_ ≠ aj)) k_ ∧ some k_ ≠ (u3 : Value).ownBlock) (Kd.R_types (Kd.R_apart' (bi.out) (Kd.S_typed az.out) (by decide)) ak.out (by decide)) (fun k_ hk => ⟨⟨hk.1.1, hk.2⟩, hk.1.2⟩))).1 k_ hk_.symm) ?aF ?aO ?aB ?aS ?aL ?_; (case aP => exact k69_mkM _ _ _ (⟨(rd_T69 ae ai).f0, (rd_T69 ae ai).f1, aX⟩ : S69) (Kd.R_mono (Kd.R_tight rfl (Kd.R_mono (ok' := fun k_ => ((fun k_ => some k_ ≠ (.slice ao ag.length ap : Value).ownBlock ∧ k_ ≠ aj)) k_ ∧ some k_ ≠ (u3 : Value).ownBlock) (Kd.R_types (Kd.R_apart' (bi.out) (Kd.S_typed az.out) (by decide)) ak.out (by decide)) (fun k_ hk => ⟨⟨hk.1.1, hk.2⟩, hk.1.2⟩))) (fun _ h_ => h_))); (case aB => exact (zb HB)); (case aF => exact (fun k_ hk => ⟨Kd.fresh' (Kd.R_lt (zR ab)) k_ hk, Kd.freshB (g := aj) (o := .cells #[.int .i64 ((rd_T69 ae ai).f0), .int .i64 ((rd_T69 ae ai).f1), .slice a8 aX.length a9] 69 (0, 0)) (zk ak) k_ hk⟩)); (case aO => exact (by (with_reducible repeat (first | apply Kd.S_alloc | apply Kd.S_drewN | apply Kd.S_drew)); exact Kd.S_mono az.out (fun k_ hk => ⟨⟨hk.1, hk.2.2⟩, fun e_ => hk.2.1 e_⟩))); (case aS => exact (below_size (zb HB))); (case aL => have := dl.out; omega); intro v309 w32 ho hb hg hat; rw [← Ny308.out] at ho; have aC := zK (Kd.R_over' (zR ab) (Kd.S_typed (zT az)) (by decide) hg); have aD := zK (blk_grown (g := ad) (o := .cells #[.slice ao ag.length ap, .int .i64 a0_1, .slice (some bh) ae.length aA, .slice ay af.length aw] 28 (0, 0)) (zk aa) hg (Kd.S_ne az.out aa.out (by decide))); have aE := zK (blk_grown (g := ah) (o := .cells #[.slice none 0 0, .int .i64 0, .slice none 0 0, .slice none 0 0] 28 (0, 0)) (zk ac) hg (Kd.S_ne az.out ac.out (by decide))); have aG := zK (blk_grown (g := aj) (o := .cells #[.int .i64 ((rd_T69 ae ai).f0), .int .i64 ((rd_T69 ae ai).f1), .slice a8 aX.length a9] 69 (0, 0)) (zk ak) hg (Kd.S_away az.out (fun _ hk => hk.2.2))); have aW := zK (hb); have aZ := zK (ho); clear ab; clear aa; clear ac; clear ak; clear HB; clear az; clear bi; have ab := aC; have aa := aD; have ac := aE; have ak := aG; have HB := aW; have dq := aZ; clear aC aD aE aG aW aZ; clear ho hb hg hat))
        go_roundg k1
        case measure => have := HK1.out; omega
        case rel => exact ⟨(dm), (wrap64 (ai + 1)), (by first | rfl | (simp; done) | (simp [*]; done)), H', ⟨by have := HK1.out; omega⟩, ⟨by (with_reducible repeat (first | apply Kd.S_alloc | apply Kd.S_drewN | apply Kd.S_drew)); exact Kd.S_mono dq.out (fun _ hk => hk.1)⟩, ⟨by (with_reducible repeat (first | apply Kd.R_alloc | apply Kd.R_drewN | apply Kd.R_drew)); exact Kd.R_mono ab.out (fun _ hk => trivial)⟩, ⟨zk aa⟩, ⟨zk ac⟩, ⟨zb HB⟩⟩
       ·rw [if_neg dk] at H
        exact absurd H (by simp)
      ·rw [if_neg di] at H
       exact absurd H (by simp)
     ·rw [if_neg dg] at H
      exact absurd H (by simp)
    ·rw [if_neg cY] at H
     have cX : decide (ai < (ae.length : Int)) = false := decide_eq_false cY
     clear cY
     obtain ⟨dr, bx⟩ : ∃ y_ : List (S74), y_ = (([] : List (S74))) := ⟨_, rfl⟩
     replace H : (spec_l05Copy.l1 k1 dr 0 ag a0_1 av af) = some (r1, r2, r3, r4) := by first | (rw [bx]; with_reducible exact H) | (have H2_ := (Option.bind_some _ _).symm.trans H; rw [bx]; with_reducible exact H2_) | (have H2_ := (Option.bind_some _ _).symm.trans H; with_reducible exact H2_) | with_reducible exact H | (rw [bx]; exact H) | exact H
     have Ny311 := zK bx; clear bx; have H' := zK H; clear H; have hnb33 := aM.out; have hnc33 := ax.out
     have cL : wr.cell? ⟨ad, 0, none⟩ = some (.slice ao ag.length ap) := (blk_cell aa.out 0).trans rfl
     have cM : wr.cell? ⟨ad, 1, none⟩ = some (.int .i64 a0_1) := (blk_cell aa.out 1).trans rfl
     have cN : wr.cell? ⟨ad, 2, none⟩ = some (.slice a4 ae.length aA) := (blk_cell aa.out 2).trans rfl
     have cO : wr.cell? ⟨ad, 3, none⟩ = some (.slice ay af.length aw) := (blk_cell aa.out 3).trans rfl
     have cP := blk_frozen aa.out 0; have cQ := blk_frozen aa.out 1; have cR := blk_frozen aa.out 2; have cS := blk_frozen aa.out 3
     obtain ⟨aJ, aK, eo35⟩ := Kd.S_slice az.out
     subst eo35
     go_wp2_with (first | ((with_reducible refine gate_dst (N := 38) rfl ?_); refine Kd.S_lit k74 _ 74 ?hg (N := 38) ?hd (xs := ([] : List (S74))) (inner := []) (ok := fun _ => True) (okp := fun _ => True) ?hr ?hp (fun _ hk => hk) trivial (Below.refl _ _) (Nat.le_refl _) (by simp) ?_; (case hd => rfl); (case hg => rfl); (case hr => first | (go_simp; done) | (go_simp; rfl)); (case hp => exact (Reps.none _ _)); intro v312 w36 ho37 hb hg_ hnew_; clear hg_ hnew_; (first | rw [← Ny311.out] at ho37 | (simp only [Int.reduceToNat] at ho37; rw [← Ny311.out] at ho37)); have aC := zK (Kd.S_below (by (with_reducible repeat (first | apply Kd.S_alloc | apply Kd.S_drewN | apply Kd.S_drew)); exact (Kd.S_mono (Kd.S_far (p := ⟨ad, 2, none⟩) (Kd.S_types az.out aa.out (by decide)) (fun _ hk => hk.2) (.slice aJ av.length aK)) (fun _ h_ => h_.1))) hb); have aD := zK (Kd.R_below (by (with_reducible repeat (first | apply Kd.R_alloc | apply Kd.R_drewN | apply Kd.R_drew)); exact (Kd.R_mono (Kd.R_far (p := ⟨ad, 2, none⟩) (Kd.R_types ab.out aa.out (by decide)) (fun _ hk => hk.2) (.slice aJ av.length aK)) (fun _ h_ => h_.1))) hb); have aE := zK (Kd.S_lower (Kd.S_new' ho37 (Kd.R_lt (by (with_reducible repeat (first | apply Kd.R_alloc | apply Kd.R_drewN | apply Kd.R_drew)); exact (Kd.R_mono (Kd.R_far (p := ⟨ad, 2, none⟩) (Kd.R_types ab.out aa.out (by decide)) (fun _ hk => hk.2) (.slice aJ av.length aK)) (fun _ h_ => h_.1))))) (below_size (zb HB))); have aG := zK (blk_below (g := ad) (o := .cells #[.slice ao ag.length ap, .int .i64 a0_1, .slice aJ av.length aK, .slice ay af.length aw] 28 (0, 0)) (by (with_reducible repeat (first | refine zN ?_ _ | refine zD ?_ | refine zA ?_ _)); refine blk_put (cs := #[.slice ao ag.length ap, .int .i64 a0_1, .slice a4 ae.length aA, .slice ay af.length aw]) ?_ 2 _ rfl; (with_reducible repeat (first | refine zN ?_ _ | refine zD ?_ | refine zA ?_ _)); exact aa.out) hb); have aW := zK (blk_below (g := ah) (o := .cells #[.slice none 0 0, .int .i64 0, .slice none 0 0, .slice none 0 0] 28 (0, 0)) (by (with_reducible repeat (first | refine zN ?_ _ | refine zD ?_ | refine zA ?_ _)); refine blk_far ?_ ax.out _; (with_reducible repeat (first | refine zN ?_ _ | refine zD ?_ | refine zA ?_ _)); exact ac.out) hb); have aZ := zK (below_step (zb HB) hb); clear az; clear ab; clear aa; clear ac; clear HB; have az := aC; have ab := aD; have ds := aE; have aa := aG; have ac := aW; have HB := aZ; clear aC aD aE aG aW aZ; clear hb ho37))
     go_loopg [6, 7] k1 (fun kq v6 v7 w' => ∃ (aY : List (S74)) (au : Int), v7 = .int .i64 au ∧ Aside0 (spec_l05Copy.l1 kq aY au ag a0_1 av af = some (r1, r2, r3, r4)) ∧ Aside0 (kq ≤ k1) ∧ Aside0 (Kd.S k74 74 w' w.heap.size (fun k_ => some k_ ≠ ((.slice ao ag.length ap) : Value).ownBlock) v6 aY) ∧ Aside0 (Kd.R (Kd.int .i64) 3 w' w.heap.size (fun _ => True) (.slice ao ag.length ap) ag) ∧ Aside0 (Kd.S k69 69 w' w.heap.size (fun k_ => some k_ ≠ ((.slice ao ag.length ap) : Value).ownBlock) (.slice aJ av.length aK) av) ∧ Aside0 (w'.heap[ad]? = some (.cells #[(.slice ao ag.length ap), .int .i64 a0_1, (.slice aJ av.length aK), (.slice ay af.length aw)] 28 (0, 0))) ∧ Aside0 (w'.heap[ah]? = some (.cells #[(.slice none 0 0), .int .i64 0, (.slice none 0 0), (.slice none 0 0)] 28 (0, 0))) ∧ Aside0 (Below w.heap.size w w'))
     case atStart => exact ⟨(dr), (0), (by first | rfl | (simp; done) | (simp [*]; done)), H', ⟨Nat.le_refl _⟩, ⟨by (with_reducible repeat (first | apply Kd.S_alloc | apply Kd.S_drewN | apply Kd.S_drew)); exact Kd.S_mono ds.out (fun _ hk => hk.2)⟩, ⟨zR ab⟩, ⟨zT az⟩, ⟨zk aa⟩, ⟨zk ac⟩, ⟨zb HB⟩⟩
     case round =>
      clear H'
      try clear c1
      try clear c2
      try clear p2
      try clear c3
      try clear p3
      try clear q3
      try clear hx3
      try clear c6
      try clear p6
      try clear c7
      try clear cY
      try clear cX
      try clear dg
      try clear dh
      try clear di
      try clear dk
      try clear c18
      try clear c21
      try clear c22
      try clear c30
      try clear p30
      try clear q30
      try clear hx30
      try clear c33
      try clear bG
      try clear bH
      try clear bI
      try clear bJ
      try clear cb
      try clear cc
      try clear cd
      try clear ce
      try clear cm
      try clear cn
      try clear co
      try clear ct
      try clear cu
      try clear cv
      try clear cz
      try clear cA
      try clear cB
      try clear cF
      try clear cG
      try clear cH
      try clear cL
      try clear cM
      try clear cN
      try clear cO
      try clear bX
      try clear bY
      try clear bZ
      try clear b0
      try clear bK
      try clear bL
      try clear bM
      try clear bN
      try clear cf
      try clear cg
      try clear ch
      try clear ci
      try clear cp
      try clear cq
      try clear cr
      try clear cw
      try clear cx
      try clear cy
      try clear cC
      try clear cD
      try clear cE
      try clear cI
      try clear cJ
      try clear cK
      try clear cP
      try clear cQ
      try clear cR
      try clear cS
      try clear b1
      try clear b2
      try clear b3
      try clear b4
      try clear bc
      try clear bd
      try clear be
      try clear p2
      try clear cj
      try clear ck
      obtain ⟨aY, au, rfl, HA, HK2, aH, ab, al, aa, ac, HB⟩ := hrel
      cases gk with
      | zero => exact absurd HA.out (by simp [spec_l05Copy.l1])
      | succ k2 =>
       have H := HA.out; clear HA
       simp only [spec_l05Copy.l1] at H
       by_cases da : au < (af.length : Int)
       ·rw [if_pos da] at H
        have dt : decide (au < (af.length : Int)) = true := decide_eq_true da
        clear da
        by_cases c39 : 0 ≤ au
        ·rw [if_pos c39] at H
         have c39b0 : decide (0 ≤ au) = true := decide_eq_true c39
         clear c39
         obtain ⟨b8, bz⟩ : ∃ y_ : List Int, y_ = (([] : List Int)) := ⟨_, rfl⟩
         replace H : (if b8.length + ((rd_T74 af au).f1).length < 17592186044416 then (if aY.length < 4398046511104 then (spec_l05Copy.l1 k2 (aY ++ [(⟨(rd_T74 af au).f0, (b8 ++ ((rd_T74 af au).f1))⟩ : S74)]) (wrap64 (au + 1)) ag a0_1 av af) else (none)) else (none)) = some (r1, r2, r3, r4) := by first | (rw [bz]; with_reducible exact H) | (have H2_ := (Option.bind_some _ _).symm.trans H; rw [bz]; with_reducible exact H2_) | (have H2_ := (Option.bind_some _ _).symm.trans H; with_reducible exact H2_) | with_reducible exact H | (rw [bz]; exact H) | exact H
         have Ny316 := zK bz; clear bz
         by_cases c40 : b8.length + ((rd_T74 af au).f1).length < 17592186044416
         ·rw [if_pos c40] at H
          have du := zK c40; clear c40
          obtain ⟨aT, bA⟩ : ∃ y_ : List Int, y_ = (b8 ++ ((rd_T74 af au).f1)) := ⟨_, rfl⟩
          replace H : (if aY.length < 4398046511104 then (spec_l05Copy.l1 k2 (aY ++ [(⟨(rd_T74 af au).f0, aT⟩ : S74)]) (wrap64 (au + 1)) ag a0_1 av af) else (none)) = some (r1, r2, r3, r4) := by first | (rw [bA]; with_reducible exact H) | (have H2_ := (Option.bind_some _ _).symm.trans H; rw [bA]; with_reducible exact H2_) | (have H2_ := (Option.bind_some _ _).symm.trans H; with_reducible exact H2_) | with_reducible exact H | (rw [bA]; exact H) | exact H
          have Ny319 := zK bA; clear bA
          by_cases c41 : aY.length < 4398046511104
          ·rw [if_pos c41] at H
           have dv := zK c41; clear c41
           obtain ⟨dw, bB⟩ : ∃ y_ : List (S74), y_ = (aY ++ [(⟨(rd_T74 af au).f0, aT⟩ : S74)]) := ⟨_, rfl⟩
           replace H : (spec_l05Copy.l1 k2 dw (wrap64 (au + 1)) ag a0_1 av af) = some (r1, r2, r3, r4) := by first | (rw [bB]; with_reducible exact H) | (have H2_ := (Option.bind_some _ _).symm.trans H; rw [bB]; with_reducible exact H2_) | (have H2_ := (Option.bind_some _ _).symm.trans H; with_reducible exact H2_) | with_reducible exact H | (rw [bB]; exact H) | exact H
           have Ny322 := zK bB; clear bB; have H' := zK H; clear H; have hnb42 := aM.out; have hnc42 := ax.out
           have hcz43_0 : wr.cell? ⟨ad, 0, none⟩ = some (.slice ao ag.length ap) := (blk_cell aa.out 0).trans rfl
           have hcz43_1 : wr.cell? ⟨ad, 1, none⟩ = some (.int .i64 a0_1) := (blk_cell aa.out 1).trans rfl
           have hcz43_2 : wr.cell? ⟨ad, 2, none⟩ = some (.slice aJ av.length aK) := (blk_cell aa.out 2).trans rfl
           have hcz43_3 : wr.cell? ⟨ad, 3, none⟩ = some (.slice ay af.length aw) := (blk_cell aa.out 3).trans rfl
           have hfz43_0 := blk_frozen aa.out 0; have hfz43_1 := blk_frozen aa.out 1; have hfz43_2 := blk_frozen aa.out 2; have hfz43_3 := blk_frozen aa.out 3
           have cZ : 0 ≤ (au : Int) := zd
           have c0 : au < (af.length : Int) := zd
           obtain ⟨bj, aU, aV, e314, bm, bn, bR, bS⟩ := at_T74 dd.out au cZ c0
           cases e314
           replace bm := (HB.out.cell (World.block_lt_of_cell? w _ bm)).trans bm
           replace bn := (HB.out.cell (World.block_lt_of_cell? w _ bn)).trans bn
           have cT := zK bS; have HC314_1 := zK bR; clear bS bR; replace cZ := eq_true cZ; replace c0 := eq_true c0
           go_wp2_with (first | ((with_reducible refine gate_dst (N := 8) rfl ?_); refine box_event ?hg (N := 8) ?hd (cs := #[.int .i64 0, .slice none 0 0]) (t := 74) ?hr ?_; (case hd => rfl); (case hg => rfl); (case hr => first | (go_simp; done) | (go_simp; rfl)); intro am hg w44 hbox hb; have aC := zK (Kd.S_below (Kd.S_elderB (zT aH) am (Nat.le_of_eq hg.symm)) hb); have aD := zK (Kd.R_below (zR ab) hb); have aE := zK (Kd.S_below (zT al) hb); have aG := zK (blk_below (g := ad) (o := .cells #[.slice ao ag.length ap, .int .i64 a0_1, .slice aJ av.length aK, .slice (some bj) af.length aw] 28 (0, 0)) (zk aa) hb); have aW := zK (blk_below (g := ah) (o := .cells #[.slice none 0 0, .int .i64 0, .slice none 0 0, .slice none 0 0] 28 (0, 0)) (zk ac) hb); have aZ := zK (below_step (zb HB) hb); have a7 := zK (hbox); have bQ := zK ((by rw [hg]; exact (below_size (zb HB)) : w.heap.size ≤ am)); have dn := zK ((by rw [hg]; exact (below_size (zb HB)) : w.heap.size ≤ am)); have dp := zK ((by rw [hg]; exact Nat.ne_of_lt (blk_lt (g := ad) (o := .cells #[.slice ao ag.length ap, .int .i64 a0_1, .slice aJ av.length aK, .slice (some bj) af.length aw] 28 (0, 0)) (zk aa)) : ad ≠ am)); have b6 := zK ((by rw [hg]; exact Nat.ne_of_gt (blk_lt (g := ad) (o := .cells #[.slice ao ag.length ap, .int .i64 a0_1, .slice aJ av.length aK, .slice (some bj) af.length aw] 28 (0, 0)) (zk aa)) : am ≠ ad)); have b7 := zK ((by rw [hg]; exact Nat.ne_of_lt (blk_lt (g := ah) (o := .cells #[.slice none 0 0, .int .i64 0, .slice none 0 0, .slice none 0 0] 28 (0, 0)) (zk ac)) : ah ≠ am)); have dx := zK ((by rw [hg]; exact Nat.ne_of_gt (blk_lt (g := ah) (o := .cells #[.slice none 0 0, .int .i64 0, .slice none 0 0, .slice none 0 0] 28 (0, 0)) (zk ac)) : am ≠ ah)); clear aH; clear ab; clear al; clear aa; clear ac; clear HB; have aH := aC; have ab := aD; have al := aE; have aa := aG; have ac := aW; have HB := aZ; have an := a7; have GW315 := bQ; have bb := dn; have a2 := dp; have bV := b6; have a3 := b7; have bW := dx; clear aC aD aE aG aW aZ a7 bQ dn dp b6 b7 dx; clear hb hbox hg; have hnb45 := bV.out; have hnc45 := a2.out; have hnb46 := bW.out; have hnc46 := a3.out; have hcz47_0 : w44.cell? ⟨am, 0, none⟩ = some (.int .i64 0) := (blk_cell an.out 0).trans rfl; have hcz47_1 : w44.cell? ⟨am, 1, none⟩ = some (.slice none 0 0) := (blk_cell an.out 1).trans rfl; have hfz47_0 := blk_frozen an.out 0; have hfz47_1 := blk_frozen an.out 1) | ((with_reducible refine gate_dst (N := 51) rfl ?_); refine Kd.R_lit (Kd.int .i64) _ 3 ?hg (N := 51) ?hd (xs := ([] : List Int)) (inner := []) (ok := fun _ => True) (okp := fun _ => True) ?hr ?hp (fun _ hk => hk) trivial (Below.refl _ _) (Nat.le_refl _) (by simp) ?_; (case hd => rfl); (case hg => rfl); (case hr => first | (go_simp; done) | (go_simp; rfl)); (case hp => exact (Reps.none _ _)); intro v317 w48 ho49 hb hg_ hnew_; clear hg_ hnew_; (first | rw [← Ny316.out] at ho49 | (simp only [Int.reduceToNat] at ho49; rw [← Ny316.out] at ho49)); have aC := zK (Kd.S_elder' (by (with_reducible repeat (first | apply Kd.S_alloc | apply Kd.S_drewN | apply Kd.S_drew)); exact (Kd.S_mono (Kd.S_far (p := ⟨am, 1, none⟩) (Kd.S_far (p := ⟨am, 0, none⟩) (Kd.S_mono aH.out (fun k_ hk => (⟨hk, hk.2⟩ : _ ∧ k_ ≠ am))) (fun _ hk => hk.2) (.int .i64 ((rd_T74 af au).f0))) (fun _ hk => hk.2) (.slice aU ((rd_T74 af au).f1).length aV)) (fun _ h_ => h_.1))) (Kd.R_base ho49) hb); have aD := zK (Kd.R_elder' (by (with_reducible repeat (first | apply Kd.R_alloc | apply Kd.R_drewN | apply Kd.R_drew)); exact (Kd.R_mono (Kd.R_far (p := ⟨am, 1, none⟩) (Kd.R_far (p := ⟨am, 0, none⟩) (Kd.R_types ab.out an.out (by decide)) (fun _ hk => hk.2) (.int .i64 ((rd_T74 af au).f0))) (fun _ hk => hk.2) (.slice aU ((rd_T74 af au).f1).length aV)) (fun _ h_ => h_.1))) (Kd.R_base ho49) hb); have aE := zK (Kd.S_elder' (by (with_reducible repeat (first | apply Kd.S_alloc | apply Kd.S_drewN | apply Kd.S_drew)); exact (Kd.S_mono (Kd.S_far (p := ⟨am, 1, none⟩) (Kd.S_far (p := ⟨am, 0, none⟩) (Kd.S_types al.out an.out (by decide)) (fun _ hk => hk.2) (.int .i64 ((rd_T74 af au).f0))) (fun _ hk => hk.2) (.slice aU ((rd_T74 af au).f1).length aV)) (fun _ h_ => h_.1))) (Kd.R_base ho49) hb); have aG := zK (Kd.R_lower (Kd.R_new' ho49 (Kd.R_lt (by (with_reducible repeat (first | apply Kd.R_alloc | apply Kd.R_drewN | apply Kd.R_drew)); exact (Kd.R_mono (Kd.R_far (p := ⟨am, 1, none⟩) (Kd.R_far (p := ⟨am, 0, none⟩) (Kd.R_types ab.out an.out (by decide)) (fun _ hk => hk.2) (.int .i64 ((rd_T74 af au).f0))) (fun _ hk => hk.2) (.slice aU ((rd_T74 af au).f1).length aV)) (fun _ h_ => h_.1))))) (below_size (zb HB))); have aW := zK (blk_below (g := ad) (o := .cells #[.slice ao ag.length ap, .int .i64 a0_1, .slice aJ av.length aK, .slice (some bj) af.length aw] 28 (0, 0)) (by (with_reducible repeat (first | refine zN ?_ _ | refine zD ?_ | refine zA ?_ _)); refine blk_far ?_ a2.out _; (with_reducible repeat (first | refine zN ?_ _ | refine zD ?_ | refine zA ?_ _)); refine blk_far ?_ a2.out _; (with_reducible repeat (first | refine zN ?_ _ | refine zD ?_ | refine zA ?_ _)); exact aa.out) hb); have aZ := zK (blk_below (g := ah) (o := .cells #[.slice none 0 0, .int .i64 0, .slice none 0 0, .slice none 0 0] 28 (0, 0)) (by (with_reducible repeat (first | refine zN ?_ _ | refine zD ?_ | refine zA ?_ _)); refine blk_far ?_ a3.out _; (with_reducible repeat (first | refine zN ?_ _ | refine zD ?_ | refine zA ?_ _)); refine blk_far ?_ a3.out _; (with_reducible repeat (first | refine zN ?_ _ | refine zD ?_ | refine zA ?_ _)); exact ac.out) hb); have a7 := zK (blk_below (g := am) (o := .cells #[.int .i64 ((rd_T74 af au).f0), .slice aU ((rd_T74 af au).f1).length aV] 74 (0, 0)) (by (with_reducible repeat (first | refine zN ?_ _ | refine zD ?_ | refine zA ?_ _)); refine blk_put (cs := #[.int .i64 ((rd_T74 af au).f0), .slice none 0 0]) ?_ 1 _ rfl; (with_reducible repeat (first | refine zN ?_ _ | refine zD ?_ | refine zA ?_ _)); refine blk_put (cs := #[.int .i64 0, .slice none 0 0]) ?_ 0 _ rfl; (with_reducible repeat (first | refine zN ?_ _ | refine zD ?_ | refine zA ?_ _)); exact an.out) hb); have bQ := zK (below_step (zb HB) hb); clear aH; clear ab; clear al; clear aa; clear ac; clear an; clear HB; have aH := aC; have ab := aD; have al := aE; have bC := aG; have aa := aW; have ac := aZ; have an := a7; have HB := bQ; clear aC aD aE aG aW aZ a7 bQ; clear hb ho49; have hcz50_0 : w48.cell? ⟨am, 0, none⟩ = some (.int .i64 ((rd_T74 af au).f0)) := (blk_cell an.out 0).trans rfl; have hcz50_1 : w48.cell? ⟨am, 1, none⟩ = some (.slice aU ((rd_T74 af au).f1).length aV) := (blk_cell an.out 1).trans rfl; have hfz50_0 := blk_frozen an.out 0; have hfz50_1 := blk_frozen an.out 1) | ((with_reducible refine gate_builtin (b := .append) (xs := #[.tmp 51, .tmp 53]) rfl ?_); at_builtin; refine Kd.R_append_rows (Kd.int .i64) (w0 := w) w.heap.size rfl (.tmp 51) (.tmp 53) 24 3 (.int .i64 0) 8 rfl Try.underlying24 info3 rfl (by decide) (by omega) v317 b8 ((rd_T74 af au).f1) _ _ _ (fun k_ => some k_ ≠ (.slice ao ag.length ap : Value).ownBlock) (fun _ => False) rfl rfl ?aO ?aR (fun _ _ h => h) (fun _ h => h.elim) ?aF ?aB ?aS ?aL ?_; (case aR => repeat (first | exact (Kd.C_below cT.out HB.out) | (with_reducible refine Kd.C_alloc ?_ _) | (with_reducible refine Kd.C_drewN ?_ _) | (with_reducible refine Kd.C_drew ?_))); (case aB => exact (zb HB)); (case aF => exact (fun k_ hk => Kd.fresh' (Kd.R_lt (zR ab)) k_ hk)); (case aO => exact (by (with_reducible repeat (first | apply Kd.R_alloc | apply Kd.R_drewN | apply Kd.R_drew)); exact Kd.R_mono bC.out (fun _ hk => hk.2))); (case aS => exact (below_size (zb HB))); (case aL => have := du.out; omega); intro v320 w51 ho hb hg hat; rw [← Ny319.out] at ho; have aC := zK (Kd.S_after (ok := (fun k_ => some k_ ≠ (.slice ao ag.length ap : Value).ownBlock ∧ k_ ≠ am)) (zT aH) hg hat); have aD := zK (Kd.R_after (ok := (fun _ => True)) (zR ab) hg hat); have aE := zK (Kd.S_after (ok := (fun k_ => some k_ ≠ (.slice ao ag.length ap : Value).ownBlock)) (zT al) hg hat); have aG := zK (blk_grown (g := ad) (o := .cells #[.slice ao ag.length ap, .int .i64 a0_1, .slice aJ av.length aK, .slice (some bj) af.length aw] 28 (0, 0)) (zk aa) hg (Kd.R_ne bC.out aa.out (by decide))); have aW := zK (blk_grown (g := ah) (o := .cells #[.slice none 0 0, .int .i64 0, .slice none 0 0, .slice none 0 0] 28 (0, 0)) (zk ac) hg (Kd.R_ne bC.out ac.out (by decide))); have aZ := zK (blk_grown (g := am) (o := .cells #[.int .i64 ((rd_T74 af au).f0), .slice aU ((rd_T74 af au).f1).length aV] 74 (0, 0)) (zk an) hg (Kd.R_ne bC.out an.out (by decide))); have a7 := zK (hb); have bQ := zK (ho); clear aH; clear ab; clear al; clear aa; clear ac; clear an; clear HB; clear bC; have aH := aC; have ab := aD; have al := aE; have aa := aG; have ac := aW; have an := aZ; have HB := a7; have bk := bQ; clear aC aD aE aG aW aZ a7 bQ; clear ho hb hg hat; obtain ⟨a5, a6, eo52⟩ := Kd.R_slice bk.out; subst eo52; have hcz53_0 : w51.cell? ⟨am, 0, none⟩ = some (.int .i64 ((rd_T74 af au).f0)) := (blk_cell an.out 0).trans rfl; have hcz53_1 : w51.cell? ⟨am, 1, none⟩ = some (.slice aU ((rd_T74 af au).f1).length aV) := (blk_cell an.out 1).trans rfl; have hfz53_0 := blk_frozen an.out 0; have hfz53_1 := blk_frozen an.out 1) | ((with_reducible refine gate_store (t := 24) (p := 55) rfl ?_); refine store_event (t := 24) (p := 55) (v := ?vo_w54) (w1 := (w51.setCell ⟨am, 1, none⟩ (.slice a5 aT.length a6))) ?hg ?ho ?hn ?hr ?_; (case ho => rfl); (case hg => rfl); (case hn => rfl); (case hr => first | (go_simp; done) | (go_simp; rfl)); intro ca hw; have aC : Aside0 (Kd.S k74 74 ca w.heap.size (fun k_ => some k_ ≠ (.slice ao ag.length ap : Value).ownBlock ∧ some k_ ≠ (.slice a5 aT.length a6 : Value).ownBlock ∧ k_ ≠ am) u6 aY) := ⟨(by rw [hw]; exact (by (with_reducible repeat (first | apply Kd.S_alloc | apply Kd.S_drewN | apply Kd.S_drew)); exact Kd.S_mono (Kd.S_far (p := ⟨am, 1, none⟩) (Kd.S_mono aH.out (fun k_ hk => (⟨hk, hk.1.2⟩ : _ ∧ k_ ≠ am))) (fun _ hk => hk.2) (.slice a5 aT.length a6)) (fun _ hk => ⟨hk.1.1.1, ⟨hk.1.2, hk.1.1.2⟩⟩)))⟩; have aD : Aside0 (Kd.R (Kd.int .i64) 3 ca w.heap.size (fun k_ => some k_ ≠ (.slice a5 aT.length a6 : Value).ownBlock) (.slice ao ag.length ap) ag) := ⟨(by rw [hw]; exact (by (with_reducible repeat (first | apply Kd.R_alloc | apply Kd.R_drewN | apply Kd.R_drew)); exact Kd.R_mono (Kd.R_far (p := ⟨am, 1, none⟩) (Kd.R_types ab.out an.out (by decide)) (fun _ hk => hk.2) (.slice a5 aT.length a6)) (fun _ hk => hk.1.2)))⟩; have aE : Aside0 (Kd.S k69 69 ca w.heap.size (fun k_ => some k_ ≠ (.slice ao ag.length ap : Value).ownBlock ∧ some k_ ≠ (.slice a5 aT.length a6 : Value).ownBlock) (.slice aJ av.length aK) av) := ⟨(by rw [hw]; exact (by (with_reducible repeat (first | apply Kd.S_alloc | apply Kd.S_drewN | apply Kd.S_drew)); exact Kd.S_mono (Kd.S_far (p := ⟨am, 1, none⟩) (Kd.S_types al.out an.out (by decide)) (fun _ hk => hk.2) (.slice a5 aT.length a6)) (fun _ hk => ⟨hk.1.1, hk.1.2⟩)))⟩; have aG : Aside0 (Kd.R (Kd.int .i64) 3 ca w.heap.size (fun k_ => some k_ ≠ (.slice ao ag.length ap : Value).ownBlock) (.slice a5 aT.length a6) aT) := ⟨(by rw [hw]; exact (by (with_reducible repeat (first | apply Kd.R_alloc | apply Kd.R_drewN | apply Kd.R_drew)); exact Kd.R_mono (Kd.R_far (p := ⟨am, 1, none⟩) (Kd.R_types bk.out an.out (by decide)) (fun _ hk => hk.2) (.slice a5 aT.length a6)) (fun _ hk => hk.1)))⟩; have aW : Aside0 (ca.heap[ad]? = some (.cells #[.slice ao ag.length ap, .int .i64 a0_1, .slice aJ av.length aK, .slice (some bj) af.length aw] 28 (0, 0))) := ⟨(by rw [hw]; exact (by (with_reducible repeat (first | refine zN ?_ _ | refine zD ?_ | refine zA ?_ _)); refine blk_far ?_ a2.out _; (with_reducible repeat (first | refine zN ?_ _ | refine zD ?_ | refine zA ?_ _)); exact aa.out))⟩; have aZ : Aside0 (ca.heap[ah]? = some (.cells #[.slice none 0 0, .int .i64 0, .slice none 0 0, .slice none 0 0] 28 (0, 0))) := ⟨(by rw [hw]; exact (by (with_reducible repeat (first | refine zN ?_ _ | refine zD ?_ | refine zA ?_ _)); refine blk_far ?_ a3.out _; (with_reducible repeat (first | refine zN ?_ _ | refine zD ?_ | refine zA ?_ _)); exact ac.out))⟩; have a7 : Aside0 (ca.heap[am]? = some (.cells #[.int .i64 ((rd_T74 af au).f0), .slice a5 aT.length a6] 74 (0, 0))) := ⟨(by rw [hw]; exact (by (with_reducible repeat (first | refine zN ?_ _ | refine zD ?_ | refine zA ?_ _)); refine blk_put (cs := #[.int .i64 ((rd_T74 af au).f0), .slice aU ((rd_T74 af au).f1).length aV]) ?_ 1 _ rfl; (with_reducible repeat (first | refine zN ?_ _ | refine zD ?_ | refine zA ?_ _)); exact an.out))⟩; have bQ : Aside0 (Below w.heap.size w ca) := ⟨(by rw [hw]; exact (zb HB))⟩; clear hw; clear aH; clear ab; clear al; clear bk; clear aa; clear ac; clear an; clear HB; have aH := aC; have ab := aD; have al := aE; have bk := aG; have aa := aW; have ac := aZ; have an := a7; have HB := bQ; clear aC aD aE aG aW aZ a7 bQ; have hcz55_0 : ca.cell? ⟨am, 0, none⟩ = some (.int .i64 ((rd_T74 af au).f0)) := (blk_cell an.out 0).trans rfl; have hcz55_1 : ca.cell? ⟨am, 1, none⟩ = some (.slice a5 aT.length a6) := (blk_cell an.out 1).trans rfl; have hfz55_0 := blk_frozen an.out 0; have hfz55_1 := blk_frozen an.out 1) | ((with_reducible refine gate_builtin (b := .append) (xs := #[.tmp 56, .tmp 58]) rfl ?_); at_builtin; refine Kd.S_append k74 (w0 := w) w.heap.size rfl (.tmp 56) (.tmp 58) 26 74 (.agg #[(.int .i64 0), (.slice none 0 0)]) 32 rfl Try.underlying26 info74 rfl (by decide) (by omega) u6 aY (⟨(rd_T74 af au).f0, aT⟩ : S74) [.int .i64 ((rd_T74 af au).f0), .slice a5 aT.length a6] (fun k_ => some k_ ≠ (.slice ao ag.length ap : Value).ownBlock ∧ k_ ≠ am) (fun k_ => some k_ = (.slice a5 aT.length a6 : Value).ownBlock) rfl rfl ?aP (fun k_ hk_ => ((Kd.R_mono (ok' := fun k_ => ((fun k_ => some k_ ≠ (.slice ao ag.length ap : Value).ownBlock ∧ k_ ≠ am)) k_ ∧ some k_ ≠ (u6 : Value).ownBlock) (Kd.R_types (Kd.R_apart' (bk.out) (Kd.S_typed aH.out) (by decide)) an.out (by decide)) (fun k_ hk => ⟨⟨hk.1.1, hk.2⟩, hk.1.2⟩))).1 k_ hk_.symm) ?aF ?aO ?aB ?aS ?aL ?_; (case aP => exact k74_mkM _ _ _ (⟨(rd_T74 af au).f0, aT⟩ : S74) (Kd.R_mono (Kd.R_tight rfl (Kd.R_mono (ok' := fun k_ => ((fun k_ => some k_ ≠ (.slice ao ag.length ap : Value).ownBlock ∧ k_ ≠ am)) k_ ∧ some k_ ≠ (u6 : Value).ownBlock) (Kd.R_types (Kd.R_apart' (bk.out) (Kd.S_typed aH.out) (by decide)) an.out (by decide)) (fun k_ hk => ⟨⟨hk.1.1, hk.2⟩, hk.1.2⟩))) (fun _ h_ => h_))); (case aB => exact (zb HB)); (case aF => exact (fun k_ hk => ⟨Kd.fresh' (Kd.R_lt (zR ab)) k_ hk, Kd.freshB (g := am) (o := .cells #[.int .i64 ((rd_T74 af au).f0), .slice a5 aT.length a6] 74 (0, 0)) (zk an) k_ hk⟩)); (case aO => exact (by (with_reducible repeat (first | apply Kd.S_alloc | apply Kd.S_drewN | apply Kd.S_drew)); exact Kd.S_mono aH.out (fun k_ hk => ⟨⟨hk.1, hk.2.2⟩, fun e_ => hk.2.1 e_⟩))); (case aS => exact (below_size (zb HB))); (case aL => have := dv.out; omega); intro v323 w56 ho hb hg hat; rw [← Ny322.out] at ho; have aC := zK (Kd.R_over' (zR ab) (Kd.S_typed (zT aH)) (by decide) hg); have aD := zK (Kd.S_over' (zT al) (Kd.S_typed (zT aH)) (by decide) hg); have aE := zK (blk_grown (g := ad) (o := .cells #[.slice ao ag.length ap, .int .i64 a0_1, .slice aJ av.length aK, .slice (some bj) af.length aw] 28 (0, 0)) (zk aa) hg (Kd.S_ne aH.out aa.out (by decide))); have aG := zK (blk_grown (g := ah) (o := .cells #[.slice none 0 0, .int .i64 0, .slice none 0 0, .slice none 0 0] 28 (0, 0)) (zk ac) hg (Kd.S_ne aH.out ac.out (by decide))); have aW := zK (blk_grown (g := am) (o := .cells #[.int .i64 ((rd_T74 af au).f0), .slice a5 aT.length a6] 74 (0, 0)) (zk an) hg (Kd.S_away aH.out (fun _ hk => hk.2.2))); have aZ := zK (hb); have a7 := zK (ho); clear ab; clear al; clear aa; clear ac; clear an; clear HB; clear aH; clear bk; have ab := aC; have al := aD; have aa := aE; have ac := aG; have an := aW; have HB := aZ; have dy := a7; clear aC aD aE aG aW aZ a7; clear ho hb hg hat))
           go_roundg k2
           case measure => have := HK1.out; have := HK2.out; omega
           case rel => exact ⟨(dw), (wrap64 (au + 1)), (by first | rfl | (simp; done) | (simp [*]; done)), H', ⟨by have := HK1.out; have := HK2.out; omega⟩, ⟨by (with_reducible repeat (first | apply Kd.S_alloc | apply Kd.S_drewN | apply Kd.S_drew)); exact Kd.S_mono dy.out (fun _ hk => hk.1)⟩, ⟨by (with_reducible repeat (first | apply Kd.R_alloc | apply Kd.R_drewN | apply Kd.R_drew)); exact Kd.R_mono ab.out (fun _ hk => trivial)⟩, ⟨by (with_reducible repeat (first | apply Kd.S_alloc | apply Kd.S_drewN | apply Kd.S_drew)); exact Kd.S_mono al.out (fun _ hk => hk.1)⟩, ⟨zk aa⟩, ⟨zk ac⟩, ⟨zb HB⟩⟩
          ·rw [if_neg c41] at H
           exact absurd H (by simp)
         ·rw [if_neg c40] at H
          exact absurd H (by simp)
        ·rw [if_neg c39] at H
         exact absurd H (by simp)
       ·rw [if_neg da] at H
        have dt : decide (au < (af.length : Int)) = false := decide_eq_false da
        clear da
        simp only [Option.some.injEq, Prod.mk.injEq] at H
        obtain ⟨rfl, rfl, rfl, rfl⟩ := H
        have hnb57 := aM.out; have hnc57 := ax.out
        have hcz58_0 : wr.cell? ⟨ad, 0, none⟩ = some (.slice ao ag.length ap) := (blk_cell aa.out 0).trans rfl
        have hcz58_1 : wr.cell? ⟨ad, 1, none⟩ = some (.int .i64 a0_1) := (blk_cell aa.out 1).trans rfl
        have hcz58_2 : wr.cell? ⟨ad, 2, none⟩ = some (.slice aJ av.length aK) := (blk_cell aa.out 2).trans rfl
        have hcz58_3 : wr.cell? ⟨ad, 3, none⟩ = some (.slice ay af.length aw) := (blk_cell aa.out 3).trans rfl
        have hfz58_0 := blk_frozen aa.out 0; have hfz58_1 := blk_frozen aa.out 1; have hfz58_2 := blk_frozen aa.out 2; have hfz58_3 := blk_frozen aa.out 3
        obtain ⟨bD, bE, eo59⟩ := Kd.S_slice aH.out
        subst eo59
        have hcz60_0 : wr.cell? ⟨ah, 0, none⟩ = some (.slice none 0 0) := (blk_cell ac.out 0).trans rfl
        have hcz60_1 : wr.cell? ⟨ah, 1, none⟩ = some (.int .i64 0) := (blk_cell ac.out 1).trans rfl
        have hcz60_2 : wr.cell? ⟨ah, 2, none⟩ = some (.slice none 0 0) := (blk_cell ac.out 2).trans rfl
        have hcz60_3 : wr.cell? ⟨ah, 3, none⟩ = some (.slice none 0 0) := (blk_cell ac.out 3).trans rfl
        have hfz60_0 := blk_frozen ac.out 0; have hfz60_1 := blk_frozen ac.out 1; have hfz60_2 := blk_frozen ac.out 2; have hfz60_3 := blk_frozen ac.out 3
        go_wp2
        refine bodyPost_ret (results_cell_row rfl _ _ ah 28 #[.slice ao ag.length ap, .int .i64 a0_1, .slice aJ av.length aK, .slice bD aY.length bE] (0, 0) _ rfl (by (with_reducible repeat (first | refine zN ?_ _ | refine zD ?_ | refine zA ?_ _)); refine blk_put (cs := #[.slice ao ag.length ap, .int .i64 a0_1, .slice aJ av.length aK, .slice none 0 0]) ?_ 3 _ rfl; (with_reducible repeat (first | refine zN ?_ _ | refine zD ?_ | refine zA ?_ _)); refine blk_put (cs := #[.slice ao ag.length ap, .int .i64 a0_1, .slice none 0 0, .slice none 0 0]) ?_ 2 _ rfl; (with_reducible repeat (first | refine zN ?_ _ | refine zD ?_ | refine zA ?_ _)); refine blk_put (cs := #[.slice ao ag.length ap, .int .i64 0, .slice none 0 0, .slice none 0 0]) ?_ 1 _ rfl; (with_reducible repeat (first | refine zN ?_ _ | refine zD ?_ | refine zA ?_ _)); refine blk_put (cs := #[.slice none 0 0, .int .i64 0, .slice none 0 0, .slice none 0 0]) ?_ 0 _ rfl; (with_reducible repeat (first | refine zN ?_ _ | refine zD ?_ | refine zA ?_ _)); refine blk_far ?_ ax.out _; (with_reducible repeat (first | refine zN ?_ _ | refine zD ?_ | refine zA ?_ _)); exact ac.out) Try.underlying28 rfl (by kernel_rfl)) rfl ?_
        exact ⟨_, _, _, by first | rfl | (simp [errW_none, errW_some] <;> rfl) | (simp [*, errW_none, errW_some] <;> rfl), by (with_reducible repeat (first | apply Kd.R_alloc | apply Kd.R_drewN | apply Kd.R_drew)); exact Kd.R_mono (Kd.R_far (p := ⟨ah, 3, none⟩) (Kd.R_far (p := ⟨ah, 2, none⟩) (Kd.R_far (p := ⟨ah, 1, none⟩) (Kd.R_far (p := ⟨ah, 0, none⟩) (Kd.R_far (p := ⟨ad, 3, none⟩) (Kd.R_types (Kd.R_types ab.out aa.out (by decide)) ac.out (by decide)) (fun _ hk => hk.1.2) (.slice bD aY.length bE)) (fun _ hk => hk.2) (.slice ao ag.length ap)) (fun _ hk => hk.2) (.int .i64 a0_1)) (fun _ hk => hk.2) (.slice aJ av.length aK)) (fun _ hk => hk.2) (.slice bD aY.length bE)) (fun _ hk => trivial), by (with_reducible repeat (first | apply Kd.S_alloc | apply Kd.S_drewN | apply Kd.S_drew)); exact Kd.S_mono (Kd.S_far (p := ⟨ah, 3, none⟩) (Kd.S_far (p := ⟨ah, 2, none⟩) (Kd.S_far (p := ⟨ah, 1, none⟩) (Kd.S_far (p := ⟨ah, 0, none⟩) (Kd.S_far (p := ⟨ad, 3, none⟩) (Kd.S_types (Kd.S_types al.out aa.out (by decide)) ac.out (by decide)) (fun _ hk => hk.1.2) (.slice bD aY.length bE)) (fun _ hk => hk.2) (.slice ao ag.length ap)) (fun _ hk => hk.2) (.int .i64 a0_1)) (fun _ hk => hk.2) (.slice aJ av.length aK)) (fun _ hk => hk.2) (.slice bD aY.length bE)) (fun _ hk => hk.1.1), by (with_reducible repeat (first | apply Kd.S_alloc | apply Kd.S_drewN | apply Kd.S_drew)); exact Kd.S_mono (Kd.S_far (p := ⟨ah, 3, none⟩) (Kd.S_far (p := ⟨ah, 2, none⟩) (Kd.S_far (p := ⟨ah, 1, none⟩) (Kd.S_far (p := ⟨ah, 0, none⟩) (Kd.S_far (p := ⟨ad, 3, none⟩) (Kd.S_types (Kd.S_types aH.out aa.out (by decide)) ac.out (by decide)) (fun _ hk => hk.1.2) (.slice bD aY.length bE)) (fun _ hk => hk.2) (.slice ao ag.length ap)) (fun _ hk => hk.2) (.int .i64 a0_1)) (fun _ hk => hk.2) (.slice aJ av.length aK)) (fun _ hk => hk.2) (.slice bD aY.length bE)) (fun _ hk => hk.1.1), by repeat (first | (with_reducible first | exact HB.out | apply zB | apply zC | apply zE | refine zS ?_ aq.out | refine zS ?_ ar.out) | exact HB.out)⟩
 ·rw [if_neg c2] at H
  exact absurd H (by simp)
set_option maxHeartbeats 8000000 in
set_option maxRecDepth 100000 in
theorem spec_l05Copy.calls2 (k : Nat) (be : Option Addr) (bf : Nat) (aI : List Int) (a0_1 : Int) (a4 : Option Addr) (aA : Nat) (ae : List (S69)) (az : Option Addr) (aw : Nat) (af : List (S74)) (r1 : List Int) (r2 : Int) (r3 : List (S69)) (r4 : List (S74)) (w : World) (cU : Kd.C (Kd.int .i64) w be aI.length aI) (hc0_0 : aI.length ≤ bf) (cV : Kd.C k69 w a4 ae.length ae) (hc0_2 : ae.length ≤ aA) (cW : Kd.C k74 w az af.length af) (hc0_3 : af.length ≤ aw) (h : spec_l05Copy.f k aI a0_1 ae af = some (r1, r2, r3, r4)) :
  Calls Try.prog 68 #[.agg #[.slice be aI.length bf, .int .i64 a0_1, .slice a4 ae.length aA, .slice az af.length aw]] w fun e w' => ∃ (v0_ v2_ v3_ : Value) (N_ : Nat), e = .returned (.agg #[v0_, .int .i64 r2, v2_, v3_]) ∧ Kd.R (Kd.int .i64) 3 w' w.heap.size (fun _ => True) v0_ r1 ∧ Kd.S k69 69 w' w.heap.size (fun k_ => some k_ ≠ (v0_ : Value).ownBlock ∧ k_ < N_) v2_ r3 ∧ Kd.S k74 74 w' N_ (fun k_ => some k_ ≠ (v0_ : Value).ownBlock) v3_ r4 ∧ w.heap.size ≤ N_ ∧ Below w.heap.size w w' := by
 have hu28 := Try.underlying28; have hu69 := Try.underlying69; have hu74 := Try.underlying74; have db := zK cU; have HC0_0 := zK hc0_0; clear cU hc0_0; have dc := zK cV; have HC0_2 := zK hc0_2; clear cV hc0_2; have dd := zK cW; have HC0_3 := zK hc0_3; clear cW hc0_3
 have HB := zK (Below.refl w.heap.size w)
 have H : ((some (([] : List Int) : List Int)).bind fun bn => (if bn.length + aI.length < 17592186044416 then (spec_l05Copy.l0 k (([] : List (S69))) 0 (bn ++ aI) a0_1 ae af) else (none))) = some (r1, r2, r3, r4) := h
 clear h
 obtain ⟨bn, bo⟩ : ∃ y_ : List Int, y_ = (([] : List Int)) := ⟨_, rfl⟩
 replace H : (if bn.length + aI.length < 17592186044416 then (spec_l05Copy.l0 k (([] : List (S69))) 0 (bn ++ aI) a0_1 ae af) else (none)) = some (r1, r2, r3, r4) := by first | (rw [bo]; with_reducible exact H) | (have H2_ := (Option.bind_some _ _).symm.trans H; rw [bo]; with_reducible exact H2_) | (have H2_ := (Option.bind_some _ _).symm.trans H; with_reducible exact H2_) | with_reducible exact H | (rw [bo]; exact H) | exact H
 have Ny291 := zK bo; clear bo
 by_cases c2 : bn.length + aI.length < 17592186044416
 ·rw [if_pos c2] at H
  have LMc2 := zK c2; clear c2
  obtain ⟨ag, bp⟩ : ∃ y_ : List Int, y_ = (bn ++ aI) := ⟨_, rfl⟩
  replace H : (spec_l05Copy.l0 k (([] : List (S69))) 0 ag a0_1 ae af) = some (r1, r2, r3, r4) := by first | (rw [bp]; with_reducible exact H) | (have H2_ := (Option.bind_some _ _).symm.trans H; rw [bp]; with_reducible exact H2_) | (have H2_ := (Option.bind_some _ _).symm.trans H; with_reducible exact H2_) | with_reducible exact H | (rw [bp]; exact H) | exact H
  have Ny294 := zK bp; clear bp
  obtain ⟨de, bq⟩ : ∃ y_ : List (S69), y_ = (([] : List (S69))) := ⟨_, rfl⟩
  replace H : (spec_l05Copy.l0 k de 0 ag a0_1 ae af) = some (r1, r2, r3, r4) := by first | (rw [bq]; with_reducible exact H) | (have H2_ := (Option.bind_some _ _).symm.trans H; rw [bq]; with_reducible exact H2_) | (have H2_ := (Option.bind_some _ _).symm.trans H; with_reducible exact H2_) | with_reducible exact H | (rw [bq]; exact H) | exact H
  have Ny297 := zK bq; clear bq; have H' := zK H; clear H
  go_enter Try.func68, Try.ntmps68
  go_wp2_with (first | ((with_reducible refine gate_dst (N := 1) rfl ?_); refine box_event ?hg (N := 1) ?hd (cs := #[.slice be aI.length bf, .int .i64 a0_1, .slice a4 ae.length aA, .slice az af.length aw]) (t := 28) ?hr ?_; (case hd => rfl); (case hg => rfl); (case hr => first | (go_simp; done) | (go_simp; rfl)); intro ad hg w3 hbox hb; have aC := zK (below_step (by repeat (first | (with_reducible first | exact HB.out | apply zB | apply zC | apply zE) | exact HB.out)) hb); have aD := zK (hbox); have aE := zK ((by rw [hg]; exact (below_size (by repeat (first | (with_reducible first | exact HB.out | apply zB | apply zC | apply zE) | exact HB.out))) : w.heap.size ≤ ad)); have aG := zK ((by rw [hg]; exact (below_size (by repeat (first | (with_reducible first | exact HB.out | apply zB | apply zC | apply zE) | exact HB.out))) : w.heap.size ≤ ad)); clear HB; have HB := aC; have aa := aD; have GW289 := aE; have ar := aG; clear aC aD aE aG; clear hb hbox hg) | ((with_reducible refine gate_dst (N := 2) rfl ?_); refine box_event ?hg (N := 2) ?hd (cs := #[.slice none 0 0, .int .i64 0, .slice none 0 0, .slice none 0 0]) (t := 28) ?hr ?_; (case hd => rfl); (case hg => rfl); (case hr => first | (go_simp; done) | (go_simp; rfl)); intro ah hg w4 hbox hb; have aC := zK (blk_below (g := ad) (o := .cells #[.slice be aI.length bf, .int .i64 a0_1, .slice a4 ae.length aA, .slice az af.length aw] 28 (0, 0)) (by (with_reducible repeat (first | refine zN ?_ _ | refine zD ?_ | refine zA ?_ _)); exact aa.out) hb); have aD := zK (below_step (by repeat (first | (with_reducible first | exact HB.out | apply zB | apply zC | apply zE | refine zS ?_ ar.out) | exact HB.out)) hb); have aE := zK (hbox); have aG := zK ((by rw [hg]; exact (below_size (by repeat (first | (with_reducible first | exact HB.out | apply zB | apply zC | apply zE | refine zS ?_ ar.out) | exact HB.out))) : w.heap.size ≤ ah)); have aW := zK ((by rw [hg]; exact (below_size (by repeat (first | (with_reducible first | exact HB.out | apply zB | apply zC | apply zE | refine zS ?_ ar.out) | exact HB.out))) : w.heap.size ≤ ah)); have aZ := zK ((by rw [hg]; exact Nat.ne_of_lt (blk_lt (g := ad) (o := .cells #[.slice be aI.length bf, .int .i64 a0_1, .slice a4 ae.length aA, .slice az af.length aw] 28 (0, 0)) (by (with_reducible repeat (first | refine zN ?_ _ | refine zD ?_ | refine zA ?_ _)); exact aa.out)) : ad ≠ ah)); have a7 := zK ((by rw [hg]; exact Nat.ne_of_gt (blk_lt (g := ad) (o := .cells #[.slice be aI.length bf, .int .i64 a0_1, .slice a4 ae.length aA, .slice az af.length aw] 28 (0, 0)) (by (with_reducible repeat (first | refine zN ?_ _ | refine zD ?_ | refine zA ?_ _)); exact aa.out)) : ah ≠ ad)); clear aa; clear HB; have aa := aC; have HB := aD; have ac := aE; have GW290 := aG; have au := aW; have aM := aZ; have ax := a7; clear aC aD aE aG aW aZ a7; clear hb hbox hg) | ((with_reducible refine gate_dst (N := 9) rfl ?_); refine Kd.R_lit (Kd.int .i64) _ 3 ?hg (N := 9) ?hd (xs := ([] : List Int)) (inner := []) (ok := fun _ => True) (okp := fun _ => True) ?hr ?hp (fun _ hk => hk) trivial (Below.refl _ _) (Nat.le_refl _) (by simp) ?_; (case hd => rfl); (case hg => rfl); (case hr => first | (go_simp; done) | (go_simp; rfl)); (case hp => exact (Reps.none _ _)); intro v292 w5 ho6 hb hg_ hnew_; clear hg_ hnew_; (first | rw [← Ny291.out] at ho6 | (simp only [Int.reduceToNat] at ho6; rw [← Ny291.out] at ho6)); have aC := zK (Kd.R_lower ho6 (below_size (by repeat (first | (with_reducible first | exact HB.out | apply zB | apply zC | apply zE | refine zS ?_ ar.out | refine zS ?_ au.out) | exact HB.out)))); have aD := zK (blk_below (g := ad) (o := .cells #[.slice be aI.length bf, .int .i64 a0_1, .slice a4 ae.length aA, .slice az af.length aw] 28 (0, 0)) (by (with_reducible repeat (first | refine zN ?_ _ | refine zD ?_ | refine zA ?_ _)); exact aa.out) hb); have aE := zK (blk_below (g := ah) (o := .cells #[.slice none 0 0, .int .i64 0, .slice none 0 0, .slice none 0 0] 28 (0, 0)) (by (with_reducible repeat (first | refine zN ?_ _ | refine zD ?_ | refine zA ?_ _)); exact ac.out) hb); have aG := zK (below_step (by repeat (first | (with_reducible first | exact HB.out | apply zB | apply zC | apply zE | refine zS ?_ ar.out | refine zS ?_ au.out) | exact HB.out)) hb); clear aa; clear ac; clear HB; have bF := aC; have aa := aD; have ac := aE; have HB := aG; clear aC aD aE aG; clear hb ho6; have hnb7 := aM.out; have hnc7 := ax.out; have bX : w5.cell? ⟨ad, 0, none⟩ = some (.slice be aI.length bf) := (blk_cell aa.out 0).trans rfl; have bY : w5.cell? ⟨ad, 1, none⟩ = some (.int .i64 a0_1) := (blk_cell aa.out 1).trans rfl; have bZ : w5.cell? ⟨ad, 2, none⟩ = some (.slice a4 ae.length aA) := (blk_cell aa.out 2).trans rfl; have b0 : w5.cell? ⟨ad, 3, none⟩ = some (.slice az af.length aw) := (blk_cell aa.out 3).trans rfl; have b1 := blk_frozen aa.out 0; have b2 := blk_frozen aa.out 1; have b3 := blk_frozen aa.out 2; have b4 := blk_frozen aa.out 3) | ((with_reducible refine gate_builtin (b := .append) (xs := #[.tmp 9, .tmp 11]) rfl ?_); at_builtin; refine Kd.R_append_rows (Kd.int .i64) (w0 := w) w.heap.size rfl (.tmp 9) (.tmp 11) 24 3 (.int .i64 0) 8 rfl Try.underlying24 info3 rfl (by decide) (by omega) v292 bn aI _ _ _ (fun _ => True) (fun _ => False) rfl rfl ?aO ?aR (fun _ _ h => h) (fun _ h => h.elim) ?aF ?aB ?aS ?aL ?_; (case aR => repeat (first | exact (Kd.C_below db.out HB.out) | (with_reducible refine Kd.C_alloc ?_ _) | (with_reducible refine Kd.C_drewN ?_ _) | (with_reducible refine Kd.C_drew ?_))); (case aB => exact (by repeat (first | (with_reducible first | exact HB.out | apply zB | apply zC | apply zE | refine zS ?_ ar.out | refine zS ?_ au.out) | exact HB.out))); (case aF => exact (fun _ _ => trivial)); (case aO => exact (by (with_reducible repeat (first | apply Kd.R_alloc | apply Kd.R_drewN | apply Kd.R_drew)); exact bF.out)); (case aS => exact (below_size (by repeat (first | (with_reducible first | exact HB.out | apply zB | apply zC | apply zE | refine zS ?_ ar.out | refine zS ?_ au.out) | exact HB.out)))); (case aL => have := LMc2.out; omega); intro v295 w9 ho hb hg hat; rw [← Ny294.out] at ho; have aC := zK (blk_grown (g := ad) (o := .cells #[.slice be aI.length bf, .int .i64 a0_1, .slice a4 ae.length aA, .slice az af.length aw] 28 (0, 0)) (by (with_reducible repeat (first | refine zN ?_ _ | refine zD ?_ | refine zA ?_ _)); exact aa.out) hg (Kd.R_ne bF.out aa.out (by decide))); have aD := zK (blk_grown (g := ah) (o := .cells #[.slice none 0 0, .int .i64 0, .slice none 0 0, .slice none 0 0] 28 (0, 0)) (by (with_reducible repeat (first | refine zN ?_ _ | refine zD ?_ | refine zA ?_ _)); exact ac.out) hg (Kd.R_ne bF.out ac.out (by decide))); have aE := zK (hb); have aG := zK (ho); clear aa; clear ac; clear HB; clear bF; have aa := aC; have ac := aD; have HB := aE; have bk := aG; clear aC aD aE aG; clear ho hb hg hat; obtain ⟨ao, ap, eo10⟩ := Kd.R_slice bk.out; subst eo10; have bG : w9.cell? ⟨ad, 0, none⟩ = some (.slice be aI.length bf) := (blk_cell aa.out 0).trans rfl; have bH : w9.cell? ⟨ad, 1, none⟩ = some (.int .i64 a0_1) := (blk_cell aa.out 1).trans rfl; have bI : w9.cell? ⟨ad, 2, none⟩ = some (.slice a4 ae.length aA) := (blk_cell aa.out 2).trans rfl; have bJ : w9.cell? ⟨ad, 3, none⟩ = some (.slice az af.length aw) := (blk_cell aa.out 3).trans rfl; have bK := blk_frozen aa.out 0; have bL := blk_frozen aa.out 1; have bM := blk_frozen aa.out 2; have bN := blk_frozen aa.out 3) | ((with_reducible refine gate_dst (N := 14) rfl ?_); refine Kd.S_lit k69 _ 69 ?hg (N := 14) ?hd (xs := ([] : List (S69))) (inner := []) (ok := fun _ => True) (okp := fun _ => True) ?hr ?hp (fun _ hk => hk) trivial (Below.refl _ _) (Nat.le_refl _) (by simp) ?_; (case hd => rfl); (case hg => rfl); (case hr => first | (go_simp; done) | (go_simp; rfl)); (case hp => exact (Reps.none _ _)); intro v298 w12 ho13 hb hg_ hnew_; clear hg_ hnew_; (first | rw [← Ny297.out] at ho13 | (simp only [Int.reduceToNat] at ho13; rw [← Ny297.out] at ho13)); have aC := zK (Kd.R_below (by (with_reducible repeat (first | apply Kd.R_alloc | apply Kd.R_drewN | apply Kd.R_drew)); exact (Kd.R_mono (Kd.R_far (p := ⟨ad, 0, none⟩) (Kd.R_types bk.out aa.out (by decide)) (fun _ hk => hk.2) (.slice ao ag.length ap)) (fun _ h_ => h_.1))) hb); have aD := zK (Kd.S_lower (Kd.S_new' ho13 (Kd.R_lt (by (with_reducible repeat (first | apply Kd.R_alloc | apply Kd.R_drewN | apply Kd.R_drew)); exact (Kd.R_mono (Kd.R_far (p := ⟨ad, 0, none⟩) (Kd.R_types bk.out aa.out (by decide)) (fun _ hk => hk.2) (.slice ao ag.length ap)) (fun _ h_ => h_.1))))) (below_size (by repeat (first | (with_reducible first | exact HB.out | apply zB | apply zC | apply zE | refine zS ?_ ar.out | refine zS ?_ au.out) | exact HB.out)))); have aE := zK (blk_below (g := ad) (o := .cells #[.slice ao ag.length ap, .int .i64 a0_1, .slice a4 ae.length aA, .slice az af.length aw] 28 (0, 0)) (by (with_reducible repeat (first | refine zN ?_ _ | refine zD ?_ | refine zA ?_ _)); refine blk_put (cs := #[.slice be aI.length bf, .int .i64 a0_1, .slice a4 ae.length aA, .slice az af.length aw]) ?_ 0 _ rfl; (with_reducible repeat (first | refine zN ?_ _ | refine zD ?_ | refine zA ?_ _)); exact aa.out) hb); have aG := zK (blk_below (g := ah) (o := .cells #[.slice none 0 0, .int .i64 0, .slice none 0 0, .slice none 0 0] 28 (0, 0)) (by (with_reducible repeat (first | refine zN ?_ _ | refine zD ?_ | refine zA ?_ _)); refine blk_far ?_ ax.out _; (with_reducible repeat (first | refine zN ?_ _ | refine zD ?_ | refine zA ?_ _)); exact ac.out) hb); have aW := zK (below_step (by repeat (first | (with_reducible first | exact HB.out | apply zB | apply zC | apply zE | refine zS ?_ ar.out | refine zS ?_ au.out) | exact HB.out)) hb); clear bk; clear aa; clear ac; clear HB; have bk := aC; have df := aD; have aa := aE; have ac := aG; have HB := aW; clear aC aD aE aG aW; clear hb ho13))
  go_loopg [3, 4] k (fun kq v3 v4 w' => ∃ (av : List (S69)) (ai : Int), v4 = .int .i64 ai ∧ Aside0 (spec_l05Copy.l0 kq av ai ag a0_1 ae af = some (r1, r2, r3, r4)) ∧ Aside0 (kq ≤ k) ∧ Aside0 (Kd.S k69 69 w' w.heap.size (fun k_ => some k_ ≠ ((.slice ao ag.length ap) : Value).ownBlock) v3 av) ∧ Aside0 (Kd.R (Kd.int .i64) 3 w' w.heap.size (fun _ => True) (.slice ao ag.length ap) ag) ∧ Aside0 (w'.heap[ad]? = some (.cells #[(.slice ao ag.length ap), .int .i64 a0_1, (.slice a4 ae.length aA), (.slice az af.length aw)] 28 (0, 0))) ∧ Aside0 (w'.heap[ah]? = some (.cells #[(.slice none 0 0), .int .i64 0, (.slice none 0 0), (.slice none 0 0)] 28 (0, 0))) ∧ Aside0 (Below w.heap.size w w'))
  case atStart => exact ⟨(de), (0), (by first | rfl | (simp; done) | (simp [*]; done)), H', ⟨Nat.le_refl _⟩, ⟨by (with_reducible repeat (first | apply Kd.S_alloc | apply Kd.S_drewN | apply Kd.S_drew)); exact Kd.S_mono df.out (fun _ hk => hk.2)⟩, ⟨by (with_reducible repeat (first | apply Kd.R_alloc | apply Kd.R_drewN | apply Kd.R_drew)); exact bk.out⟩, ⟨by (with_reducible repeat (first | refine zN ?_ _ | refine zD ?_ | refine zA ?_ _)); exact aa.out⟩, ⟨by (with_reducible repeat (first | refine zN ?_ _ | refine zD ?_ | refine zA ?_ _)); exact ac.out⟩, ⟨by repeat (first | (with_reducible first | exact HB.out | apply zB | apply zC | apply zE | refine zS ?_ ar.out | refine zS ?_ au.out) | exact HB.out)⟩⟩
  case round =>
   clear H'
   try clear c2
   try clear p2
   try clear c6
   try clear c7
   try clear bG
   try clear bH
   try clear bI
   try clear bJ
   try clear bX
   try clear bY
   try clear bZ
   try clear b0
   try clear bK
   try clear bL
   try clear bM
   try clear bN
   try clear b1
   try clear b2
   try clear b3
   try clear b4
   obtain ⟨av, ai, rfl, HA, HK1, ay, ab, aa, ac, HB⟩ := hrel
   cases gk with
   | zero => exact absurd HA.out (by simp [spec_l05Copy.l0])
   | succ k1 =>
    have H := HA.out; clear HA
    simp only [spec_l05Copy.l0] at H
    by_cases cY : ai < (ae.length : Int)
    ·rw [if_pos cY] at H
     have cX : decide (ai < (ae.length : Int)) = true := decide_eq_true cY
     clear cY
     by_cases dg : 0 ≤ ai
     ·rw [if_pos dg] at H
      have dh : decide (0 ≤ ai) = true := decide_eq_true dg
      clear dg
      obtain ⟨b5, br⟩ : ∃ y_ : List Int, y_ = (([] : List Int)) := ⟨_, rfl⟩
      replace H : (if b5.length + ((rd_T69 ae ai).f2).length < 17592186044416 then (if av.length < 3518437208883 then (spec_l05Copy.l0 k1 (av ++ [(⟨(rd_T69 ae ai).f0, (rd_T69 ae ai).f1, (b5 ++ ((rd_T69 ae ai).f2))⟩ : S69)]) (wrap64 (ai + 1)) ag a0_1 ae af) else (none)) else (none)) = some (r1, r2, r3, r4) := by first | (rw [br]; with_reducible exact H) | (have H2_ := (Option.bind_some _ _).symm.trans H; rw [br]; with_reducible exact H2_) | (have H2_ := (Option.bind_some _ _).symm.trans H; with_reducible exact H2_) | with_reducible exact H | (rw [br]; exact H) | exact H
      have Ny302 := zK br; clear br
      by_cases di : b5.length + ((rd_T69 ae ai).f2).length < 17592186044416
      ·rw [if_pos di] at H
       have dj := zK di; clear di
       obtain ⟨aX, bs⟩ : ∃ y_ : List Int, y_ = (b5 ++ ((rd_T69 ae ai).f2)) := ⟨_, rfl⟩
       replace H : (if av.length < 3518437208883 then (spec_l05Copy.l0 k1 (av ++ [(⟨(rd_T69 ae ai).f0, (rd_T69 ae ai).f1, aX⟩ : S69)]) (wrap64 (ai + 1)) ag a0_1 ae af) else (none)) = some (r1, r2, r3, r4) := by first | (rw [bs]; with_reducible exact H) | (have H2_ := (Option.bind_some _ _).symm.trans H; rw [bs]; with_reducible exact H2_) | (have H2_ := (Option.bind_some _ _).symm.trans H; with_reducible exact H2_) | with_reducible exact H | (rw [bs]; exact H) | exact H
       have Ny305 := zK bs; clear bs
       by_cases dk : av.length < 3518437208883
       ·rw [if_pos dk] at H
        have dl := zK dk; clear dk
        obtain ⟨dm, bu⟩ : ∃ y_ : List (S69), y_ = (av ++ [(⟨(rd_T69 ae ai).f0, (rd_T69 ae ai).f1, aX⟩ : S69)]) := ⟨_, rfl⟩
        replace H : (spec_l05Copy.l0 k1 dm (wrap64 (ai + 1)) ag a0_1 ae af) = some (r1, r2, r3, r4) := by first | (rw [bu]; with_reducible exact H) | (have H2_ := (Option.bind_some _ _).symm.trans H; rw [bu]; with_reducible exact H2_) | (have H2_ := (Option.bind_some _ _).symm.trans H; with_reducible exact H2_) | with_reducible exact H | (rw [bu]; exact H) | exact H
        have Ny308 := zK bu; clear bu; have H' := zK H; clear H; have hnb18 := aM.out; have hnc18 := ax.out
        have cb : wr.cell? ⟨ad, 0, none⟩ = some (.slice ao ag.length ap) := (blk_cell aa.out 0).trans rfl
        have cc : wr.cell? ⟨ad, 1, none⟩ = some (.int .i64 a0_1) := (blk_cell aa.out 1).trans rfl
        have cd : wr.cell? ⟨ad, 2, none⟩ = some (.slice a4 ae.length aA) := (blk_cell aa.out 2).trans rfl
        have ce : wr.cell? ⟨ad, 3, none⟩ = some (.slice az af.length aw) := (blk_cell aa.out 3).trans rfl
        have cf := blk_frozen aa.out 0; have cg := blk_frozen aa.out 1; have ch := blk_frozen aa.out 2; have ci := blk_frozen aa.out 3
        have cj : 0 ≤ (ai : Int) := of_decide_eq_true (by first | (with_reducible assumption) | assumption)
        have ck : ai < (ae.length : Int) := of_decide_eq_true (by first | (with_reducible assumption) | assumption)
        obtain ⟨bg, a0, a1, e300, bb, bc, bd, bO, bP⟩ := at_T69 dc.out ai cj ck
        cases e300
        replace bb := (HB.out.cell (World.block_lt_of_cell? w _ bb)).trans bb
        replace bc := (HB.out.cell (World.block_lt_of_cell? w _ bc)).trans bc
        replace bd := (HB.out.cell (World.block_lt_of_cell? w _ bd)).trans bd
        have cl := zK bP; have HC300_2 := zK bO; clear bP bO; replace cj := eq_true cj; replace ck := eq_true ck
        go_wp2_with (first | ((with_reducible refine gate_dst (N := 5) rfl ?_); refine box_event ?hg (N := 5) ?hd (cs := #[.int .i64 0, .int .i64 0, .slice none 0 0]) (t := 69) ?hr ?_; (case hd => rfl); (case hg => rfl); (case hr => first | (go_simp; done) | (go_simp; rfl)); intro aj hg w20 hbox hb; have aC := zK (Kd.S_below (Kd.S_elderB (by (with_reducible repeat (first | apply Kd.S_alloc | apply Kd.S_drewN | apply Kd.S_drew)); exact ay.out) aj (Nat.le_of_eq hg.symm)) hb); have aD := zK (Kd.R_below (by (with_reducible repeat (first | apply Kd.R_alloc | apply Kd.R_drewN | apply Kd.R_drew)); exact ab.out) hb); have aE := zK (blk_below (g := ad) (o := .cells #[.slice ao ag.length ap, .int .i64 a0_1, .slice (some bg) ae.length aA, .slice az af.length aw] 28 (0, 0)) (by (with_reducible repeat (first | refine zN ?_ _ | refine zD ?_ | refine zA ?_ _)); exact aa.out) hb); have aG := zK (blk_below (g := ah) (o := .cells #[.slice none 0 0, .int .i64 0, .slice none 0 0, .slice none 0 0] 28 (0, 0)) (by (with_reducible repeat (first | refine zN ?_ _ | refine zD ?_ | refine zA ?_ _)); exact ac.out) hb); have aW := zK (below_step (by repeat (first | (with_reducible first | exact HB.out | apply zB | apply zC | apply zE | refine zS ?_ ar.out | refine zS ?_ au.out) | exact HB.out)) hb); have aZ := zK (hbox); have a7 := zK ((by rw [hg]; exact (below_size (by repeat (first | (with_reducible first | exact HB.out | apply zB | apply zC | apply zE | refine zS ?_ ar.out | refine zS ?_ au.out) | exact HB.out))) : w.heap.size ≤ aj)); have bQ := zK ((by rw [hg]; exact (below_size (by repeat (first | (with_reducible first | exact HB.out | apply zB | apply zC | apply zE | refine zS ?_ ar.out | refine zS ?_ au.out) | exact HB.out))) : w.heap.size ≤ aj)); have dn := zK ((by rw [hg]; exact Nat.ne_of_lt (blk_lt (g := ad) (o := .cells #[.slice ao ag.length ap, .int .i64 a0_1, .slice (some bg) ae.length aA, .slice az af.length aw] 28 (0, 0)) (by (with_reducible repeat (first | refine zN ?_ _ | refine zD ?_ | refine zA ?_ _)); exact aa.out)) : ad ≠ aj)); have dp := zK ((by rw [hg]; exact Nat.ne_of_gt (blk_lt (g := ad) (o := .cells #[.slice ao ag.length ap, .int .i64 a0_1, .slice (some bg) ae.length aA, .slice az af.length aw] 28 (0, 0)) (by (with_reducible repeat (first | refine zN ?_ _ | refine zD ?_ | refine zA ?_ _)); exact aa.out)) : aj ≠ ad)); have b6 := zK ((by rw [hg]; exact Nat.ne_of_lt (blk_lt (g := ah) (o := .cells #[.slice none 0 0, .int .i64 0, .slice none 0 0, .slice none 0 0] 28 (0, 0)) (by (with_reducible repeat (first | refine zN ?_ _ | refine zD ?_ | refine zA ?_ _)); exact ac.out)) : ah ≠ aj)); have b7 := zK ((by rw [hg]; exact Nat.ne_of_gt (blk_lt (g := ah) (o := .cells #[.slice none 0 0, .int .i64 0, .slice none 0 0, .slice none 0 0] 28 (0, 0)) (by (with_reducible repeat (first | refine zN ?_ _ | refine zD ?_ | refine zA ?_ _)); exact ac.out)) : aj ≠ ah)); clear ay; clear ab; clear aa; clear ac; clear HB; have ay := aC; have ab := aD; have aa := aE; have ac := aG; have HB := aW; have ak := aZ; have GW301 := a7; have ba := bQ; have aN := dn; have bT := dp; have aQ := b6; have bU := b7; clear aC aD aE aG aW aZ a7 bQ dn dp b6 b7; clear hb hbox hg; have hnb21 := bT.out; have hnc21 := aN.out; have hnb22 := bU.out; have hnc22 := aQ.out; have cm : w20.cell? ⟨aj, 0, none⟩ = some (.int .i64 0) := (blk_cell ak.out 0).trans rfl; have cn : w20.cell? ⟨aj, 1, none⟩ = some (.int .i64 0) := (blk_cell ak.out 1).trans rfl; have co : w20.cell? ⟨aj, 2, none⟩ = some (.slice none 0 0) := (blk_cell ak.out 2).trans rfl; have cp := blk_frozen ak.out 0; have cq := blk_frozen ak.out 1; have cr := blk_frozen ak.out 2) | ((with_reducible refine gate_dst (N := 27) rfl ?_); refine Kd.R_lit (Kd.int .i64) _ 3 ?hg (N := 27) ?hd (xs := ([] : List Int)) (inner := []) (ok := fun _ => True) (okp := fun _ => True) ?hr ?hp (fun _ hk => hk) trivial (Below.refl _ _) (Nat.le_refl _) (by simp) ?_; (case hd => rfl); (case hg => rfl); (case hr => first | (go_simp; done) | (go_simp; rfl)); (case hp => exact (Reps.none _ _)); intro v303 w24 ho25 hb hg_ hnew_; clear hg_ hnew_; (first | rw [← Ny302.out] at ho25 | (simp only [Int.reduceToNat] at ho25; rw [← Ny302.out] at ho25)); have aC := zK (Kd.S_elder' (by (with_reducible repeat (first | apply Kd.S_alloc | apply Kd.S_drewN | apply Kd.S_drew)); exact (Kd.S_mono (Kd.S_far (p := ⟨aj, 2, none⟩) (Kd.S_far (p := ⟨aj, 1, none⟩) (Kd.S_far (p := ⟨aj, 0, none⟩) (Kd.S_mono ay.out (fun k_ hk => (⟨hk, hk.2⟩ : _ ∧ k_ ≠ aj))) (fun _ hk => hk.2) (.int .i64 ((rd_T69 ae ai).f0))) (fun _ hk => hk.2) (.int .i64 ((rd_T69 ae ai).f1))) (fun _ hk => hk.2) (.slice a0 ((rd_T69 ae ai).f2).length a1)) (fun _ h_ => h_.1))) (Kd.R_base ho25) hb); have aD := zK (Kd.R_elder' (by (with_reducible repeat (first | apply Kd.R_alloc | apply Kd.R_drewN | apply Kd.R_drew)); exact (Kd.R_mono (Kd.R_far (p := ⟨aj, 2, none⟩) (Kd.R_far (p := ⟨aj, 1, none⟩) (Kd.R_far (p := ⟨aj, 0, none⟩) (Kd.R_types ab.out ak.out (by decide)) (fun _ hk => hk.2) (.int .i64 ((rd_T69 ae ai).f0))) (fun _ hk => hk.2) (.int .i64 ((rd_T69 ae ai).f1))) (fun _ hk => hk.2) (.slice a0 ((rd_T69 ae ai).f2).length a1)) (fun _ h_ => h_.1))) (Kd.R_base ho25) hb); have aE := zK (Kd.R_lower (Kd.R_new' ho25 (Kd.R_lt (by (with_reducible repeat (first | apply Kd.R_alloc | apply Kd.R_drewN | apply Kd.R_drew)); exact (Kd.R_mono (Kd.R_far (p := ⟨aj, 2, none⟩) (Kd.R_far (p := ⟨aj, 1, none⟩) (Kd.R_far (p := ⟨aj, 0, none⟩) (Kd.R_types ab.out ak.out (by decide)) (fun _ hk => hk.2) (.int .i64 ((rd_T69 ae ai).f0))) (fun _ hk => hk.2) (.int .i64 ((rd_T69 ae ai).f1))) (fun _ hk => hk.2) (.slice a0 ((rd_T69 ae ai).f2).length a1)) (fun _ h_ => h_.1))))) (below_size (by repeat (first | (with_reducible first | exact HB.out | apply zB | apply zC | apply zE | refine zS ?_ ar.out | refine zS ?_ au.out | refine zS ?_ ba.out) | exact HB.out)))); have aG := zK (blk_below (g := ad) (o := .cells #[.slice ao ag.length ap, .int .i64 a0_1, .slice (some bg) ae.length aA, .slice az af.length aw] 28 (0, 0)) (by (with_reducible repeat (first | refine zN ?_ _ | refine zD ?_ | refine zA ?_ _)); refine blk_far ?_ aN.out _; (with_reducible repeat (first | refine zN ?_ _ | refine zD ?_ | refine zA ?_ _)); refine blk_far ?_ aN.out _; (with_reducible repeat (first | refine zN ?_ _ | refine zD ?_ | refine zA ?_ _)); refine blk_far ?_ aN.out _; (with_reducible repeat (first | refine zN ?_ _ | refine zD ?_ | refine zA ?_ _)); exact aa.out) hb); have aW := zK (blk_below (g := ah) (o := .cells #[.slice none 0 0, .int .i64 0, .slice none 0 0, .slice none 0 0] 28 (0, 0)) (by (with_reducible repeat (first | refine zN ?_ _ | refine zD ?_ | refine zA ?_ _)); refine blk_far ?_ aQ.out _; (with_reducible repeat (first | refine zN ?_ _ | refine zD ?_ | refine zA ?_ _)); refine blk_far ?_ aQ.out _; (with_reducible repeat (first | refine zN ?_ _ | refine zD ?_ | refine zA ?_ _)); refine blk_far ?_ aQ.out _; (with_reducible repeat (first | refine zN ?_ _ | refine zD ?_ | refine zA ?_ _)); exact ac.out) hb); have aZ := zK (blk_below (g := aj) (o := .cells #[.int .i64 ((rd_T69 ae ai).f0), .int .i64 ((rd_T69 ae ai).f1), .slice a0 ((rd_T69 ae ai).f2).length a1] 69 (0, 0)) (by (with_reducible repeat (first | refine zN ?_ _ | refine zD ?_ | refine zA ?_ _)); refine blk_put (cs := #[.int .i64 ((rd_T69 ae ai).f0), .int .i64 ((rd_T69 ae ai).f1), .slice none 0 0]) ?_ 2 _ rfl; (with_reducible repeat (first | refine zN ?_ _ | refine zD ?_ | refine zA ?_ _)); refine blk_put (cs := #[.int .i64 ((rd_T69 ae ai).f0), .int .i64 0, .slice none 0 0]) ?_ 1 _ rfl; (with_reducible repeat (first | refine zN ?_ _ | refine zD ?_ | refine zA ?_ _)); refine blk_put (cs := #[.int .i64 0, .int .i64 0, .slice none 0 0]) ?_ 0 _ rfl; (with_reducible repeat (first | refine zN ?_ _ | refine zD ?_ | refine zA ?_ _)); exact ak.out) hb); have a7 := zK (below_step (by repeat (first | (with_reducible first | exact HB.out | apply zB | apply zC | apply zE | refine zS ?_ ar.out | refine zS ?_ au.out | refine zS ?_ ba.out) | exact HB.out)) hb); clear ay; clear ab; clear aa; clear ac; clear ak; clear HB; have ay := aC; have ab := aD; have bv := aE; have aa := aG; have ac := aW; have ak := aZ; have HB := a7; clear aC aD aE aG aW aZ a7; clear hb ho25; have ct : w24.cell? ⟨aj, 0, none⟩ = some (.int .i64 ((rd_T69 ae ai).f0)) := (blk_cell ak.out 0).trans rfl; have cu : w24.cell? ⟨aj, 1, none⟩ = some (.int .i64 ((rd_T69 ae ai).f1)) := (blk_cell ak.out 1).trans rfl; have cv : w24.cell? ⟨aj, 2, none⟩ = some (.slice a0 ((rd_T69 ae ai).f2).length a1) := (blk_cell ak.out 2).trans rfl; have cw := blk_frozen ak.out 0; have cx := blk_frozen ak.out 1; have cy := blk_frozen ak.out 2) | ((with_reducible refine gate_builtin (b := .append) (xs := #[.tmp 27, .tmp 29]) rfl ?_); at_builtin; refine Kd.R_append_rows (Kd.int .i64) (w0 := w) w.heap.size rfl (.tmp 27) (.tmp 29) 24 3 (.int .i64 0) 8 rfl Try.underlying24 info3 rfl (by decide) (by omega) v303 b5 ((rd_T69 ae ai).f2) _ _ _ (fun k_ => some k_ ≠ (.slice ao ag.length ap : Value).ownBlock) (fun _ => False) rfl rfl ?aO ?aR (fun _ _ h => h) (fun _ h => h.elim) ?aF ?aB ?aS ?aL ?_; (case aR => repeat (first | exact (Kd.C_below cl.out HB.out) | (with_reducible refine Kd.C_alloc ?_ _) | (with_reducible refine Kd.C_drewN ?_ _) | (with_reducible refine Kd.C_drew ?_))); (case aB => exact (by repeat (first | (with_reducible first | exact HB.out | apply zB | apply zC | apply zE | refine zS ?_ ar.out | refine zS ?_ au.out | refine zS ?_ ba.out) | exact HB.out))); (case aF => exact (fun k_ hk => Kd.fresh' (Kd.R_lt (by (with_reducible repeat (first | apply Kd.R_alloc | apply Kd.R_drewN | apply Kd.R_drew)); exact ab.out)) k_ hk)); (case aO => exact (by (with_reducible repeat (first | apply Kd.R_alloc | apply Kd.R_drewN | apply Kd.R_drew)); exact Kd.R_mono bv.out (fun _ hk => hk.2))); (case aS => exact (below_size (by repeat (first | (with_reducible first | exact HB.out | apply zB | apply zC | apply zE | refine zS ?_ ar.out | refine zS ?_ au.out | refine zS ?_ ba.out) | exact HB.out)))); (case aL => have := dj.out; omega); intro v306 w27 ho hb hg hat; rw [← Ny305.out] at ho; have aC := zK (Kd.S_after (ok := (fun k_ => some k_ ≠ (.slice ao ag.length ap : Value).ownBlock ∧ k_ ≠ aj)) (by (with_reducible repeat (first | apply Kd.S_alloc | apply Kd.S_drewN | apply Kd.S_drew)); exact ay.out) hg hat); have aD := zK (Kd.R_after (ok := (fun _ => True)) (by (with_reducible repeat (first | apply Kd.R_alloc | apply Kd.R_drewN | apply Kd.R_drew)); exact ab.out) hg hat); have aE := zK (blk_grown (g := ad) (o := .cells #[.slice ao ag.length ap, .int .i64 a0_1, .slice (some bg) ae.length aA, .slice az af.length aw] 28 (0, 0)) (by (with_reducible repeat (first | refine zN ?_ _ | refine zD ?_ | refine zA ?_ _)); exact aa.out) hg (Kd.R_ne bv.out aa.out (by decide))); have aG := zK (blk_grown (g := ah) (o := .cells #[.slice none 0 0, .int .i64 0, .slice none 0 0, .slice none 0 0] 28 (0, 0)) (by (with_reducible repeat (first | refine zN ?_ _ | refine zD ?_ | refine zA ?_ _)); exact ac.out) hg (Kd.R_ne bv.out ac.out (by decide))); have aW := zK (blk_grown (g := aj) (o := .cells #[.int .i64 ((rd_T69 ae ai).f0), .int .i64 ((rd_T69 ae ai).f1), .slice a0 ((rd_T69 ae ai).f2).length a1] 69 (0, 0)) (by (with_reducible repeat (first | refine zN ?_ _ | refine zD ?_ | refine zA ?_ _)); exact ak.out) hg (Kd.R_ne bv.out ak.out (by decide))); have aZ := zK (hb); have a7 := zK (ho); clear ay; clear ab; clear aa; clear ac; clear ak; clear HB; clear bv; have ay := aC; have ab := aD; have aa := aE; have ac := aG; have ak := aW; have HB := aZ; have bh := a7; clear aC aD aE aG aW aZ a7; clear ho hb hg hat; obtain ⟨a8, a9, eo28⟩ := Kd.R_slice bh.out; subst eo28; have cz : w27.cell? ⟨aj, 0, none⟩ = some (.int .i64 ((rd_T69 ae ai).f0)) := (blk_cell ak.out 0).trans rfl; have cA : w27.cell? ⟨aj, 1, none⟩ = some (.int .i64 ((rd_T69 ae ai).f1)) := (blk_cell ak.out 1).trans rfl; have cB : w27.cell? ⟨aj, 2, none⟩ = some (.slice a0 ((rd_T69 ae ai).f2).length a1) := (blk_cell ak.out 2).trans rfl; have cC := blk_frozen ak.out 0; have cD := blk_frozen ak.out 1; have cE := blk_frozen ak.out 2) | ((with_reducible refine gate_store (t := 24) (p := 31) rfl ?_); refine store_event (t := 24) (p := 31) (v := ?vo_w30) (w1 := (w27.setCell ⟨aj, 2, none⟩ (.slice a8 aX.length a9))) ?hg ?ho ?hn ?hr ?_; (case ho => rfl); (case hg => rfl); (case hn => rfl); (case hr => first | (go_simp; done) | (go_simp; rfl)); intro ca hw; have aC : Aside0 (Kd.S k69 69 ca w.heap.size (fun k_ => some k_ ≠ (.slice ao ag.length ap : Value).ownBlock ∧ some k_ ≠ (.slice a8 aX.length a9 : Value).ownBlock ∧ k_ ≠ aj) u3 av) := ⟨(by rw [hw]; exact (by (with_reducible repeat (first | apply Kd.S_alloc | apply Kd.S_drewN | apply Kd.S_drew)); exact Kd.S_mono (Kd.S_far (p := ⟨aj, 2, none⟩) (Kd.S_mono ay.out (fun k_ hk => (⟨hk, hk.1.2⟩ : _ ∧ k_ ≠ aj))) (fun _ hk => hk.2) (.slice a8 aX.length a9)) (fun _ hk => ⟨hk.1.1.1, ⟨hk.1.2, hk.1.1.2⟩⟩)))⟩; have aD : Aside0 (Kd.R (Kd.int .i64) 3 ca w.heap.size (fun k_ => some k_ ≠ (.slice a8 aX.length a9 : Value).ownBlock) (.slice ao ag.length ap) ag) := ⟨(by rw [hw]; exact (by (with_reducible repeat (first | apply Kd.R_alloc | apply Kd.R_drewN | apply Kd.R_drew)); exact Kd.R_mono (Kd.R_far (p := ⟨aj, 2, none⟩) (Kd.R_types ab.out ak.out (by decide)) (fun _ hk => hk.2) (.slice a8 aX.length a9)) (fun _ hk => hk.1.2)))⟩; have aE : Aside0 (Kd.R (Kd.int .i64) 3 ca w.heap.size (fun k_ => some k_ ≠ (.slice ao ag.length ap : Value).ownBlock) (.slice a8 aX.length a9) aX) := ⟨(by rw [hw]; exact (by (with_reducible repeat (first | apply Kd.R_alloc | apply Kd.R_drewN | apply Kd.R_drew)); exact Kd.R_mono (Kd.R_far (p := ⟨aj, 2, none⟩) (Kd.R_types bh.out ak.out (by decide)) (fun _ hk => hk.2) (.slice a8 aX.length a9)) (fun _ hk => hk.1)))⟩; have aG : Aside0 (ca.heap[ad]? = some (.cells #[.slice ao ag.length ap, .int .i64 a0_1, .slice (some bg) ae.length aA, .slice az af.length aw] 28 (0, 0))) := ⟨(by rw [hw]; exact (by (with_reducible repeat (first | refine zN ?_ _ | refine zD ?_ | refine zA ?_ _)); refine blk_far ?_ aN.out _; (with_reducible repeat (first | refine zN ?_ _ | refine zD ?_ | refine zA ?_ _)); exact aa.out))⟩; have aW : Aside0 (ca.heap[ah]? = some (.cells #[.slice none 0 0, .int .i64 0, .slice none 0 0, .slice none 0 0] 28 (0, 0))) := ⟨(by rw [hw]; exact (by (with_reducible repeat (first | refine zN ?_ _ | refine zD ?_ | refine zA ?_ _)); refine blk_far ?_ aQ.out _; (with_reducible repeat (first | refine zN ?_ _ | refine zD ?_ | refine zA ?_ _)); exact ac.out))⟩; have aZ : Aside0 (ca.heap[aj]? = some (.cells #[.int .i64 ((rd_T69 ae ai).f0), .int .i64 ((rd_T69 ae ai).f1), .slice a8 aX.length a9] 69 (0, 0))) := ⟨(by rw [hw]; exact (by (with_reducible repeat (first | refine zN ?_ _ | refine zD ?_ | refine zA ?_ _)); refine blk_put (cs := #[.int .i64 ((rd_T69 ae ai).f0), .int .i64 ((rd_T69 ae ai).f1), .slice a0 ((rd_T69 ae ai).f2).length a1]) ?_ 2 _ rfl; (with_reducible repeat (first | refine zN ?_ _ | refine zD ?_ | refine zA ?_ _)); exact ak.out))⟩; have a7 : Aside0 (Below w.heap.size w ca) := ⟨(by rw [hw]; exact (by repeat (first | (with_reducible first | exact HB.out | apply zB | apply zC | apply zE | refine zS ?_ ar.out | refine zS ?_ au.out | refine zS ?_ ba.out) | exact HB.out)))⟩; clear hw; clear ay; clear ab; clear bh; clear aa; clear ac; clear ak; clear HB; have ay := aC; have ab := aD; have bh := aE; have aa := aG; have ac := aW; have ak := aZ; have HB := a7; clear aC aD aE aG aW aZ a7; have cF : ca.cell? ⟨aj, 0, none⟩ = some (.int .i64 ((rd_T69 ae ai).f0)) := (blk_cell ak.out 0).trans rfl; have cG : ca.cell? ⟨aj, 1, none⟩ = some (.int .i64 ((rd_T69 ae ai).f1)) := (blk_cell ak.out 1).trans rfl; have cH : ca.cell? ⟨aj, 2, none⟩ = some (.slice a8 aX.length a9) := (blk_cell ak.out 2).trans rfl; have cI := blk_frozen ak.out 0; have cJ := blk_frozen ak.out 1; have cK := blk_frozen ak.out 2) | ((with_reducible refine gate_builtin (b := .append) (xs := #[.tmp 32, .tmp 34]) rfl ?_); at_builtin; refine Kd.S_append k69 (w0 := w) w.heap.size rfl (.tmp 32) (.tmp 34) 25 69 (.agg #[(.int .i64 0), (.int .i64 0), (.slice none 0 0)]) 40 rfl Try.underlying25 info69 rfl (by decide) (by omega) u3 av (⟨(rd_T69 ae ai).f0, (rd_T69 ae ai).f1, aX⟩ : S69) [.int .i64 ((rd_T69 ae ai).f0), .int .i64 ((rd_T69 ae ai).f1), .slice a8 aX.length a9] (fun k_ => some k_ ≠ (.slice ao ag.length ap : Value).ownBlock ∧ k_ ≠ aj) (fun k_ => some k_ = (.slice a8 aX.length a9 : Value).ownBlock) rfl rfl ?aP (fun k_ hk_ => ((Kd.R_mono (ok' := fun k_ => ((fun k_ => some k_ ≠ (.slice ao ag.length ap : Value).ownBlock ∧ k_ ≠ aj)) k_ ∧ some k_ ≠ (u3 : Value).ownBlock) (Kd.R_types (Kd.R_apart' (bh.out) (Kd.S_typed ay.out) (by decide)) ak.out (by decide)) (fun k_ hk => ⟨⟨hk.1.1, hk.2⟩, hk.1.2⟩))).1 k_ hk_.symm) ?aF ?aO ?aB ?aS ?aL ?_; (case aP => exact k69_mkM _ _ _ (⟨(rd_T69 ae ai).f0, (rd_T69 ae ai).f1, aX⟩ : S69) (Kd.R_mono (Kd.R_tight rfl (Kd.R_mono (ok' := fun k_ => ((fun k_ => some k_ ≠ (.slice ao ag.length ap : Value).ownBlock ∧ k_ ≠ aj)) k_ ∧ some k_ ≠ (u3 : Value).ownBlock) (Kd.R_types (Kd.R_apart' (bh.out) (Kd.S_typed ay.out) (by decide)) ak.out (by decide)) (fun k_ hk => ⟨⟨hk.1.1, hk.2⟩, hk.1.2⟩))) (fun _ h_ => h_))); (case aB => exact (by repeat (first | (with_reducible first | exact HB.out | apply zB | apply zC | apply zE | refine zS ?_ ar.out | refine zS ?_ au.out | refine zS ?_ ba.out) | exact HB.out))); (case aF => exact (fun k_ hk => ⟨Kd.fresh' (Kd.R_lt (by (with_reducible repeat (first | apply Kd.R_alloc | apply Kd.R_drewN | apply Kd.R_drew)); exact ab.out)) k_ hk, Kd.freshB (g := aj) (o := .cells #[.int .i64 ((rd_T69 ae ai).f0), .int .i64 ((rd_T69 ae ai).f1), .slice a8 aX.length a9] 69 (0, 0)) (by (with_reducible repeat (first | refine zN ?_ _ | refine zD ?_ | refine zA ?_ _)); exact ak.out) k_ hk⟩)); (case aO => exact (by (with_reducible repeat (first | apply Kd.S_alloc | apply Kd.S_drewN | apply Kd.S_drew)); exact Kd.S_mono ay.out (fun k_ hk => ⟨⟨hk.1, hk.2.2⟩, fun e_ => hk.2.1 e_⟩))); (case aS => exact (below_size (by repeat (first | (with_reducible first | exact HB.out | apply zB | apply zC | apply zE | refine zS ?_ ar.out | refine zS ?_ au.out | refine zS ?_ ba.out) | exact HB.out)))); (case aL => have := dl.out; omega); intro v309 w32 ho hb hg hat; rw [← Ny308.out] at ho; have aC := zK (Kd.R_over' (by (with_reducible repeat (first | apply Kd.R_alloc | apply Kd.R_drewN | apply Kd.R_drew)); exact ab.out) (Kd.S_typed (by (with_reducible repeat (first | apply Kd.S_alloc | apply Kd.S_drewN | apply Kd.S_drew)); exact ay.out)) (by decide) hg); have aD := zK (blk_grown (g := ad) (o := .cells #[.slice ao ag.length ap, .int .i64 a0_1, .slice (some bg) ae.length aA, .slice az af.length aw] 28 (0, 0)) (by (with_reducible repeat (first | refine zN ?_ _ | refine zD ?_ | refine zA ?_ _)); exact aa.out) hg (Kd.S_ne ay.out aa.out (by decide))); have aE := zK (blk_grown (g := ah) (o := .cells #[.slice none 0 0, .int .i64 0, .slice none 0 0, .slice none 0 0] 28 (0, 0)) (by (with_reducible repeat (first | refine zN ?_ _ | refine zD ?_ | refine zA ?_ _)); exact ac.out) hg (Kd.S_ne ay.out ac.out (by decide))); have aG := zK (blk_grown (g := aj) (o := .cells #[.int .i64 ((rd_T69 ae ai).f0), .int .i64 ((rd_T69 ae ai).f1), .slice a8 aX.length a9] 69 (0, 0)) (by (with_reducible repeat (first | refine zN ?_ _ | refine zD ?_ | refine zA ?_ _)); exact ak.out) hg (Kd.S_away ay.out (fun _ hk => hk.2.2))); have aW := zK (hb); have aZ := zK (ho); clear ab; clear aa; clear ac; clear ak; clear HB; clear ay; clear bh; have ab := aC; have aa := aD; have ac := aE; have ak := aG; have HB := aW; have dq := aZ; clear aC aD aE aG aW aZ; clear ho hb hg hat))
        go_roundg k1
        case measure => have := HK1.out; omega
        case rel => exact ⟨(dm), (wrap64 (ai + 1)), (by first | rfl | (simp; done) | (simp [*]; done)), H', ⟨by have := HK1.out; omega⟩, ⟨by (with_reducible repeat (first | apply Kd.S_alloc | apply Kd.S_drewN | apply Kd.S_drew)); exact Kd.S_mono dq.out (fun _ hk => hk.1)⟩, ⟨by (with_reducible repeat (first | apply Kd.R_alloc | apply Kd.R_drewN | apply Kd.R_drew)); exact Kd.R_mono ab.out (fun _ hk => trivial)⟩, ⟨by (with_reducible repeat (first | refine zN ?_ _ | refine zD ?_ | refine zA ?_ _)); exact aa.out⟩, ⟨by (with_reducible repeat (first | refine zN ?_ _ | refine zD ?_ | refine zA ?_ _)); exact ac.out⟩, ⟨by repeat (first | (with_reducible first | exact HB.out | apply zB | apply zC | apply zE | refine zS ?_ ar.out | refine zS ?_ au.out | refine zS ?_ ba.out) | exact HB.out)⟩⟩
       ·rw [if_neg dk] at H
        exact absurd H (by simp)
      ·rw [if_neg di] at H
       exact absurd H (by simp)
     ·rw [if_neg dg] at H
      exact absurd H (by simp)
    ·rw [if_neg cY] at H
     have cX : decide (ai < (ae.length : Int)) = false := decide_eq_false cY
     clear cY
     obtain ⟨dr, bw⟩ : ∃ y_ : List (S74), y_ = (([] : List (S74))) := ⟨_, rfl⟩
     replace H : (spec_l05Copy.l1 k1 dr 0 ag a0_1 av af) = some (r1, r2, r3, r4) := by first | (rw [bw]; with_reducible exact H) | (have H2_ := (Option.bind_some _ _).symm.trans H; rw [bw]; with_reducible exact H2_) | (have H2_ := (Option.bind_some _ _).symm.trans H; with_reducible exact H2_) | with_reducible exact H | (rw [bw]; exact H) | exact H
     have Ny311 := zK bw; clear bw; have H' := zK H; clear H; have hnb33 := aM.out; have hnc33 := ax.out
     have cL : wr.cell? ⟨ad, 0, none⟩ = some (.slice ao ag.length ap) := (blk_cell aa.out 0).trans rfl
     have cM : wr.cell? ⟨ad, 1, none⟩ = some (.int .i64 a0_1) := (blk_cell aa.out 1).trans rfl
     have cN : wr.cell? ⟨ad, 2, none⟩ = some (.slice a4 ae.length aA) := (blk_cell aa.out 2).trans rfl
     have cO : wr.cell? ⟨ad, 3, none⟩ = some (.slice az af.length aw) := (blk_cell aa.out 3).trans rfl
     have cP := blk_frozen aa.out 0; have cQ := blk_frozen aa.out 1; have cR := blk_frozen aa.out 2; have cS := blk_frozen aa.out 3
     obtain ⟨aJ, aK, eo35⟩ := Kd.S_slice ay.out
     subst eo35
     obtain ⟨wN_, hwN_⟩ : ∃ w_ : World, w_ = wr := ⟨_, rfl⟩
     have HN := zK (show Below 0 wN_ wr from by rw [hwN_]; exact Below.refl _ _)
     have HW_N := zK (show w.heap.size ≤ wN_.heap.size from by rw [hwN_]; exact below_size HB.out)
     have hch_ := zK (Kd.S_mono (ok' := fun k_ => (fun k_ => some k_ ≠ ((.slice ao ag.length ap) : Value).ownBlock) k_ ∧ k_ < wN_.heap.size) (Kd.S_bound ay.out) (fun k_ hk_ => ⟨by first | exact hk_.1 | exact hk_.1.1, by rw [hwN_]; exact hk_.2.2.1⟩))
     clear ay hwN_; have ay := hch_; clear hch_
     go_wp2_with (first | ((with_reducible refine gate_dst (N := 38) rfl ?_); refine Kd.S_lit k74 _ 74 ?hg (N := 38) ?hd (xs := ([] : List (S74))) (inner := []) (ok := fun _ => True) (okp := fun _ => True) ?hr ?hp (fun _ hk => hk) trivial (Below.refl _ _) (Nat.le_refl _) (by simp) ?_; (case hd => rfl); (case hg => rfl); (case hr => first | (go_simp; done) | (go_simp; rfl)); (case hp => exact (Reps.none _ _)); intro v312 w36 ho37 hb hg_ hnew_; clear hg_ hnew_; (first | rw [← Ny311.out] at ho37 | (simp only [Int.reduceToNat] at ho37; rw [← Ny311.out] at ho37)); have aC := zK (Kd.S_below (by (with_reducible repeat (first | apply Kd.S_alloc | apply Kd.S_drewN | apply Kd.S_drew)); exact (Kd.S_mono (Kd.S_far (p := ⟨ad, 2, none⟩) (Kd.S_types ay.out aa.out (by decide)) (fun _ hk => hk.2) (.slice aJ av.length aK)) (fun _ h_ => h_.1))) hb); have aD := zK (Kd.R_below (by (with_reducible repeat (first | apply Kd.R_alloc | apply Kd.R_drewN | apply Kd.R_drew)); exact (Kd.R_mono (Kd.R_far (p := ⟨ad, 2, none⟩) (Kd.R_types ab.out aa.out (by decide)) (fun _ hk => hk.2) (.slice aJ av.length aK)) (fun _ h_ => h_.1))) hb); have aE := zK (Kd.S_lower (Kd.S_new' ho37 (Kd.R_lt (by (with_reducible repeat (first | apply Kd.R_alloc | apply Kd.R_drewN | apply Kd.R_drew)); exact (Kd.R_mono (Kd.R_far (p := ⟨ad, 2, none⟩) (Kd.R_types ab.out aa.out (by decide)) (fun _ hk => hk.2) (.slice aJ av.length aK)) (fun _ h_ => h_.1))))) (size0 (by repeat (first | (with_reducible first | exact HN.out | apply zB | apply zC | apply below_drew | apply below_set0) | exact HN.out)))); have aG := zK (blk_below (g := ad) (o := .cells #[.slice ao ag.length ap, .int .i64 a0_1, .slice aJ av.length aK, .slice az af.length aw] 28 (0, 0)) (by (with_reducible repeat (first | refine zN ?_ _ | refine zD ?_ | refine zA ?_ _)); refine blk_put (cs := #[.slice ao ag.length ap, .int .i64 a0_1, .slice a4 ae.length aA, .slice az af.length aw]) ?_ 2 _ rfl; (with_reducible repeat (first | refine zN ?_ _ | refine zD ?_ | refine zA ?_ _)); exact aa.out) hb); have aW := zK (blk_below (g := ah) (o := .cells #[.slice none 0 0, .int .i64 0, .slice none 0 0, .slice none 0 0] 28 (0, 0)) (by (with_reducible repeat (first | refine zN ?_ _ | refine zD ?_ | refine zA ?_ _)); refine blk_far ?_ ax.out _; (with_reducible repeat (first | refine zN ?_ _ | refine zD ?_ | refine zA ?_ _)); exact ac.out) hb); have aZ := zK (below_step (by repeat (first | (with_reducible first | exact HB.out | apply zB | apply zC | apply zE | refine zS ?_ ar.out | refine zS ?_ au.out) | exact HB.out)) hb); have nN_ := zK (below_step0 (by repeat (first | (with_reducible first | exact HN.out | apply zB | apply zC | apply below_drew | apply below_set0) | exact HN.out)) hb); clear ay; clear ab; clear aa; clear ac; clear HB; clear HN; have ay := aC; have ab := aD; have ds := aE; have aa := aG; have ac := aW; have HB := aZ; have HN := nN_; clear nN_; clear aC aD aE aG aW aZ; clear hb ho37))
     go_loopg [6, 7] k1 (fun kq v6 v7 w' => ∃ (aY : List (S74)) (aq : Int), v7 = .int .i64 aq ∧ Aside0 (spec_l05Copy.l1 kq aY aq ag a0_1 av af = some (r1, r2, r3, r4)) ∧ Aside0 (kq ≤ k1) ∧ Aside0 (Kd.S k74 74 w' wN_.heap.size (fun k_ => some k_ ≠ ((.slice ao ag.length ap) : Value).ownBlock) v6 aY) ∧ Aside0 (Kd.R (Kd.int .i64) 3 w' w.heap.size (fun _ => True) (.slice ao ag.length ap) ag) ∧ Aside0 (Kd.S k69 69 w' w.heap.size (fun k_ => some k_ ≠ ((.slice ao ag.length ap) : Value).ownBlock ∧ k_ < wN_.heap.size) (.slice aJ av.length aK) av) ∧ Aside0 (w'.heap[ad]? = some (.cells #[(.slice ao ag.length ap), .int .i64 a0_1, (.slice aJ av.length aK), (.slice az af.length aw)] 28 (0, 0))) ∧ Aside0 (w'.heap[ah]? = some (.cells #[(.slice none 0 0), .int .i64 0, (.slice none 0 0), (.slice none 0 0)] 28 (0, 0))) ∧ Aside0 (Below w.heap.size w w') ∧ Aside0 (Below 0 wN_ w'))
     case atStart => exact ⟨(dr), (0), (by first | rfl | (simp; done) | (simp [*]; done)), H', ⟨Nat.le_refl _⟩, ⟨by (with_reducible repeat (first | apply Kd.S_alloc | apply Kd.S_drewN | apply Kd.S_drew)); exact Kd.S_mono ds.out (fun _ hk => hk.2)⟩, ⟨by (with_reducible repeat (first | apply Kd.R_alloc | apply Kd.R_drewN | apply Kd.R_drew)); exact ab.out⟩, ⟨by (with_reducible repeat (first | apply Kd.S_alloc | apply Kd.S_drewN | apply Kd.S_drew)); exact ay.out⟩, ⟨by (with_reducible repeat (first | refine zN ?_ _ | refine zD ?_ | refine zA ?_ _)); exact aa.out⟩, ⟨by (with_reducible repeat (first | refine zN ?_ _ | refine zD ?_ | refine zA ?_ _)); exact ac.out⟩, ⟨by repeat (first | (with_reducible first | exact HB.out | apply zB | apply zC | apply zE | refine zS ?_ ar.out | refine zS ?_ au.out) | exact HB.out)⟩, ⟨by repeat (first | (with_reducible first | exact HN.out | apply zB | apply zC | apply below_drew | apply below_set0) | exact HN.out)⟩⟩
     case round =>
      clear H'
      try clear c1
      try clear c2
      try clear p2
      try clear c3
      try clear p3
      try clear q3
      try clear hx3
      try clear c6
      try clear p6
      try clear c7
      try clear cY
      try clear cX
      try clear dg
      try clear dh
      try clear di
      try clear dk
      try clear c18
      try clear c21
      try clear c22
      try clear c30
      try clear p30
      try clear q30
      try clear hx30
      try clear c33
      try clear bG
      try clear bH
      try clear bI
      try clear bJ
      try clear cb
      try clear cc
      try clear cd
      try clear ce
      try clear cm
      try clear cn
      try clear co
      try clear ct
      try clear cu
      try clear cv
      try clear cz
      try clear cA
      try clear cB
      try clear cF
      try clear cG
      try clear cH
      try clear cL
      try clear cM
      try clear cN
      try clear cO
      try clear bX
      try clear bY
      try clear bZ
      try clear b0
      try clear bK
      try clear bL
      try clear bM
      try clear bN
      try clear cf
      try clear cg
      try clear ch
      try clear ci
      try clear cp
      try clear cq
      try clear cr
      try clear cw
      try clear cx
      try clear cy
      try clear cC
      try clear cD
      try clear cE
      try clear cI
      try clear cJ
      try clear cK
      try clear cP
      try clear cQ
      try clear cR
      try clear cS
      try clear b1
      try clear b2
      try clear b3
      try clear b4
      try clear bb
      try clear bc
      try clear bd
      try clear p2
      try clear cj
      try clear ck
      obtain ⟨aY, aq, rfl, HA, HK2, aH, ab, al, aa, ac, HB, HN⟩ := hrel
      cases gk with
      | zero => exact absurd HA.out (by simp [spec_l05Copy.l1])
      | succ k2 =>
       have H := HA.out; clear HA
       simp only [spec_l05Copy.l1] at H
       by_cases da : aq < (af.length : Int)
       ·rw [if_pos da] at H
        have dt : decide (aq < (af.length : Int)) = true := decide_eq_true da
        clear da
        by_cases c39 : 0 ≤ aq
        ·rw [if_pos c39] at H
         have c39b0 : decide (0 ≤ aq) = true := decide_eq_true c39
         clear c39
         obtain ⟨b8, bx⟩ : ∃ y_ : List Int, y_ = (([] : List Int)) := ⟨_, rfl⟩
         replace H : (if b8.length + ((rd_T74 af aq).f1).length < 17592186044416 then (if aY.length < 4398046511104 then (spec_l05Copy.l1 k2 (aY ++ [(⟨(rd_T74 af aq).f0, (b8 ++ ((rd_T74 af aq).f1))⟩ : S74)]) (wrap64 (aq + 1)) ag a0_1 av af) else (none)) else (none)) = some (r1, r2, r3, r4) := by first | (rw [bx]; with_reducible exact H) | (have H2_ := (Option.bind_some _ _).symm.trans H; rw [bx]; with_reducible exact H2_) | (have H2_ := (Option.bind_some _ _).symm.trans H; with_reducible exact H2_) | with_reducible exact H | (rw [bx]; exact H) | exact H
         have Ny316 := zK bx; clear bx
         by_cases c40 : b8.length + ((rd_T74 af aq).f1).length < 17592186044416
         ·rw [if_pos c40] at H
          have du := zK c40; clear c40
          obtain ⟨aT, bz⟩ : ∃ y_ : List Int, y_ = (b8 ++ ((rd_T74 af aq).f1)) := ⟨_, rfl⟩
          replace H : (if aY.length < 4398046511104 then (spec_l05Copy.l1 k2 (aY ++ [(⟨(rd_T74 af aq).f0, aT⟩ : S74)]) (wrap64 (aq + 1)) ag a0_1 av af) else (none)) = some (r1, r2, r3, r4) := by first | (rw [bz]; with_reducible exact H) | (have H2_ := (Option.bind_some _ _).symm.trans H; rw [bz]; with_reducible exact H2_) | (have H2_ := (Option.bind_some _ _).symm.trans H; with_reducible exact H2_) | with_reducible exact H | (rw [bz]; exact H) | exact H
          have Ny319 := zK bz; clear bz
          by_cases c41 : aY.length < 4398046511104
          ·rw [if_pos c41] at H
           have dv := zK c41; clear c41
           obtain ⟨dw, bA⟩ : ∃ y_ : List (S74), y_ = (aY ++ [(⟨(rd_T74 af aq).f0, aT⟩ : S74)]) := ⟨_, rfl⟩
           replace H : (spec_l05Copy.l1 k2 dw (wrap64 (aq + 1)) ag a0_1 av af) = some (r1, r2, r3, r4) := by first | (rw [bA]; with_reducible exact H) | (have H2_ := (Option.bind_some _ _).symm.trans H; rw [bA]; with_reducible exact H2_) | (have H2_ := (Option.bind_some _ _).symm.trans H; with_reducible exact H2_) | with_reducible exact H | (rw [bA]; exact H) | exact H
           have Ny322 := zK bA; clear bA; have H' := zK H; clear H; have hnb42 := aM.out; have hnc42 := ax.out
           have hcz43_0 : wr.cell? ⟨ad, 0, none⟩ = some (.slice ao ag.length ap) := (blk_cell aa.out 0).trans rfl
           have hcz43_1 : wr.cell? ⟨ad, 1, none⟩ = some (.int .i64 a0_1) := (blk_cell aa.out 1).trans rfl
           have hcz43_2 : wr.cell? ⟨ad, 2, none⟩ = some (.slice aJ av.length aK) := (blk_cell aa.out 2).trans rfl
           have hcz43_3 : wr.cell? ⟨ad, 3, none⟩ = some (.slice az af.length aw) := (blk_cell aa.out 3).trans rfl
           have hfz43_0 := blk_frozen aa.out 0; have hfz43_1 := blk_frozen aa.out 1; have hfz43_2 := blk_frozen aa.out 2; have hfz43_3 := blk_frozen aa.out 3
           have cZ : 0 ≤ (aq : Int) := of_decide_eq_true (by first | (with_reducible assumption) | assumption)
           have c0 : aq < (af.length : Int) := of_decide_eq_true (by first | (with_reducible assumption) | assumption)
           obtain ⟨bi, aU, aV, e314, bl, bm, bR, bS⟩ := at_T74 dd.out aq cZ c0
           cases e314
           replace bl := (HB.out.cell (World.block_lt_of_cell? w _ bl)).trans bl
           replace bm := (HB.out.cell (World.block_lt_of_cell? w _ bm)).trans bm
           have cT := zK bS; have HC314_1 := zK bR; clear bS bR; replace cZ := eq_true cZ; replace c0 := eq_true c0
           go_wp2_with (first | ((with_reducible refine gate_dst (N := 8) rfl ?_); refine box_event ?hg (N := 8) ?hd (cs := #[.int .i64 0, .slice none 0 0]) (t := 74) ?hr ?_; (case hd => rfl); (case hg => rfl); (case hr => first | (go_simp; done) | (go_simp; rfl)); intro am hg w44 hbox hb; have aC := zK (Kd.S_below (Kd.S_elderB (by (with_reducible repeat (first | apply Kd.S_alloc | apply Kd.S_drewN | apply Kd.S_drew)); exact aH.out) am (Nat.le_of_eq hg.symm)) hb); have aD := zK (Kd.R_below (by (with_reducible repeat (first | apply Kd.R_alloc | apply Kd.R_drewN | apply Kd.R_drew)); exact ab.out) hb); have aE := zK (Kd.S_below (by (with_reducible repeat (first | apply Kd.S_alloc | apply Kd.S_drewN | apply Kd.S_drew)); exact al.out) hb); have aG := zK (blk_below (g := ad) (o := .cells #[.slice ao ag.length ap, .int .i64 a0_1, .slice aJ av.length aK, .slice (some bi) af.length aw] 28 (0, 0)) (by (with_reducible repeat (first | refine zN ?_ _ | refine zD ?_ | refine zA ?_ _)); exact aa.out) hb); have aW := zK (blk_below (g := ah) (o := .cells #[.slice none 0 0, .int .i64 0, .slice none 0 0, .slice none 0 0] 28 (0, 0)) (by (with_reducible repeat (first | refine zN ?_ _ | refine zD ?_ | refine zA ?_ _)); exact ac.out) hb); have aZ := zK (below_step (by repeat (first | (with_reducible first | exact HB.out | apply zB | apply zC | apply zE | refine zS ?_ ar.out | refine zS ?_ au.out) | exact HB.out)) hb); have nN_ := zK (below_step0 (by repeat (first | (with_reducible first | exact HN.out | apply zB | apply zC | apply below_drew | apply below_set0) | exact HN.out)) hb); have a7 := zK (hbox); have bQ := zK ((by rw [hg]; exact (below_size (by repeat (first | (with_reducible first | exact HB.out | apply zB | apply zC | apply zE | refine zS ?_ ar.out | refine zS ?_ au.out) | exact HB.out))) : w.heap.size ≤ am)); have dn := zK ((by rw [hg]; exact (below_size (by repeat (first | (with_reducible first | exact HB.out | apply zB | apply zC | apply zE | refine zS ?_ ar.out | refine zS ?_ au.out) | exact HB.out))) : w.heap.size ≤ am)); have dp := zK ((by rw [hg]; exact Nat.ne_of_lt (blk_lt (g := ad) (o := .cells #[.slice ao ag.length ap, .int .i64 a0_1, .slice aJ av.length aK, .slice (some bi) af.length aw] 28 (0, 0)) (by (with_reducible repeat (first | refine zN ?_ _ | refine zD ?_ | refine zA ?_ _)); exact aa.out)) : ad ≠ am)); have b6 := zK ((by rw [hg]; exact Nat.ne_of_gt (blk_lt (g := ad) (o := .cells #[.slice ao ag.length ap, .int .i64 a0_1, .slice aJ av.length aK, .slice (some bi) af.length aw] 28 (0, 0)) (by (with_reducible repeat (first | refine zN ?_ _ | refine zD ?_ | refine zA ?_ _)); exact aa.out)) : am ≠ ad)); have b7 := zK ((by rw [hg]; exact Nat.ne_of_lt (blk_lt (g := ah) (o := .cells #[.slice none 0 0, .int .i64 0, .slice none 0 0, .slice none 0 0] 28 (0, 0)) (by (with_reducible repeat (first | refine zN ?_ _ | refine zD ?_ | refine zA ?_ _)); exact ac.out)) : ah ≠ am)); have dx := zK ((by rw [hg]; exact Nat.ne_of_gt (blk_lt (g := ah) (o := .cells #[.slice none 0 0, .int .i64 0, .slice none 0 0, .slice none 0 0] 28 (0, 0)) (by (with_reducible repeat (first | refine zN ?_ _ | refine zD ?_ | refine zA ?_ _)); exact ac.out)) : am ≠ ah)); clear aH; clear ab; clear al; clear aa; clear ac; clear HB; clear HN; have aH := aC; have ab := aD; have al := aE; have aa := aG; have ac := aW; have HB := aZ; have HN := nN_; clear nN_; have an := a7; have GW315 := bQ; have bB := dn; have a2 := dp; have bV := b6; have a3 := b7; have bW := dx; clear aC aD aE aG aW aZ a7 bQ dn dp b6 b7 dx; clear hb hbox hg; have hnb45 := bV.out; have hnc45 := a2.out; have hnb46 := bW.out; have hnc46 := a3.out; have hcz47_0 : w44.cell? ⟨am, 0, none⟩ = some (.int .i64 0) := (blk_cell an.out 0).trans rfl; have hcz47_1 : w44.cell? ⟨am, 1, none⟩ = some (.slice none 0 0) := (blk_cell an.out 1).trans rfl; have hfz47_0 := blk_frozen an.out 0; have hfz47_1 := blk_frozen an.out 1) | ((with_reducible refine gate_dst (N := 51) rfl ?_); refine Kd.R_lit (Kd.int .i64) _ 3 ?hg (N := 51) ?hd (xs := ([] : List Int)) (inner := []) (ok := fun _ => True) (okp := fun _ => True) ?hr ?hp (fun _ hk => hk) trivial (Below.refl _ _) (Nat.le_refl _) (by simp) ?_; (case hd => rfl); (case hg => rfl); (case hr => first | (go_simp; done) | (go_simp; rfl)); (case hp => exact (Reps.none _ _)); intro v317 w48 ho49 hb hg_ hnew_; clear hg_ hnew_; (first | rw [← Ny316.out] at ho49 | (simp only [Int.reduceToNat] at ho49; rw [← Ny316.out] at ho49)); have aC := zK (Kd.S_elder' (by (with_reducible repeat (first | apply Kd.S_alloc | apply Kd.S_drewN | apply Kd.S_drew)); exact (Kd.S_mono (Kd.S_far (p := ⟨am, 1, none⟩) (Kd.S_far (p := ⟨am, 0, none⟩) (Kd.S_mono aH.out (fun k_ hk => (⟨hk, hk.2⟩ : _ ∧ k_ ≠ am))) (fun _ hk => hk.2) (.int .i64 ((rd_T74 af aq).f0))) (fun _ hk => hk.2) (.slice aU ((rd_T74 af aq).f1).length aV)) (fun _ h_ => h_.1))) (Kd.R_base ho49) hb); have aD := zK (Kd.R_elder' (by (with_reducible repeat (first | apply Kd.R_alloc | apply Kd.R_drewN | apply Kd.R_drew)); exact (Kd.R_mono (Kd.R_far (p := ⟨am, 1, none⟩) (Kd.R_far (p := ⟨am, 0, none⟩) (Kd.R_types ab.out an.out (by decide)) (fun _ hk => hk.2) (.int .i64 ((rd_T74 af aq).f0))) (fun _ hk => hk.2) (.slice aU ((rd_T74 af aq).f1).length aV)) (fun _ h_ => h_.1))) (Kd.R_base ho49) hb); have aE := zK (Kd.S_elder' (by (with_reducible repeat (first | apply Kd.S_alloc | apply Kd.S_drewN | apply Kd.S_drew)); exact (Kd.S_mono (Kd.S_far (p := ⟨am, 1, none⟩) (Kd.S_far (p := ⟨am, 0, none⟩) (Kd.S_types al.out an.out (by decide)) (fun _ hk => hk.2) (.int .i64 ((rd_T74 af aq).f0))) (fun _ hk => hk.2) (.slice aU ((rd_T74 af aq).f1).length aV)) (fun _ h_ => h_.1))) (Kd.R_base ho49) hb); have aG := zK (Kd.R_lower (Kd.R_new' ho49 (Kd.R_lt (by (with_reducible repeat (first | apply Kd.R_alloc | apply Kd.R_drewN | apply Kd.R_drew)); exact (Kd.R_mono (Kd.R_far (p := ⟨am, 1, none⟩) (Kd.R_far (p := ⟨am, 0, none⟩) (Kd.R_types ab.out an.out (by decide)) (fun _ hk => hk.2) (.int .i64 ((rd_T74 af aq).f0))) (fun _ hk => hk.2) (.slice aU ((rd_T74 af aq).f1).length aV)) (fun _ h_ => h_.1))))) (size0 (by repeat (first | (with_reducible first | exact HN.out | apply zB | apply zC | apply below_drew | apply below_set0) | exact HN.out)))); have aW := zK (blk_below (g := ad) (o := .cells #[.slice ao ag.length ap, .int .i64 a0_1, .slice aJ av.length aK, .slice (some bi) af.length aw] 28 (0, 0)) (by (with_reducible repeat (first | refine zN ?_ _ | refine zD ?_ | refine zA ?_ _)); refine blk_far ?_ a2.out _; (with_reducible repeat (first | refine zN ?_ _ | refine zD ?_ | refine zA ?_ _)); refine blk_far ?_ a2.out _; (with_reducible repeat (first | refine zN ?_ _ | refine zD ?_ | refine zA ?_ _)); exact aa.out) hb); have aZ := zK (blk_below (g := ah) (o := .cells #[.slice none 0 0, .int .i64 0, .slice none 0 0, .slice none 0 0] 28 (0, 0)) (by (with_reducible repeat (first | refine zN ?_ _ | refine zD ?_ | refine zA ?_ _)); refine blk_far ?_ a3.out _; (with_reducible repeat (first | refine zN ?_ _ | refine zD ?_ | refine zA ?_ _)); refine blk_far ?_ a3.out _; (with_reducible repeat (first | refine zN ?_ _ | refine zD ?_ | refine zA ?_ _)); exact ac.out) hb); have a7 := zK (blk_below (g := am) (o := .cells #[.int .i64 ((rd_T74 af aq).f0), .slice aU ((rd_T74 af aq).f1).length aV] 74 (0, 0)) (by (with_reducible repeat (first | refine zN ?_ _ | refine zD ?_ | refine zA ?_ _)); refine blk_put (cs := #[.int .i64 ((rd_T74 af aq).f0), .slice none 0 0]) ?_ 1 _ rfl; (with_reducible repeat (first | refine zN ?_ _ | refine zD ?_ | refine zA ?_ _)); refine blk_put (cs := #[.int .i64 0, .slice none 0 0]) ?_ 0 _ rfl; (with_reducible repeat (first | refine zN ?_ _ | refine zD ?_ | refine zA ?_ _)); exact an.out) hb); have bQ := zK (below_step (by repeat (first | (with_reducible first | exact HB.out | apply zB | apply zC | apply zE | refine zS ?_ ar.out | refine zS ?_ au.out | refine zS ?_ bB.out) | exact HB.out)) hb); have nN_ := zK (below_step0 (by repeat (first | (with_reducible first | exact HN.out | apply zB | apply zC | apply below_drew | apply below_set0) | exact HN.out)) hb); clear aH; clear ab; clear al; clear aa; clear ac; clear an; clear HB; clear HN; have aH := aC; have ab := aD; have al := aE; have bC := aG; have aa := aW; have ac := aZ; have an := a7; have HB := bQ; have HN := nN_; clear nN_; clear aC aD aE aG aW aZ a7 bQ; clear hb ho49; have hcz50_0 : w48.cell? ⟨am, 0, none⟩ = some (.int .i64 ((rd_T74 af aq).f0)) := (blk_cell an.out 0).trans rfl; have hcz50_1 : w48.cell? ⟨am, 1, none⟩ = some (.slice aU ((rd_T74 af aq).f1).length aV) := (blk_cell an.out 1).trans rfl; have hfz50_0 := blk_frozen an.out 0; have hfz50_1 := blk_frozen an.out 1) | ((with_reducible refine gate_builtin (b := .append) (xs := #[.tmp 51, .tmp 53]) rfl ?_); at_builtin; refine Kd.R_append_rows (Kd.int .i64) (w0 := ?aW0) wN_.heap.size rfl (.tmp 51) (.tmp 53) 24 3 (.int .i64 0) 8 rfl Try.underlying24 info3 rfl (by decide) (by omega) v317 b8 ((rd_T74 af aq).f1) _ _ _ (fun k_ => some k_ ≠ (.slice ao ag.length ap : Value).ownBlock) (fun _ => False) rfl rfl ?aO ?aR (fun _ _ h => h) (fun _ h => h.elim) ?aF ?aB ?aS ?aL ?_; (case aR => repeat (first | exact (Kd.C_below cT.out HB.out) | (with_reducible refine Kd.C_alloc ?_ _) | (with_reducible refine Kd.C_drewN ?_ _) | (with_reducible refine Kd.C_drew ?_))); (case aB => exact Below.refl _ _); (case aF => exact (fun k_ hk => Kd.fresh' (Kd.R_lt (by (with_reducible repeat (first | apply Kd.R_alloc | apply Kd.R_drewN | apply Kd.R_drew)); exact ab.out)) k_ hk)); (case aO => exact (by (with_reducible repeat (first | apply Kd.R_alloc | apply Kd.R_drewN | apply Kd.R_drew)); exact Kd.R_mono bC.out (fun _ hk => hk.2))); (case aS => exact size0 (by repeat (first | (with_reducible first | exact HN.out | apply zB | apply zC | apply below_drew | apply below_set0) | exact HN.out))); (case aL => have := du.out; omega); intro v320 w51 ho hb hg hat; rw [← Ny319.out] at ho; have aC := zK (Kd.S_after (ok := (fun k_ => some k_ ≠ (.slice ao ag.length ap : Value).ownBlock ∧ k_ ≠ am)) (by (with_reducible repeat (first | apply Kd.S_alloc | apply Kd.S_drewN | apply Kd.S_drew)); exact aH.out) hg hat); have aD := zK (Kd.R_after (ok := (fun _ => True)) (by (with_reducible repeat (first | apply Kd.R_alloc | apply Kd.R_drewN | apply Kd.R_drew)); exact ab.out) hg hat); have aE := zK (Kd.S_after (ok := (fun k_ => some k_ ≠ (.slice ao ag.length ap : Value).ownBlock ∧ k_ < wN_.heap.size)) (by (with_reducible repeat (first | apply Kd.S_alloc | apply Kd.S_drewN | apply Kd.S_drew)); exact al.out) hg hat); have aG := zK (blk_grown (g := ad) (o := .cells #[.slice ao ag.length ap, .int .i64 a0_1, .slice aJ av.length aK, .slice (some bi) af.length aw] 28 (0, 0)) (by (with_reducible repeat (first | refine zN ?_ _ | refine zD ?_ | refine zA ?_ _)); exact aa.out) hg (Kd.R_ne bC.out aa.out (by decide))); have aW := zK (blk_grown (g := ah) (o := .cells #[.slice none 0 0, .int .i64 0, .slice none 0 0, .slice none 0 0] 28 (0, 0)) (by (with_reducible repeat (first | refine zN ?_ _ | refine zD ?_ | refine zA ?_ _)); exact ac.out) hg (Kd.R_ne bC.out ac.out (by decide))); have aZ := zK (blk_grown (g := am) (o := .cells #[.int .i64 ((rd_T74 af aq).f0), .slice aU ((rd_T74 af aq).f1).length aV] 74 (0, 0)) (by (with_reducible repeat (first | refine zN ?_ _ | refine zD ?_ | refine zA ?_ _)); exact an.out) hg (Kd.R_ne bC.out an.out (by decide))); have a7 := zK (below_via (n := w.heap.size) (w := w) (by repeat (first | (with_reducible first | exact HB.out | apply zB | apply zC | apply zE | refine zS ?_ ar.out | refine zS ?_ au.out | refine zS ?_ bB.out) | exact HB.out)) HW_N.out hb); have nN_ := zK (below_via (n := 0) (w := wN_) (by repeat (first | (with_reducible first | exact HN.out | apply zB | apply zC | apply below_drew | apply below_set0) | exact HN.out)) (Nat.zero_le _) hb); have bQ := zK (ho); clear aH; clear ab; clear al; clear aa; clear ac; clear an; clear HB; clear HN; clear bC; have aH := aC; have ab := aD; have al := aE; have aa := aG; have ac := aW; have an := aZ; have HB := a7; have HN := nN_; clear nN_; have bj := bQ; clear aC aD aE aG aW aZ a7 bQ; clear ho hb hg hat; obtain ⟨a5, a6, eo52⟩ := Kd.R_slice bj.out; subst eo52; have hcz53_0 : w51.cell? ⟨am, 0, none⟩ = some (.int .i64 ((rd_T74 af aq).f0)) := (blk_cell an.out 0).trans rfl; have hcz53_1 : w51.cell? ⟨am, 1, none⟩ = some (.slice aU ((rd_T74 af aq).f1).length aV) := (blk_cell an.out 1).trans rfl; have hfz53_0 := blk_frozen an.out 0; have hfz53_1 := blk_frozen an.out 1) | ((with_reducible refine gate_store (t := 24) (p := 55) rfl ?_); refine store_event (t := 24) (p := 55) (v := ?vo_w54) (w1 := (w51.setCell ⟨am, 1, none⟩ (.slice a5 aT.length a6))) ?hg ?ho ?hn ?hr ?_; (case ho => rfl); (case hg => rfl); (case hn => rfl); (case hr => first | (go_simp; done) | (go_simp; rfl)); intro b9 hw; have aC : Aside0 (Kd.S k74 74 b9 wN_.heap.size (fun k_ => some k_ ≠ (.slice ao ag.length ap : Value).ownBlock ∧ some k_ ≠ (.slice a5 aT.length a6 : Value).ownBlock ∧ k_ ≠ am) u6 aY) := ⟨(by rw [hw]; exact (by (with_reducible repeat (first | apply Kd.S_alloc | apply Kd.S_drewN | apply Kd.S_drew)); exact Kd.S_mono (Kd.S_far (p := ⟨am, 1, none⟩) (Kd.S_mono aH.out (fun k_ hk => (⟨hk, hk.1.2⟩ : _ ∧ k_ ≠ am))) (fun _ hk => hk.2) (.slice a5 aT.length a6)) (fun _ hk => ⟨hk.1.1.1, ⟨hk.1.2, hk.1.1.2⟩⟩)))⟩; have aD : Aside0 (Kd.R (Kd.int .i64) 3 b9 w.heap.size (fun k_ => some k_ ≠ (.slice a5 aT.length a6 : Value).ownBlock) (.slice ao ag.length ap) ag) := ⟨(by rw [hw]; exact (by (with_reducible repeat (first | apply Kd.R_alloc | apply Kd.R_drewN | apply Kd.R_drew)); exact Kd.R_mono (Kd.R_far (p := ⟨am, 1, none⟩) (Kd.R_types ab.out an.out (by decide)) (fun _ hk => hk.2) (.slice a5 aT.length a6)) (fun _ hk => hk.1.2)))⟩; have aE : Aside0 (Kd.S k69 69 b9 w.heap.size (fun k_ => (some k_ ≠ (.slice ao ag.length ap : Value).ownBlock ∧ k_ < wN_.heap.size) ∧ some k_ ≠ (.slice a5 aT.length a6 : Value).ownBlock) (.slice aJ av.length aK) av) := ⟨(by rw [hw]; exact (by (with_reducible repeat (first | apply Kd.S_alloc | apply Kd.S_drewN | apply Kd.S_drew)); exact Kd.S_mono (Kd.S_far (p := ⟨am, 1, none⟩) (Kd.S_types al.out an.out (by decide)) (fun _ hk => hk.2) (.slice a5 aT.length a6)) (fun _ hk => ⟨hk.1.1, hk.1.2⟩)))⟩; have aG : Aside0 (Kd.R (Kd.int .i64) 3 b9 wN_.heap.size (fun k_ => some k_ ≠ (.slice ao ag.length ap : Value).ownBlock) (.slice a5 aT.length a6) aT) := ⟨(by rw [hw]; exact (by (with_reducible repeat (first | apply Kd.R_alloc | apply Kd.R_drewN | apply Kd.R_drew)); exact Kd.R_mono (Kd.R_far (p := ⟨am, 1, none⟩) (Kd.R_types bj.out an.out (by decide)) (fun _ hk => hk.2) (.slice a5 aT.length a6)) (fun _ hk => hk.1)))⟩; have aW : Aside0 (b9.heap[ad]? = some (.cells #[.slice ao ag.length ap, .int .i64 a0_1, .slice aJ av.length aK, .slice (some bi) af.length aw] 28 (0, 0))) := ⟨(by rw [hw]; exact (by (with_reducible repeat (first | refine zN ?_ _ | refine zD ?_ | refine zA ?_ _)); refine blk_far ?_ a2.out _; (with_reducible repeat (first | refine zN ?_ _ | refine zD ?_ | refine zA ?_ _)); exact aa.out))⟩; have aZ : Aside0 (b9.heap[ah]? = some (.cells #[.slice none 0 0, .int .i64 0, .slice none 0 0, .slice none 0 0] 28 (0, 0))) := ⟨(by rw [hw]; exact (by (with_reducible repeat (first | refine zN ?_ _ | refine zD ?_ | refine zA ?_ _)); refine blk_far ?_ a3.out _; (with_reducible repeat (first | refine zN ?_ _ | refine zD ?_ | refine zA ?_ _)); exact ac.out))⟩; have a7 : Aside0 (b9.heap[am]? = some (.cells #[.int .i64 ((rd_T74 af aq).f0), .slice a5 aT.length a6] 74 (0, 0))) := ⟨(by rw [hw]; exact (by (with_reducible repeat (first | refine zN ?_ _ | refine zD ?_ | refine zA ?_ _)); refine blk_put (cs := #[.int .i64 ((rd_T74 af aq).f0), .slice aU ((rd_T74 af aq).f1).length aV]) ?_ 1 _ rfl; (with_reducible repeat (first | refine zN ?_ _ | refine zD ?_ | refine zA ?_ _)); exact an.out))⟩; have bQ : Aside0 (Below w.heap.size w b9) := ⟨(by rw [hw]; exact (by repeat (first | (with_reducible first | exact HB.out | apply zB | apply zC | apply zE | refine zS ?_ ar.out | refine zS ?_ au.out | refine zS ?_ bB.out) | exact HB.out)))⟩; have nN_ : Aside0 (Below 0 wN_ b9) := ⟨(by rw [hw]; exact (by repeat (first | (with_reducible first | exact HN.out | apply zB | apply zC | apply below_drew | apply below_set0) | exact HN.out)))⟩; clear hw; clear aH; clear ab; clear al; clear bj; clear aa; clear ac; clear an; clear HB; clear HN; have aH := aC; have ab := aD; have al := aE; have bj := aG; have aa := aW; have ac := aZ; have an := a7; have HB := bQ; have HN := nN_; clear nN_; clear aC aD aE aG aW aZ a7 bQ; have hcz55_0 : b9.cell? ⟨am, 0, none⟩ = some (.int .i64 ((rd_T74 af aq).f0)) := (blk_cell an.out 0).trans rfl; have hcz55_1 : b9.cell? ⟨am, 1, none⟩ = some (.slice a5 aT.length a6) := (blk_cell an.out 1).trans rfl; have hfz55_0 := blk_frozen an.out 0; have hfz55_1 := blk_frozen an.out 1) | ((with_reducible refine gate_builtin (b := .append) (xs := #[.tmp 56, .tmp 58]) rfl ?_); at_builtin; refine Kd.S_append k74 (w0 := ?aW1) wN_.heap.size rfl (.tmp 56) (.tmp 58) 26 74 (.agg #[(.int .i64 0), (.slice none 0 0)]) 32 rfl Try.underlying26 info74 rfl (by decide) (by omega) u6 aY (⟨(rd_T74 af aq).f0, aT⟩ : S74) [.int .i64 ((rd_T74 af aq).f0), .slice a5 aT.length a6] (fun k_ => some k_ ≠ (.slice ao ag.length ap : Value).ownBlock ∧ k_ ≠ am) (fun k_ => some k_ = (.slice a5 aT.length a6 : Value).ownBlock) rfl rfl ?aP (fun k_ hk_ => ((Kd.R_mono (ok' := fun k_ => ((fun k_ => some k_ ≠ (.slice ao ag.length ap : Value).ownBlock ∧ k_ ≠ am)) k_ ∧ some k_ ≠ (u6 : Value).ownBlock) (Kd.R_types (Kd.R_apart' (bj.out) (Kd.S_typed aH.out) (by decide)) an.out (by decide)) (fun k_ hk => ⟨⟨hk.1.1, hk.2⟩, hk.1.2⟩))).1 k_ hk_.symm) ?aF ?aO ?aB ?aS ?aL ?_; (case aP => exact k74_mkM _ _ _ (⟨(rd_T74 af aq).f0, aT⟩ : S74) (Kd.R_mono (Kd.R_tight rfl (Kd.R_mono (ok' := fun k_ => ((fun k_ => some k_ ≠ (.slice ao ag.length ap : Value).ownBlock ∧ k_ ≠ am)) k_ ∧ some k_ ≠ (u6 : Value).ownBlock) (Kd.R_types (Kd.R_apart' (bj.out) (Kd.S_typed aH.out) (by decide)) an.out (by decide)) (fun k_ hk => ⟨⟨hk.1.1, hk.2⟩, hk.1.2⟩))) (fun _ h_ => h_))); (case aB => exact Below.refl _ _); (case aF => exact (fun k_ hk => ⟨Kd.fresh' (Kd.R_lt (by (with_reducible repeat (first | apply Kd.R_alloc | apply Kd.R_drewN | apply Kd.R_drew)); exact ab.out)) k_ hk, Kd.freshB (g := am) (o := .cells #[.int .i64 ((rd_T74 af aq).f0), .slice a5 aT.length a6] 74 (0, 0)) (by (with_reducible repeat (first | refine zN ?_ _ | refine zD ?_ | refine zA ?_ _)); exact an.out) k_ hk⟩)); (case aO => exact (by (with_reducible repeat (first | apply Kd.S_alloc | apply Kd.S_drewN | apply Kd.S_drew)); exact Kd.S_mono aH.out (fun k_ hk => ⟨⟨hk.1, hk.2.2⟩, fun e_ => hk.2.1 e_⟩))); (case aS => exact size0 (by repeat (first | (with_reducible first | exact HN.out | apply zB | apply zC | apply below_drew | apply below_set0) | exact HN.out))); (case aL => have := dv.out; omega); intro v323 w56 ho hb hg hat; rw [← Ny322.out] at ho; have aC := zK (Kd.R_over' (by (with_reducible repeat (first | apply Kd.R_alloc | apply Kd.R_drewN | apply Kd.R_drew)); exact ab.out) (Kd.S_typed (by (with_reducible repeat (first | apply Kd.S_alloc | apply Kd.S_drewN | apply Kd.S_drew)); exact aH.out)) (by decide) hg); have aD := zK (Kd.S_over' (by (with_reducible repeat (first | apply Kd.S_alloc | apply Kd.S_drewN | apply Kd.S_drew)); exact al.out) (Kd.S_typed (by (with_reducible repeat (first | apply Kd.S_alloc | apply Kd.S_drewN | apply Kd.S_drew)); exact aH.out)) (by decide) hg); have aE := zK (blk_grown (g := ad) (o := .cells #[.slice ao ag.length ap, .int .i64 a0_1, .slice aJ av.length aK, .slice (some bi) af.length aw] 28 (0, 0)) (by (with_reducible repeat (first | refine zN ?_ _ | refine zD ?_ | refine zA ?_ _)); exact aa.out) hg (Kd.S_ne aH.out aa.out (by decide))); have aG := zK (blk_grown (g := ah) (o := .cells #[.slice none 0 0, .int .i64 0, .slice none 0 0, .slice none 0 0] 28 (0, 0)) (by (with_reducible repeat (first | refine zN ?_ _ | refine zD ?_ | refine zA ?_ _)); exact ac.out) hg (Kd.S_ne aH.out ac.out (by decide))); have aW := zK (blk_grown (g := am) (o := .cells #[.int .i64 ((rd_T74 af aq).f0), .slice a5 aT.length a6] 74 (0, 0)) (by (with_reducible repeat (first | refine zN ?_ _ | refine zD ?_ | refine zA ?_ _)); exact an.out) hg (Kd.S_away aH.out (fun _ hk => hk.2.2))); have aZ := zK (below_via (n := w.heap.size) (w := w) (by repeat (first | (with_reducible first | exact HB.out | apply zB | apply zC | apply zE | refine zS ?_ ar.out | refine zS ?_ au.out | refine zS ?_ bB.out) | exact HB.out)) HW_N.out hb); have nN_ := zK (below_via (n := 0) (w := wN_) (by repeat (first | (with_reducible first | exact HN.out | apply zB | apply zC | apply below_drew | apply below_set0) | exact HN.out)) (Nat.zero_le _) hb); have a7 := zK (ho); clear ab; clear al; clear aa; clear ac; clear an; clear HB; clear HN; clear aH; clear bj; have ab := aC; have al := aD; have aa := aE; have ac := aG; have an := aW; have HB := aZ; have HN := nN_; clear nN_; have dy := a7; clear aC aD aE aG aW aZ a7; clear ho hb hg hat))
           go_roundg k2
           case measure => have := HK1.out; have := HK2.out; omega
           case rel => exact ⟨(dw), (wrap64 (aq + 1)), (by first | rfl | (simp; done) | (simp [*]; done)), H', ⟨by have := HK1.out; have := HK2.out; omega⟩, ⟨by (with_reducible repeat (first | apply Kd.S_alloc | apply Kd.S_drewN | apply Kd.S_drew)); exact Kd.S_mono dy.out (fun _ hk => hk.1)⟩, ⟨by (with_reducible repeat (first | apply Kd.R_alloc | apply Kd.R_drewN | apply Kd.R_drew)); exact Kd.R_mono ab.out (fun _ hk => trivial)⟩, ⟨by (with_reducible repeat (first | apply Kd.S_alloc | apply Kd.S_drewN | apply Kd.S_drew)); exact Kd.S_mono al.out (fun _ hk => hk.1)⟩, ⟨by (with_reducible repeat (first | refine zN ?_ _ | refine zD ?_ | refine zA ?_ _)); exact aa.out⟩, ⟨by (with_reducible repeat (first | refine zN ?_ _ | refine zD ?_ | refine zA ?_ _)); exact ac.out⟩, ⟨by repeat (first | (with_reducible first | exact HB.out | apply zB | apply zC | apply zE | refine zS ?_ ar.out | refine zS ?_ au.out | refine zS ?_ bB.out) | exact HB.out)⟩, ⟨by repeat (first | (with_reducible first | exact HN.out | apply zB | apply zC | apply below_drew | apply below_set0) | exact HN.out)⟩⟩
          ·rw [if_neg c41] at H
           exact absurd H (by simp)
         ·rw [if_neg c40] at H
          exact absurd H (by simp)
        ·rw [if_neg c39] at H
         exact absurd H (by simp)
       ·rw [if_neg da] at H
        have dt : decide (aq < (af.length : Int)) = false := decide_eq_false da
        clear da
        simp only [Option.some.injEq, Prod.mk.injEq] at H
        obtain ⟨rfl, rfl, rfl, rfl⟩ := H
        have hnb57 := aM.out; have hnc57 := ax.out
        have hcz58_0 : wr.cell? ⟨ad, 0, none⟩ = some (.slice ao ag.length ap) := (blk_cell aa.out 0).trans rfl
        have hcz58_1 : wr.cell? ⟨ad, 1, none⟩ = some (.int .i64 a0_1) := (blk_cell aa.out 1).trans rfl
        have hcz58_2 : wr.cell? ⟨ad, 2, none⟩ = some (.slice aJ av.length aK) := (blk_cell aa.out 2).trans rfl
        have hcz58_3 : wr.cell? ⟨ad, 3, none⟩ = some (.slice az af.length aw) := (blk_cell aa.out 3).trans rfl
        have hfz58_0 := blk_frozen aa.out 0; have hfz58_1 := blk_frozen aa.out 1; have hfz58_2 := blk_frozen aa.out 2; have hfz58_3 := blk_frozen aa.out 3
        obtain ⟨bD, bE, eo59⟩ := Kd.S_slice aH.out
        subst eo59
        have hcz60_0 : wr.cell? ⟨ah, 0, none⟩ = some (.slice none 0 0) := (blk_cell ac.out 0).trans rfl
        have hcz60_1 : wr.cell? ⟨ah, 1, none⟩ = some (.int .i64 0) := (blk_cell ac.out 1).trans rfl
        have hcz60_2 : wr.cell? ⟨ah, 2, none⟩ = some (.slice none 0 0) := (blk_cell ac.out 2).trans rfl
        have hcz60_3 : wr.cell? ⟨ah, 3, none⟩ = some (.slice none 0 0) := (blk_cell ac.out 3).trans rfl
        have hfz60_0 := blk_frozen ac.out 0; have hfz60_1 := blk_frozen ac.out 1; have hfz60_2 := blk_frozen ac.out 2; have hfz60_3 := blk_frozen ac.out 3
        go_wp2
        refine bodyPost_ret (results_cell_row rfl _ _ ah 28 #[.slice ao ag.length ap, .int .i64 a0_1, .slice aJ av.length aK, .slice bD aY.length bE] (0, 0) _ rfl (by (with_reducible repeat (first | refine zN ?_ _ | refine zD ?_ | refine zA ?_ _)); refine blk_put (cs := #[.slice ao ag.length ap, .int .i64 a0_1, .slice aJ av.length aK, .slice none 0 0]) ?_ 3 _ rfl; (with_reducible repeat (first | refine zN ?_ _ | refine zD ?_ | refine zA ?_ _)); refine blk_put (cs := #[.slice ao ag.length ap, .int .i64 a0_1, .slice none 0 0, .slice none 0 0]) ?_ 2 _ rfl; (with_reducible repeat (first | refine zN ?_ _ | refine zD ?_ | refine zA ?_ _)); refine blk_put (cs := #[.slice ao ag.length ap, .int .i64 0, .slice none 0 0, .slice none 0 0]) ?_ 1 _ rfl; (with_reducible repeat (first | refine zN ?_ _ | refine zD ?_ | refine zA ?_ _)); refine blk_put (cs := #[.slice none 0 0, .int .i64 0, .slice none 0 0, .slice none 0 0]) ?_ 0 _ rfl; (with_reducible repeat (first | refine zN ?_ _ | refine zD ?_ | refine zA ?_ _)); refine blk_far ?_ ax.out _; (with_reducible repeat (first | refine zN ?_ _ | refine zD ?_ | refine zA ?_ _)); exact ac.out) Try.underlying28 rfl (by kernel_rfl)) rfl ?_
        exact ⟨_, _, _, wN_.heap.size, by first | rfl | (simp [errW_none, errW_some] <;> rfl) | (simp [*, errW_none, errW_some] <;> rfl), by (with_reducible repeat (first | apply Kd.R_alloc | apply Kd.R_drewN | apply Kd.R_drew)); exact Kd.R_mono (Kd.R_far (p := ⟨ah, 3, none⟩) (Kd.R_far (p := ⟨ah, 2, none⟩) (Kd.R_far (p := ⟨ah, 1, none⟩) (Kd.R_far (p := ⟨ah, 0, none⟩) (Kd.R_far (p := ⟨ad, 3, none⟩) (Kd.R_types (Kd.R_types ab.out aa.out (by decide)) ac.out (by decide)) (fun _ hk => hk.1.2) (.slice bD aY.length bE)) (fun _ hk => hk.2) (.slice ao ag.length ap)) (fun _ hk => hk.2) (.int .i64 a0_1)) (fun _ hk => hk.2) (.slice aJ av.length aK)) (fun _ hk => hk.2) (.slice bD aY.length bE)) (fun _ hk => trivial), by (with_reducible repeat (first | apply Kd.S_alloc | apply Kd.S_drewN | apply Kd.S_drew)); exact Kd.S_mono (Kd.S_far (p := ⟨ah, 3, none⟩) (Kd.S_far (p := ⟨ah, 2, none⟩) (Kd.S_far (p := ⟨ah, 1, none⟩) (Kd.S_far (p := ⟨ah, 0, none⟩) (Kd.S_far (p := ⟨ad, 3, none⟩) (Kd.S_types (Kd.S_types al.out aa.out (by decide)) ac.out (by decide)) (fun _ hk => hk.1.2) (.slice bD aY.length bE)) (fun _ hk => hk.2) (.slice ao ag.length ap)) (fun _ hk => hk.2) (.int .i64 a0_1)) (fun _ hk => hk.2) (.slice aJ av.length aK)) (fun _ hk => hk.2) (.slice bD aY.length bE)) (fun _ hk => hk.1.1), by (with_reducible repeat (first | apply Kd.S_alloc | apply Kd.S_drewN | apply Kd.S_drew)); exact Kd.S_mono (Kd.S_far (p := ⟨ah, 3, none⟩) (Kd.S_far (p := ⟨ah, 2, none⟩) (Kd.S_far (p := ⟨ah, 1, none⟩) (Kd.S_far (p := ⟨ah, 0, none⟩) (Kd.S_far (p := ⟨ad, 3, none⟩) (Kd.S_types (Kd.S_types aH.out aa.out (by decide)) ac.out (by decide)) (fun _ hk => hk.1.2) (.slice bD aY.length bE)) (fun _ hk => hk.2) (.slice ao ag.length ap)) (fun _ hk => hk.2) (.int .i64 a0_1)) (fun _ hk => hk.2) (.slice aJ av.length aK)) (fun _ hk => hk.2) (.slice bD aY.length bE)) (fun _ hk => hk.1.1), HW_N.out, by repeat (first | (with_reducible first | exact HB.out | apply zB | apply zC | apply zE | refine zS ?_ ar.out | refine zS ?_ au.out) | exact HB.out)⟩
 ·rw [if_neg c2] at H
  exact absurd H (by simp)
def spec_l05Step.l0 : Nat → List Int → Int → List (S69) → List (S74) → Int → Option (List Int × Int × (List (S69)) × (List (S74)))
 | 0, _, _, _, _, _ => none
 | k + 1, tr, tu, ch, wa, i => if i < (ch.length : Int) then (if 0 ≤ i then ((spec_l05Tray.f tr tu ch wa (rd_T69 ch i).f0).bind fun t => (if 0 ≤ t then (if t < (tr.length : Int) then (if rd tr t = 0 then (spec_l05Step.l0 k tr tu ch wa (wrap64 (i + 1))) else ((spec_l05Wants.f k tr tu ch wa (rd tr t) i).bind fun b => (if b = true then (if ((rd_T69 ch i).f2.length : Int) < (rd_T69 ch i).f1 then (if (rd_T69 ch i).f2.length < 17592186044416 then (spec_l05Step.l0 k (tr.set t.toNat 0) tu (ch.set i.toNat ⟨(rd_T69 ch i).f0, (rd_T69 ch i).f1, (rd_T69 ch i).f2 ++ [rd tr t]⟩) wa (wrap64 (i + 1))) else (none)) else (spec_l05Step.l0 k tr tu ch wa (wrap64 (i + 1)))) else (spec_l05Step.l0 k tr tu ch wa (wrap64 (i + 1)))))) else (none)) else (none))) else (none)) else (some (tr, tu, ch, wa))
def spec_l05Step.f (k : Nat) (l0_0 : List Int) (a0_1 : Int) (l0_2 : List (S69)) (l0_3 : List (S74)) : Option (List Int × Int × (List (S69)) × (List (S74))) := (spec_l05Copy.f k l0_0 a0_1 l0_2 l0_3).bind fun bt => (if (bt.1.length : Int) = 0 then (none) else (spec_l05Step.l0 k bt.1 (Int.tmod (wrap64 (bt.2.1 + 1)) (bt.1.length : Int)) bt.2.2.1 bt.2.2.2 0))
set_option maxHeartbeats 8000000 in
set_option maxRecDepth 100000 in
theorem spec_l05Step.calls (k : Nat) (ah : Option Addr) (ai : Nat) (ac : List Int) (a0_1 : Int) (aj : Option Addr) (ak : Nat) (ae : List (S69)) (al : Option Addr) (am : Nat) (af : List (S74)) (r1 : List Int) (r2 : Int) (r3 : List (S69)) (r4 : List (S74)) (w : World) (ao : Kd.C (Kd.int .i64) w ah ac.length ac) (hc0_0 : ac.length ≤ ai) (ap : Kd.C k69 w aj ae.length ae) (hc0_2 : ae.length ≤ ak) (aq : Kd.C k74 w al af.length af) (hc0_3 : af.length ≤ am) (h : spec_l05Step.f k ac a0_1 ae af = some (r1, r2, r3, r4)) :
 Calls Try.prog 56 #[.agg #[.slice ah ac.length ai, .int .i64 a0_1, .slice aj ae.length ak, .slice al af.length am]] w fun e w' => ∃ v0_ v2_ v3_ : Value, e = .returned (.agg #[v0_, .int .i64 r2, v2_, v3_]) ∧ Kd.R (Kd.int .i64) 3 w' w.heap.size (fun _ => True) v0_ r1 ∧ Kd.S k69 69 w' w.heap.size (fun k_ => some k_ ≠ (v0_ : Value).ownBlock) v2_ r3 ∧ Kd.S k74 74 w' w.heap.size (fun k_ => some k_ ≠ (v0_ : Value).ownBlock) v3_ r4 ∧ Below w.heap.size w w' := by
 have hu28 := Try.underlying28; have hu69 := Try.underlying69; have HR0 := zK ao; have aC := zK hc0_0; have HR2 := zK ap; have az := zK hc0_2; have HR3 := zK aq; have aD := zK hc0_3; clear ao hc0_0 ap hc0_2 aq hc0_3
 have H : ((spec_l05Copy.f k ac a0_1 ae af).bind fun bt => (if (bt.1.length : Int) = 0 then (none) else (spec_l05Step.l0 k bt.1 (Int.tmod (wrap64 (bt.2.1 + 1)) (bt.1.length : Int)) bt.2.2.1 bt.2.2.2 0))) = some (r1, r2, r3, r4) := h
 clear h; replace H := Option.bind_eq_some_iff.mp H
 obtain ⟨⟨tr0, tu0, ch0, wa0⟩, A10, H⟩ := H
 have A1 := zK A10; clear A10
 replace H : (if (tr0.length : Int) = 0 then (none) else (spec_l05Step.l0 k tr0 (Int.tmod (wrap64 (tu0 + 1)) (tr0.length : Int)) ch0 wa0 0)) = some (r1, r2, r3, r4) := H
 by_cases c3 : (tr0.length : Int) = 0
 ·rw [if_pos c3] at H
  exact absurd H (by simp)
 rw [if_neg c3] at H
 have c3b0 : ((tr0.length : Int) == 0) = false := beq_eq_false_iff_ne.mpr c3
 have c3b1 : ((tr0.length : Int) != 0) = true := bne_iff_ne.mpr c3
 have c3b2 : ¬ (tr0 = []) := fun h_ => c3 (by rw [h_]; rfl)
 have H' := zK H; clear H
 go_enter Try.func56, Try.ntmps56
 go_wp2_with (first | ((with_reducible refine gate_dst (N := 1) rfl ?_); refine box_event ?hg (N := 1) ?hd (cs := #[.slice ah ac.length ai, .int .i64 a0_1, .slice aj ae.length ak, .slice al af.length am]) (t := 28) ?hr ?_; (case hd => rfl); (case hg => rfl); (case hr => first | (go_simp; done) | (go_simp; rfl)); intro g1 hg w1 hbox hb; have HB := zK hb; have ar := zK hbox; clear hb hbox hg) | ((with_reducible refine gate_dst (N := 2) rfl ?_); refine box_event ?hg (N := 2) ?hd (cs := #[.slice none 0 0, .int .i64 0, .slice none 0 0, .slice none 0 0]) (t := 28) ?hr ?_; (case hd => rfl); (case hg => rfl); (case hr => first | (go_simp; done) | (go_simp; rfl)); intro g2 hg w2 hbox hb; have n1 := zK (blk_below ar.out hb); have n2 := zK (below_step HB.out hb); have GE2 := zK (show w.heap.size ≤ g2 from by rw [hg]; exact HB.out.size); clear HB ar; have HB := n2; have ar := n1; clear n1 n2; have aa := zK hbox; clear hb hbox hg; have hz0 : w2.cell? ⟨g1, 0, none⟩ = some (.slice ah ac.length ai) := (blk_cell ar.out 0).trans rfl; have hz1 : w2.cell? ⟨g1, 1, none⟩ = some (.int .i64 a0_1) := (blk_cell ar.out 1).trans rfl; have hz2 : w2.cell? ⟨g1, 2, none⟩ = some (.slice aj ae.length ak) := (blk_cell ar.out 2).trans rfl; have hz3 : w2.cell? ⟨g1, 3, none⟩ = some (.slice al af.length am) := (blk_cell ar.out 3).trans rfl) | ((with_reducible refine gate_callee (f := 68) rfl ?_); refine goesL_ (some 8) rfl rfl Try.func68 (by kernel_rfl) rfl #[.agg #[.slice ah ac.length ai, .int .i64 a0_1, .slice aj ae.length ak, .slice al af.length am]] rfl (by (try simp only [List.map_toArray, List.map_cons, List.map_nil]); first | done | rfl) ?_; (with_reducible refine (spec_l05Copy.calls2 k _ _ ac a0_1 _ _ ae _ _ af tr0 tu0 ch0 wa0 _ ?side1 aC.out ?side3 az.out ?side5 aD.out A1.out).mono ?_); (case side1 => repeat (first | exact (Kd.C_below HR0.out HB.out) | (with_reducible refine Kd.C_alloc ?_ _) | (with_reducible refine Kd.C_drewN ?_ _) | (with_reducible refine Kd.C_drew ?_))); (case side3 => repeat (first | exact (Kd.C_below HR2.out HB.out) | (with_reducible refine Kd.C_alloc ?_ _) | (with_reducible refine Kd.C_drewN ?_ _) | (with_reducible refine Kd.C_drew ?_))); (case side5 => repeat (first | exact (Kd.C_below HR3.out HB.out) | (with_reducible refine Kd.C_alloc ?_ _) | (with_reducible refine Kd.C_drewN ?_ _) | (with_reducible refine Kd.C_drew ?_))); rintro e w3 ⟨v0, v2, v3, N_, rfl, ho0, ho2, ho3, hN, hb⟩; refine ⟨_, rfl, ?_⟩; have hB_ : Below w.heap.size w _ := (by repeat (first | exact HB.out | apply zB | apply zC | apply zE)); obtain ⟨PW, hL⟩ := LoopMem.mk (Kd.R_lower ho0 (below_size hB_)) (Kd.S_lower ho2 (below_size hB_)) ho3 (Nat.le_trans (below_size hB_) hN); have HL := zK hL; have n2 := zK (blk_below (zk aa) hb); have nb := zK (below_step hB_ hb); clear HB aa ar; have HB := nb; have aa := n2; clear nb n2 hb ho0 ho2 ho3 hN hB_ hL; obtain ⟨B0, d0, B2, d2, B3, d3, rfl, rfl, rfl, l0_, l2_, l3_, _, _, _⟩ := HL.out.reads; clear l0_ l2_ l3_) | ((with_reducible refine gate_dst (N := 3) rfl ?_); refine box_event ?hg (N := 3) ?hd (cs := #[.slice none 0 0, .int .i64 0, .slice none 0 0, .slice none 0 0]) (t := 28) ?hr ?_; (case hd => rfl); (case hg => rfl); (case hr => first | (go_simp; done) | (go_simp; rfl)); intro g3 hg w4 hbox hb; have hB_ : Below w.heap.size w _ := (by repeat (first | exact HB.out | apply zB | apply zC | apply zE)); have n1 := zK (blk_below (zk aa) hb); have NB := zK (show g2 ≠ g3 from by rw [hg]; exact Nat.ne_of_lt (blk_lt (zk aa))); have n2 := zK (below_step hB_ hb); have aE := zK (show w.heap.size ≤ g3 from by rw [hg]; exact hB_.size); have n3 := zK (LoopMem.below (by repeat (first | exact HL.out | refine LoopMem.below ?_ (zB (Below.refl _ _) _) | refine LoopMem.below ?_ (zC (Below.refl _ _) _) | refine LoopMem.below ?_ (below_drew (Below.refl _ _)))) hb); clear HB aa HL; have HB := n2; have aa := n1; have HL := n3; clear n1 n2 n3 hB_; have ab := zK hbox; clear hb hbox hg; have av : w4.cell? ⟨g3, 0, none⟩ = some (.slice none 0 0) := (blk_cell ab.out 0).trans rfl; have aw : w4.cell? ⟨g3, 1, none⟩ = some (.int .i64 0) := (blk_cell ab.out 1).trans rfl; have ax : w4.cell? ⟨g3, 2, none⟩ = some (.slice none 0 0) := (blk_cell ab.out 2).trans rfl; have ay : w4.cell? ⟨g3, 3, none⟩ = some (.slice none 0 0) := (blk_cell ab.out 3).trans rfl; have hf0 := blk_frozen ab.out 0; have hf1 := blk_frozen ab.out 1; have hf2 := blk_frozen ab.out 2; have hf3 := blk_frozen ab.out 3))
 have BK3' : ((((((w4.setCell ⟨g3, 0, none⟩ (.slice B0 tr0.length d0)).setCell ⟨g3, 1, none⟩ (.int .i64 tu0)).setCell ⟨g3, 2, none⟩ (.slice B2 ch0.length d2)).setCell ⟨g3, 3, none⟩ (.slice B3 wa0.length d3)).setCell ⟨g3, 1, none⟩ (.int .i64 (Int.tmod (wrap64 (tu0 + 1)) (tr0.length : Int))))).heap[g3]? = some (.cells #[.slice B0 tr0.length d0, .int .i64 (Int.tmod (wrap64 (tu0 + 1)) (tr0.length : Int)), .slice B2 ch0.length d2, .slice B3 wa0.length d3] 28 (0, 0)) := blk_put (blk_put (blk_put (blk_put (blk_put ab.out 0 _ rfl) 1 _ rfl) 2 _ rfl) 3 _ rfl) 1 _ rfl
 have b0 := blk_put ab.out 0 (.slice B0 tr0.length d0) rfl
 have b1 := blk_put b0 1 (.int .i64 tu0) rfl
 have b2 := blk_put b1 2 (.slice B2 ch0.length d2) rfl
 have b3 := blk_put b2 3 (.slice B3 wa0.length d3) rfl
 have n1 := zK (((((HL.out.box ab.out 0 (.slice B0 tr0.length d0)).box b0 1 (.int .i64 tu0)).box b1 2 (.slice B2 ch0.length d2)).box b2 3 (.slice B3 wa0.length d3)).box b3 1 (.int .i64 (Int.tmod (wrap64 (tu0 + 1)) (tr0.length : Int))))
 have n2 := zK (blk_far (p := ⟨g3, 1, none⟩) (blk_far (p := ⟨g3, 3, none⟩) (blk_far (p := ⟨g3, 2, none⟩) (blk_far (p := ⟨g3, 1, none⟩) (blk_far (p := ⟨g3, 0, none⟩) aa.out NB.out (.slice B0 tr0.length d0)) NB.out (.int .i64 tu0)) NB.out (.slice B2 ch0.length d2)) NB.out (.slice B3 wa0.length d3)) NB.out (.int .i64 (Int.tmod (wrap64 (tu0 + 1)) (tr0.length : Int))))
 have n3 := zK (zS (j := 1) (v := .int .i64 (Int.tmod (wrap64 (tu0 + 1)) (tr0.length : Int))) (zS (j := 3) (v := .slice B3 wa0.length d3) (zS (j := 2) (v := .slice B2 ch0.length d2) (zS (j := 1) (v := .int .i64 tu0) (zS (j := 0) (v := .slice B0 tr0.length d0) HB.out aE.out) aE.out) aE.out) aE.out) aE.out)
 clear HL aa HB b0 b1 b2 b3 hz0 hz1 hz2 hz3 av aw ax ay hf0 hf1 hf2 hf3 c3b0 c3b1 c3b2; have HL := n1; have aa := n2; have HB := n3; clear n1 n2 n3 ab; have ab := zK BK3'; clear BK3'
 generalize Int.tmod (wrap64 (tu0 + 1)) (tr0.length : Int) = T at H' HL aa ab HB ⊢
 generalize Value.slice B0 tr0.length d0 = V0 at HL aa ab HB ⊢
 generalize Value.slice B2 ch0.length d2 = V2 at HL aa ab HB ⊢
 generalize Value.slice B3 wa0.length d3 = V3 at HL aa ab HB ⊢
 go_loopg [4] k (fun kq v4 w' => ∃ (i : Int) (tr : List Int) (ch : List S69), v4 = .int .i64 i ∧ Aside0 (spec_l05Step.l0 kq tr T ch wa0 i = some (r1, r2, r3, r4)) ∧ Aside0 (kq ≤ k) ∧ Aside0 (LoopMem w.heap.size w' PW V0 tr V2 ch V3 wa0) ∧ Aside0 (w'.heap[g2]? = some (.cells #[.slice none 0 0, .int .i64 0, .slice none 0 0, .slice none 0 0] 28 (0, 0))) ∧ Aside0 (w'.heap[g3]? = some (.cells #[V0, .int .i64 T, V2, V3] 28 (0, 0))) ∧ Aside0 (Below w.heap.size w w'))
 case atStart => exact ⟨0, tr0, ch0, rfl, H', ⟨Nat.le_refl _⟩, HL, aa, ab, HB⟩
 case round =>
 clear H' HL aa ab HB
 obtain ⟨i, tr, ch, rfl, HA, au, HL, aa, ab, HB⟩ := hrel
 cases gk with
 | zero => exact absurd HA.out (by simp [spec_l05Step.l0])
 | succ k1 =>
  have H := HA.out; clear HA
  simp only [spec_l05Step.l0] at H
  obtain ⟨B0', d0', B2', d2', B3', d3', e0, e2, e3, L0, L2, L3, C0, C2, C3⟩ := HL.out.reads
  subst e0 e2 e3
  have hz0 : wr.cell? ⟨g3, 0, none⟩ = some (.slice B0' tr.length d0') := (blk_cell ab.out 0).trans rfl
  have hz1 : wr.cell? ⟨g3, 1, none⟩ = some (.int .i64 T) := (blk_cell ab.out 1).trans rfl
  have hz2 : wr.cell? ⟨g3, 2, none⟩ = some (.slice B2' ch.length d2') := (blk_cell ab.out 2).trans rfl
  have hz3 : wr.cell? ⟨g3, 3, none⟩ = some (.slice B3' wa0.length d3') := (blk_cell ab.out 3).trans rfl
  by_cases c1 : i < (ch.length : Int)
  ·rw [if_pos c1] at H
   have c1b : decide (i < (ch.length : Int)) = true := decide_eq_true c1
   by_cases c2 : 0 ≤ i
   ·rw [if_pos c2] at H
    replace H := Option.bind_eq_some_iff.mp H
    obtain ⟨t, A60, H⟩ := H
    have A6 := zK A60; clear A60; have H' := zK H; clear H; have aC := zK C0; have az := zK C2; have aD := zK C3; have HL0 := zK L0; have HL2 := zK L2; have HL3 := zK L3; clear C0 C2 C3 L0 L2 L3
    obtain ⟨ad, A5, c5, e, hx0, hx1, hx2, hl5, hi5⟩ := at_T69 az.out i c2 c1
    cases e
    have p1 := eq_true c2
    have q1 : (i < ((ch.length : Nat) : Int)) = True := eq_true c1
    go_wp2
    refine start_ (n := 9) (S := fun w' => w'.cell? ⟨g3, 0, none⟩ = some (.slice B0' tr.length d0') ∧ w'.cell? ⟨g3, 1, none⟩ = some (.int .i64 T) ∧ w'.cell? ⟨g3, 2, none⟩ = some (.slice (some ad) ch.length d2') ∧ w'.cell? ⟨g3, 3, none⟩ = some (.slice B3' wa0.length d3') ∧ w'.cell? (ad.add (i.toNat * 3)) = some (.int .i64 (rd_T69 ch i).f0)) (ds := []) #[ff, ff, ff, ff, ff, ff, ff, ff, ff] (by kernel_rfl) rfl rfl ⟨hz0, hz1, hz2, hz3, hx0⟩ (fun hHeld => ?_)
    refine zu 1 (some 25) #[ff, tt, ff, ff, ff, ff, ff, ff, ff] (by kernel_rfl) ?_
    refine zu 3 (some 27) #[ff, tt, ff, tt, ff, ff, ff, ff, ff] (by kernel_rfl) ?_
    refine zt 0 (some 24) #[tt, tt, ff, tt, ff, ff, ff, ff, ff] (by kernel_rfl) hHeld ?_
    refine zt 2 (some 26) #[tt, tt, tt, tt, ff, ff, ff, ff, ff] (by kernel_rfl) hHeld ?_
    refine zu 4 (some 28) #[tt, tt, tt, tt, tt, ff, ff, ff, ff] (by kernel_rfl) ?_
    refine zu 5 (some 29) #[tt, tt, tt, tt, tt, tt, ff, ff, ff] (by kernel_rfl) ?_
    refine zt 6 (some 30) #[tt, tt, tt, tt, tt, tt, tt, ff, ff] (by kernel_rfl) hHeld ?_
    refine one_ (i := 7) (N := some 31) #[tt, tt, tt, tt, tt, tt, tt, tt, ff] rfl rfl (by kernel_rfl) (by decide) (fun K hK => ?_)
    refine goes_ Try.func77 (by kernel_rfl) rfl #[.agg #[.slice B0' tr.length d0', .int .i64 T, .slice (some ad) ch.length d2', .slice B3' wa0.length d3'], .int .i64 (rd_T69 ch i).f0] (by rfl) rfl rfl (by simp only [List.map_toArray, List.map_cons, List.map_nil]; rfl) ?_
    with_reducible refine (spec_l05Tray.calls B0' d0' tr T (some ad) d2' ch B3' d3' wa0 (rd_T69 ch i).f0 t _ (Kd.C_drew aC.out) HL0.out (Kd.C_drew az.out) HL2.out (Kd.C_drew aD.out) HL3.out A6.out).mono ?_
    rintro e w5 ⟨rfl, hb5⟩
    refine ⟨_, rfl, ?_⟩
    refine hK.out _ _ ⟨pw_cell_below hb5 hHeld.1, pw_cell_below hb5 hHeld.2.1, pw_cell_below hb5 hHeld.2.2.1, pw_cell_below hb5 hHeld.2.2.2.1, pw_cell_below hb5 hHeld.2.2.2.2⟩ (fun hHeld => ?_)
    clear hK K
    refine norm_ (a' := ?_) ?_ ?_
    rotate_left
    ·show Act.put _ (some 31) _ = _
     simp only [Act.put, zp, zq, zr, i64_w, i32_w]
     rfl
    refine zu 8 (some 5) #[tt, tt, tt, tt, tt, tt, tt, tt, tt] (by kernel_rfl) ?_
    refine done_ (by kernel_rfl) ?_
    have hbr : Below wr.heap.size wr w5 := below_then (below_drew (Below.refl _ _)) (Nat.le_refl _) hb5
    have aG := zK (HL.out.below hbr)
    have an := zK (blk_below aa.out hbr)
    have ag := zK (blk_below ab.out hbr)
    have HB5 := zK (below_step HB.out hbr)
    have C05 := zK (Kd.C_below aC.out hbr)
    have C25 := zK (Kd.C_below az.out hbr)
    have C35 := zK (Kd.C_below aD.out hbr)
    have av : w5.cell? ⟨g3, 0, none⟩ = some (.slice B0' tr.length d0') := (blk_cell ag.out 0).trans rfl
    have aw : w5.cell? ⟨g3, 1, none⟩ = some (.int .i64 T) := (blk_cell ag.out 1).trans rfl
    have ax : w5.cell? ⟨g3, 2, none⟩ = some (.slice (some ad) ch.length d2') := (blk_cell ag.out 2).trans rfl
    have ay : w5.cell? ⟨g3, 3, none⟩ = some (.slice B3' wa0.length d3') := (blk_cell ag.out 3).trans rfl
    have hw1 := pw_cell_below hbr hx1; have hw2 := pw_cell_below hbr hx2; have H := H'.out; clear H' hb5 hbr hz0 hz1 hz2 hz3 hx0 hx1 hx2 HL aa ab HB aC az aD
    by_cases c4 : 0 ≤ t
    ·rw [if_pos c4] at H
     by_cases c5h : t < (tr.length : Int)
     ·rw [if_pos c5h] at H
      have H' := zK H; clear H
      obtain ⟨gT, eT, hbT, _, hcT, hfT, hLT⟩ := aG.out.tray t c4 c5h 0
      cases eT
      have HBT := zK hbT; clear hbT hfT hLT; have p5 := eq_true c4
      have q5 : (t < ((tr.length : Nat) : Int)) = True := eq_true c5h
      go_wp2
      have H := H'.out; clear H'
      by_cases c6 : rd tr t = 0
      ·rw [if_pos c6] at H
       have c6a : (rd tr t == 0) = true := beq_iff_eq.mpr c6
       have c6b : (rd tr t != 0) = false := by rw [bne, c6a]; rfl
       have H' := zK H; clear H
       refine start_ (n := 24) (S := fun w' => w'.cell? ⟨g3, 0, none⟩ = some (.slice (some ⟨gT, 0, none⟩) tr.length d0') ∧ w'.cell? ⟨g3, 1, none⟩ = some (.int .i64 T) ∧ w'.cell? ⟨g3, 2, none⟩ = some (.slice (some ad) ch.length d2') ∧ w'.cell? ⟨g3, 3, none⟩ = some (.slice B3' wa0.length d3') ∧ w'.cell? ⟨(ad.add (i.toNat * 3)).block, (ad.add (i.toNat * 3)).off + 1, none⟩ = some (.int .i64 (rd_T69 ch i).f1) ∧ w'.cell? ⟨(ad.add (i.toNat * 3)).block, (ad.add (i.toNat * 3)).off + 2, none⟩ = some (.slice A5 (rd_T69 ch i).f2.length c5)) (ds := []) #[ff, ff, ff, ff, ff, ff, ff, ff, ff, ff, ff, ff, ff, ff, ff, ff, ff, ff, ff, ff, ff, ff, ff, ff] (by kernel_rfl) rfl rfl ⟨av, aw, ax, ay, hw1, hw2⟩ (fun hHeld => ?_)
       refine zu 0 (some 37) #[tt, ff, ff, ff, ff, ff, ff, ff, ff, ff, ff, ff, ff, ff, ff, ff, ff, ff, ff, ff, ff, ff, ff, ff] (by kernel_rfl) ?_
       refine zu 1 (some 38) #[tt, tt, ff, ff, ff, ff, ff, ff, ff, ff, ff, ff, ff, ff, ff, ff, ff, ff, ff, ff, ff, ff, ff, ff] (by kernel_rfl) ?_
       refine zu 2 (some 39) #[tt, tt, tt, ff, ff, ff, ff, ff, ff, ff, ff, ff, ff, ff, ff, ff, ff, ff, ff, ff, ff, ff, ff, ff] (by kernel_rfl) ?_
       refine pure_ (i := 3) (N := some 40) (v := undef) (a' := ?_) #[tt, tt, tt, tt, ff, ff, ff, ff, ff, ff, ff, ff, ff, ff, ff, ff, ff, ff, ff, ff, ff, ff, ff, ff] rfl rfl (by kernel_rfl) (fun _ _ _ h => h) (Or.inr ⟨by rfl, rfl⟩) ?_ ?_
       rotate_left
       ·simp only [Act.put, zp, zq, zr, i64_w, i32_w]
        rfl
       refine pure_ (i := 4) (N := some 41) (v := undef) (a' := ?_) #[tt, tt, tt, tt, tt, ff, ff, ff, ff, ff, ff, ff, ff, ff, ff, ff, ff, ff, ff, ff, ff, ff, ff, ff] rfl rfl (by kernel_rfl) (fun _ _ _ h => h) (Or.inr ⟨by rfl, rfl⟩) ?_ ?_
       rotate_left
       ·simp only [Act.put, zp, zq, zr, i64_w, i32_w]
        rfl
       refine pure_ (i := 5) (N := some 42) (v := undef) (a' := ?_) #[tt, tt, tt, tt, tt, tt, ff, ff, ff, ff, ff, ff, ff, ff, ff, ff, ff, ff, ff, ff, ff, ff, ff, ff] rfl rfl (by kernel_rfl) (fun _ _ _ h => h) (Or.inr ⟨by rfl, rfl⟩) ?_ ?_
       rotate_left
       ·simp only [Act.put, zp, zq, zr, i64_w, i32_w]
        rfl
       refine pure_ (i := 6) (N := some 43) (v := undef) (a' := ?_) #[tt, tt, tt, tt, tt, tt, tt, ff, ff, ff, ff, ff, ff, ff, ff, ff, ff, ff, ff, ff, ff, ff, ff, ff] rfl rfl (by kernel_rfl) (fun _ _ _ h => h) (Or.inr ⟨by rfl, rfl⟩) ?_ ?_
       rotate_left
       ·simp only [Act.put, zp, zq, zr, i64_w, i32_w]
        rfl
       refine zu 7 (some 44) #[tt, tt, tt, tt, tt, tt, tt, tt, ff, ff, ff, ff, ff, ff, ff, ff, ff, ff, ff, ff, ff, ff, ff, ff] (by kernel_rfl) ?_
       refine zu 8 (some 45) #[tt, tt, tt, tt, tt, tt, tt, tt, tt, ff, ff, ff, ff, ff, ff, ff, ff, ff, ff, ff, ff, ff, ff, ff] (by kernel_rfl) ?_
       refine pure_ (i := 9) (N := some 46) (v := undef) (a' := ?_) #[tt, tt, tt, tt, tt, tt, tt, tt, tt, tt, ff, ff, ff, ff, ff, ff, ff, ff, ff, ff, ff, ff, ff, ff] rfl rfl (by kernel_rfl) (fun _ _ _ h => h) (Or.inr ⟨by rfl, rfl⟩) ?_ ?_
       rotate_left
       ·simp only [Act.put, zp, zq, zr, i64_w, i32_w]
        rfl
       refine pure_ (i := 10) (N := some 47) (v := undef) (a' := ?_) #[tt, tt, tt, tt, tt, tt, tt, tt, tt, tt, tt, ff, ff, ff, ff, ff, ff, ff, ff, ff, ff, ff, ff, ff] rfl rfl (by kernel_rfl) (fun _ _ _ h => h) (Or.inr ⟨by rfl, rfl⟩) ?_ ?_
       rotate_left
       ·simp only [Act.put, zp, zq, zr, i64_w, i32_w]
        rfl
       refine pure_ (i := 11) (N := some 48) (v := undef) (a' := ?_) #[tt, tt, tt, tt, tt, tt, tt, tt, tt, tt, tt, tt, ff, ff, ff, ff, ff, ff, ff, ff, ff, ff, ff, ff] rfl rfl (by kernel_rfl) (fun _ _ _ h => h) (Or.inr ⟨by rfl, rfl⟩) ?_ ?_
       rotate_left
       ·simp only [Act.put, zp, zq, zr, i64_w, i32_w]
        rfl
       refine pure_ (i := 12) (N := some 49) (v := undef) (a' := ?_) #[tt, tt, tt, tt, tt, tt, tt, tt, tt, tt, tt, tt, tt, ff, ff, ff, ff, ff, ff, ff, ff, ff, ff, ff] rfl rfl (by kernel_rfl) (fun _ _ _ h => h) (Or.inr ⟨by rfl, rfl⟩) ?_ ?_
       rotate_left
       ·simp only [Act.put, zp, zq, zr, i64_w, i32_w]
        rfl
       refine pure_ (i := 13) (N := some 50) (v := undef) (a' := ?_) #[tt, tt, tt, tt, tt, tt, tt, tt, tt, tt, tt, tt, tt, tt, ff, ff, ff, ff, ff, ff, ff, ff, ff, ff] rfl rfl (by kernel_rfl) (fun _ _ _ h => h) (Or.inr ⟨by rfl, rfl⟩) ?_ ?_
       rotate_left
       ·simp only [Act.put, zp, zq, zr, i64_w, i32_w]
        rfl
       refine pure_ (i := 14) (N := some 51) (v := undef) (a' := ?_) #[tt, tt, tt, tt, tt, tt, tt, tt, tt, tt, tt, tt, tt, tt, tt, ff, ff, ff, ff, ff, ff, ff, ff, ff] rfl rfl (by kernel_rfl) (fun _ _ _ h => h) (Or.inr ⟨by rfl, rfl⟩) ?_ ?_
       rotate_left
       ·simp only [Act.put, zp, zq, zr, i64_w, i32_w]
        rfl
       refine pure_ (i := 15) (N := some 52) (v := undef) (a' := ?_) #[tt, tt, tt, tt, tt, tt, tt, tt, tt, tt, tt, tt, tt, tt, tt, tt, ff, ff, ff, ff, ff, ff, ff, ff] rfl rfl (by kernel_rfl) (fun _ _ _ h => h) (Or.inr ⟨by rfl, rfl⟩) ?_ ?_
       rotate_left
       ·simp only [Act.put, zp, zq, zr, i64_w, i32_w]
        rfl
       refine pure_ (i := 16) (N := some 53) (v := undef) (a' := ?_) #[tt, tt, tt, tt, tt, tt, tt, tt, tt, tt, tt, tt, tt, tt, tt, tt, tt, ff, ff, ff, ff, ff, ff, ff] rfl rfl (by kernel_rfl) (fun _ _ _ h => h) (Or.inr ⟨by rfl, rfl⟩) ?_ ?_
       rotate_left
       ·simp only [Act.put, zp, zq, zr, i64_w, i32_w]
        rfl
       refine pure_ (i := 17) (N := some 54) (v := undef) (a' := ?_) #[tt, tt, tt, tt, tt, tt, tt, tt, tt, tt, tt, tt, tt, tt, tt, tt, tt, tt, ff, ff, ff, ff, ff, ff] rfl rfl (by kernel_rfl) (fun _ _ _ h => h) (Or.inr ⟨by rfl, rfl⟩) ?_ ?_
       rotate_left
       ·simp only [Act.put, zp, zq, zr, i64_w, i32_w]
        rfl
       refine pure_ (i := 18) (N := some 55) (v := undef) (a' := ?_) #[tt, tt, tt, tt, tt, tt, tt, tt, tt, tt, tt, tt, tt, tt, tt, tt, tt, tt, tt, ff, ff, ff, ff, ff] rfl rfl (by kernel_rfl) (fun _ _ _ h => h) (Or.inr ⟨by rfl, rfl⟩) ?_ ?_
       rotate_left
       ·simp only [Act.put, zp, zq, zr, i64_w, i32_w]
        rfl
       refine pure_ (i := 19) (N := some 56) (v := undef) (a' := ?_) #[tt, tt, tt, tt, tt, tt, tt, tt, tt, tt, tt, tt, tt, tt, tt, tt, tt, tt, tt, tt, ff, ff, ff, ff] rfl rfl (by kernel_rfl) (fun _ _ _ h => h) (Or.inr ⟨by rfl, rfl⟩) ?_ ?_
       rotate_left
       ·simp only [Act.put, zp, zq, zr, i64_w, i32_w]
        rfl
       refine pure_ (i := 20) (N := some 57) (v := undef) (a' := ?_) #[tt, tt, tt, tt, tt, tt, tt, tt, tt, tt, tt, tt, tt, tt, tt, tt, tt, tt, tt, tt, tt, ff, ff, ff] rfl rfl (by kernel_rfl) (fun _ _ _ h => h) (Or.inr ⟨by rfl, rfl⟩) ?_ ?_
       rotate_left
       ·simp only [Act.put, zp, zq, zr, i64_w, i32_w]
        rfl
       refine pure_ (i := 21) (N := some 58) (v := undef) (a' := ?_) #[tt, tt, tt, tt, tt, tt, tt, tt, tt, tt, tt, tt, tt, tt, tt, tt, tt, tt, tt, tt, tt, tt, ff, ff] rfl rfl (by kernel_rfl) (fun _ _ _ h => h) (Or.inr ⟨by rfl, rfl⟩) ?_ ?_
       rotate_left
       ·simp only [Act.put, zp, zq, zr, i64_w, i32_w]
        rfl
       refine pure_ (i := 22) (N := some 59) (v := undef) (a' := ?_) #[tt, tt, tt, tt, tt, tt, tt, tt, tt, tt, tt, tt, tt, tt, tt, tt, tt, tt, tt, tt, tt, tt, tt, ff] rfl rfl (by kernel_rfl) (fun _ _ _ h => h) (Or.inr ⟨by rfl, rfl⟩) ?_ ?_
       rotate_left
       ·simp only [Act.put, zp, zq, zr, i64_w, i32_w]
        rfl
       refine zu 23 (some 60) #[tt, tt, tt, tt, tt, tt, tt, tt, tt, tt, tt, tt, tt, tt, tt, tt, tt, tt, tt, tt, tt, tt, tt, tt] (by kernel_rfl) ?_
       refine done_ (by kernel_rfl) ?_
       have hbr : Below w5.heap.size w5 w5.drew := below_drew (Below.refl _ _)
       go_wp2
       go_roundg k1
       case measure => have := au.out; omega
       case rel => exact ⟨wrap64 (i + 1), tr, ch, rfl, H', ⟨by have := au.out; omega⟩, ⟨aG.out.below hbr⟩, ⟨blk_below an.out hbr⟩, ⟨blk_below ag.out hbr⟩, ⟨below_step HB5.out hbr⟩⟩
      ·rw [if_neg c6] at H
       have c6a : (rd tr t == 0) = false := beq_eq_false_iff_ne.mpr c6
       have c6b : (rd tr t != 0) = true := bne_iff_ne.mpr c6
       replace H := Option.bind_eq_some_iff.mp H
       obtain ⟨b, A70, H⟩ := H
       have A7 := zK A70; clear A70; have H' := zK H; clear H
       cases b with
       | false =>
        refine start_ (n := 24) (S := fun w' => w'.cell? ⟨g3, 0, none⟩ = some (.slice (some ⟨gT, 0, none⟩) tr.length d0') ∧ w'.cell? ⟨g3, 1, none⟩ = some (.int .i64 T) ∧ w'.cell? ⟨g3, 2, none⟩ = some (.slice (some ad) ch.length d2') ∧ w'.cell? ⟨g3, 3, none⟩ = some (.slice B3' wa0.length d3') ∧ w'.cell? ⟨(ad.add (i.toNat * 3)).block, (ad.add (i.toNat * 3)).off + 1, none⟩ = some (.int .i64 (rd_T69 ch i).f1) ∧ w'.cell? ⟨(ad.add (i.toNat * 3)).block, (ad.add (i.toNat * 3)).off + 2, none⟩ = some (.slice A5 (rd_T69 ch i).f2.length c5)) (ds := []) #[ff, ff, ff, ff, ff, ff, ff, ff, ff, ff, ff, ff, ff, ff, ff, ff, ff, ff, ff, ff, ff, ff, ff, ff] (by kernel_rfl) rfl rfl ⟨av, aw, ax, ay, hw1, hw2⟩ (fun hHeld => ?_)
        refine zu 0 (some 37) #[tt, ff, ff, ff, ff, ff, ff, ff, ff, ff, ff, ff, ff, ff, ff, ff, ff, ff, ff, ff, ff, ff, ff, ff] (by kernel_rfl) ?_
        refine zu 1 (some 38) #[tt, tt, ff, ff, ff, ff, ff, ff, ff, ff, ff, ff, ff, ff, ff, ff, ff, ff, ff, ff, ff, ff, ff, ff] (by kernel_rfl) ?_
        refine zu 2 (some 39) #[tt, tt, tt, ff, ff, ff, ff, ff, ff, ff, ff, ff, ff, ff, ff, ff, ff, ff, ff, ff, ff, ff, ff, ff] (by kernel_rfl) ?_
        refine zu 4 (some 41) #[tt, tt, tt, ff, tt, ff, ff, ff, ff, ff, ff, ff, ff, ff, ff, ff, ff, ff, ff, ff, ff, ff, ff, ff] (by kernel_rfl) ?_
        refine zu 5 (some 42) #[tt, tt, tt, ff, tt, tt, ff, ff, ff, ff, ff, ff, ff, ff, ff, ff, ff, ff, ff, ff, ff, ff, ff, ff] (by kernel_rfl) ?_
        refine zt 3 (some 40) #[tt, tt, tt, tt, tt, tt, ff, ff, ff, ff, ff, ff, ff, ff, ff, ff, ff, ff, ff, ff, ff, ff, ff, ff] (by kernel_rfl) hHeld ?_
        refine one_ (i := 6) (N := some 43) #[tt, tt, tt, tt, tt, tt, tt, ff, ff, ff, ff, ff, ff, ff, ff, ff, ff, ff, ff, ff, ff, ff, ff, ff] rfl rfl (by kernel_rfl) (by decide) (fun K hK => ?_)
        refine goes_ Try.func91 (by kernel_rfl) rfl #[.agg #[.slice (some ⟨gT, 0, none⟩) tr.length d0', .int .i64 T, .slice (some ad) ch.length d2', .slice B3' wa0.length d3'], .int .i64 (rd tr t), .int .i64 i] (by rfl) rfl rfl (by simp only [List.map_toArray, List.map_cons, List.map_nil]; rfl) ?_
        with_reducible refine (spec_l05Wants.calls k1 (some ⟨gT, 0, none⟩) d0' tr T (some ad) d2' ch B3' d3' wa0 (rd tr t) i false _ (Kd.C_drew C05.out) HL0.out (Kd.C_drew C25.out) HL2.out (Kd.C_drew C35.out) HL3.out A7.out).mono ?_
        rintro e w6 ⟨rfl, hb6⟩
        refine ⟨_, rfl, ?_⟩
        refine hK.out _ _ ⟨pw_cell_below hb6 hHeld.1, pw_cell_below hb6 hHeld.2.1, pw_cell_below hb6 hHeld.2.2.1, pw_cell_below hb6 hHeld.2.2.2.1, pw_cell_below hb6 hHeld.2.2.2.2.1, pw_cell_below hb6 hHeld.2.2.2.2.2⟩ (fun hHeld => ?_)
        clear hK K
        refine norm_ (a' := ?_) ?_ ?_
        rotate_left
        ·show Act.put _ (some 43) _ = _
         simp only [Act.put, zp, zq, zr, i64_w, i32_w]
         rfl
        refine zu 7 (some 44) #[tt, tt, tt, tt, tt, tt, tt, tt, ff, ff, ff, ff, ff, ff, ff, ff, ff, ff, ff, ff, ff, ff, ff, ff] (by kernel_rfl) ?_
        refine zu 8 (some 45) #[tt, tt, tt, tt, tt, tt, tt, tt, tt, ff, ff, ff, ff, ff, ff, ff, ff, ff, ff, ff, ff, ff, ff, ff] (by kernel_rfl) ?_
        refine pure_ (i := 9) (N := some 46) (v := undef) (a' := ?_) #[tt, tt, tt, tt, tt, tt, tt, tt, tt, tt, ff, ff, ff, ff, ff, ff, ff, ff, ff, ff, ff, ff, ff, ff] rfl rfl (by kernel_rfl) (fun _ _ _ h => h) (Or.inr ⟨by rfl, rfl⟩) ?_ ?_
        rotate_left
        ·simp only [Act.put, zp, zq, zr, i64_w, i32_w]
         rfl
        refine pure_ (i := 10) (N := some 47) (v := undef) (a' := ?_) #[tt, tt, tt, tt, tt, tt, tt, tt, tt, tt, tt, ff, ff, ff, ff, ff, ff, ff, ff, ff, ff, ff, ff, ff] rfl rfl (by kernel_rfl) (fun _ _ _ h => h) (Or.inr ⟨by rfl, rfl⟩) ?_ ?_
        rotate_left
        ·simp only [Act.put, zp, zq, zr, i64_w, i32_w]
         rfl
        refine pure_ (i := 11) (N := some 48) (v := undef) (a' := ?_) #[tt, tt, tt, tt, tt, tt, tt, tt, tt, tt, tt, tt, ff, ff, ff, ff, ff, ff, ff, ff, ff, ff, ff, ff] rfl rfl (by kernel_rfl) (fun _ _ _ h => h) (Or.inr ⟨by rfl, rfl⟩) ?_ ?_
        rotate_left
        ·simp only [Act.put, zp, zq, zr, i64_w, i32_w]
         rfl
        refine pure_ (i := 12) (N := some 49) (v := undef) (a' := ?_) #[tt, tt, tt, tt, tt, tt, tt, tt, tt, tt, tt, tt, tt, ff, ff, ff, ff, ff, ff, ff, ff, ff, ff, ff] rfl rfl (by kernel_rfl) (fun _ _ _ h => h) (Or.inr ⟨by rfl, rfl⟩) ?_ ?_
        rotate_left
        ·simp only [Act.put, zp, zq, zr, i64_w, i32_w]
         rfl
        refine pure_ (i := 13) (N := some 50) (v := undef) (a' := ?_) #[tt, tt, tt, tt, tt, tt, tt, tt, tt, tt, tt, tt, tt, tt, ff, ff, ff, ff, ff, ff, ff, ff, ff, ff] rfl rfl (by kernel_rfl) (fun _ _ _ h => h) (Or.inr ⟨by rfl, rfl⟩) ?_ ?_
        rotate_left
        ·simp only [Act.put, zp, zq, zr, i64_w, i32_w]
         rfl
        refine pure_ (i := 14) (N := some 51) (v := undef) (a' := ?_) #[tt, tt, tt, tt, tt, tt, tt, tt, tt, tt, tt, tt, tt, tt, tt, ff, ff, ff, ff, ff, ff, ff, ff, ff] rfl rfl (by kernel_rfl) (fun _ _ _ h => h) (Or.inr ⟨by rfl, rfl⟩) ?_ ?_
        rotate_left
        ·simp only [Act.put, zp, zq, zr, i64_w, i32_w]
         rfl
        refine pure_ (i := 15) (N := some 52) (v := undef) (a' := ?_) #[tt, tt, tt, tt, tt, tt, tt, tt, tt, tt, tt, tt, tt, tt, tt, tt, ff, ff, ff, ff, ff, ff, ff, ff] rfl rfl (by kernel_rfl) (fun _ _ _ h => h) (Or.inr ⟨by rfl, rfl⟩) ?_ ?_
        rotate_left
        ·simp only [Act.put, zp, zq, zr, i64_w, i32_w]
         rfl
        refine pure_ (i := 16) (N := some 53) (v := undef) (a' := ?_) #[tt, tt, tt, tt, tt, tt, tt, tt, tt, tt, tt, tt, tt, tt, tt, tt, tt, ff, ff, ff, ff, ff, ff, ff] rfl rfl (by kernel_rfl) (fun _ _ _ h => h) (Or.inr ⟨by rfl, rfl⟩) ?_ ?_
        rotate_left
        ·simp only [Act.put, zp, zq, zr, i64_w, i32_w]
         rfl
        refine pure_ (i := 17) (N := some 54) (v := undef) (a' := ?_) #[tt, tt, tt, tt, tt, tt, tt, tt, tt, tt, tt, tt, tt, tt, tt, tt, tt, tt, ff, ff, ff, ff, ff, ff] rfl rfl (by kernel_rfl) (fun _ _ _ h => h) (Or.inr ⟨by rfl, rfl⟩) ?_ ?_
        rotate_left
        ·simp only [Act.put, zp, zq, zr, i64_w, i32_w]
         rfl
        refine pure_ (i := 18) (N := some 55) (v := undef) (a' := ?_) #[tt, tt, tt, tt, tt, tt, tt, tt, tt, tt, tt, tt, tt, tt, tt, tt, tt, tt, tt, ff, ff, ff, ff, ff] rfl rfl (by kernel_rfl) (fun _ _ _ h => h) (Or.inr ⟨by rfl, rfl⟩) ?_ ?_
        rotate_left
        ·simp only [Act.put, zp, zq, zr, i64_w, i32_w]
         rfl
        refine pure_ (i := 19) (N := some 56) (v := undef) (a' := ?_) #[tt, tt, tt, tt, tt, tt, tt, tt, tt, tt, tt, tt, tt, tt, tt, tt, tt, tt, tt, tt, ff, ff, ff, ff] rfl rfl (by kernel_rfl) (fun _ _ _ h => h) (Or.inr ⟨by rfl, rfl⟩) ?_ ?_
        rotate_left
        ·simp only [Act.put, zp, zq, zr, i64_w, i32_w]
         rfl
        refine pure_ (i := 20) (N := some 57) (v := undef) (a' := ?_) #[tt, tt, tt, tt, tt, tt, tt, tt, tt, tt, tt, tt, tt, tt, tt, tt, tt, tt, tt, tt, tt, ff, ff, ff] rfl rfl (by kernel_rfl) (fun _ _ _ h => h) (Or.inr ⟨by rfl, rfl⟩) ?_ ?_
        rotate_left
        ·simp only [Act.put, zp, zq, zr, i64_w, i32_w]
         rfl
        refine pure_ (i := 21) (N := some 58) (v := undef) (a' := ?_) #[tt, tt, tt, tt, tt, tt, tt, tt, tt, tt, tt, tt, tt, tt, tt, tt, tt, tt, tt, tt, tt, tt, ff, ff] rfl rfl (by kernel_rfl) (fun _ _ _ h => h) (Or.inr ⟨by rfl, rfl⟩) ?_ ?_
        rotate_left
        ·simp only [Act.put, zp, zq, zr, i64_w, i32_w]
         rfl
        refine pure_ (i := 22) (N := some 59) (v := undef) (a' := ?_) #[tt, tt, tt, tt, tt, tt, tt, tt, tt, tt, tt, tt, tt, tt, tt, tt, tt, tt, tt, tt, tt, tt, tt, ff] rfl rfl (by kernel_rfl) (fun _ _ _ h => h) (Or.inr ⟨by rfl, rfl⟩) ?_ ?_
        rotate_left
        ·simp only [Act.put, zp, zq, zr, i64_w, i32_w]
         rfl
        refine zu 23 (some 60) #[tt, tt, tt, tt, tt, tt, tt, tt, tt, tt, tt, tt, tt, tt, tt, tt, tt, tt, tt, tt, tt, tt, tt, tt] (by kernel_rfl) ?_
        refine done_ (by kernel_rfl) ?_
        have hbr : Below w5.heap.size w5 w6 := below_then (below_drew (Below.refl _ _)) (Nat.le_refl _) hb6
        have n1 := zK (aG.out.below hbr)
        have n2 := zK (blk_below an.out hbr)
        have n3 := zK (blk_below ag.out hbr)
        have n4 := zK (below_step HB5.out hbr)
        have H2 := zK (show spec_l05Step.l0 k1 tr T ch wa0 (wrap64 (i + 1)) = some (r1, r2, r3, r4) from by have h_ := H'.out; rwa [if_neg (by simp)] at h_)
        go_wp2
        go_roundg k1
        case measure => have := au.out; omega
        case rel => exact ⟨wrap64 (i + 1), tr, ch, rfl, H2, ⟨by have := au.out; omega⟩, n1, n2, n3, n4⟩
       | true =>
        have H := H'.out; clear H'
        rw [if_pos rfl] at H
        by_cases c8 : ((rd_T69 ch i).f2.length : Int) < (rd_T69 ch i).f1
        ·rw [if_pos c8] at H
         have c8b : decide (((rd_T69 ch i).f2.length : Int) < (rd_T69 ch i).f1) = true := decide_eq_true c8
         by_cases c9 : (rd_T69 ch i).f2.length < 17592186044416
         ·rw [if_pos c9] at H
          have H' := zK H; clear H
          refine start_ (n := 24) (S := fun w' => w'.cell? ⟨g3, 0, none⟩ = some (.slice (some ⟨gT, 0, none⟩) tr.length d0') ∧ w'.cell? ⟨g3, 1, none⟩ = some (.int .i64 T) ∧ w'.cell? ⟨g3, 2, none⟩ = some (.slice (some ad) ch.length d2') ∧ w'.cell? ⟨g3, 3, none⟩ = some (.slice B3' wa0.length d3') ∧ w'.cell? ⟨(ad.add (i.toNat * 3)).block, (ad.add (i.toNat * 3)).off + 1, none⟩ = some (.int .i64 (rd_T69 ch i).f1) ∧ w'.cell? ⟨(ad.add (i.toNat * 3)).block, (ad.add (i.toNat * 3)).off + 2, none⟩ = some (.slice A5 (rd_T69 ch i).f2.length c5)) (ds := []) #[ff, ff, ff, ff, ff, ff, ff, ff, ff, ff, ff, ff, ff, ff, ff, ff, ff, ff, ff, ff, ff, ff, ff, ff] (by kernel_rfl) rfl rfl ⟨av, aw, ax, ay, hw1, hw2⟩ (fun hHeld => ?_)
          refine zu 0 (some 37) #[tt, ff, ff, ff, ff, ff, ff, ff, ff, ff, ff, ff, ff, ff, ff, ff, ff, ff, ff, ff, ff, ff, ff, ff] (by kernel_rfl) ?_
          refine zu 1 (some 38) #[tt, tt, ff, ff, ff, ff, ff, ff, ff, ff, ff, ff, ff, ff, ff, ff, ff, ff, ff, ff, ff, ff, ff, ff] (by kernel_rfl) ?_
          refine zu 2 (some 39) #[tt, tt, tt, ff, ff, ff, ff, ff, ff, ff, ff, ff, ff, ff, ff, ff, ff, ff, ff, ff, ff, ff, ff, ff] (by kernel_rfl) ?_
          refine zu 4 (some 41) #[tt, tt, tt, ff, tt, ff, ff, ff, ff, ff, ff, ff, ff, ff, ff, ff, ff, ff, ff, ff, ff, ff, ff, ff] (by kernel_rfl) ?_
          refine zu 5 (some 42) #[tt, tt, tt, ff, tt, tt, ff, ff, ff, ff, ff, ff, ff, ff, ff, ff, ff, ff, ff, ff, ff, ff, ff, ff] (by kernel_rfl) ?_
          refine zt 3 (some 40) #[tt, tt, tt, tt, tt, tt, ff, ff, ff, ff, ff, ff, ff, ff, ff, ff, ff, ff, ff, ff, ff, ff, ff, ff] (by kernel_rfl) hHeld ?_
          refine one_ (i := 6) (N := some 43) #[tt, tt, tt, tt, tt, tt, tt, ff, ff, ff, ff, ff, ff, ff, ff, ff, ff, ff, ff, ff, ff, ff, ff, ff] rfl rfl (by kernel_rfl) (by decide) (fun K hK => ?_)
          refine goes_ Try.func91 (by kernel_rfl) rfl #[.agg #[.slice (some ⟨gT, 0, none⟩) tr.length d0', .int .i64 T, .slice (some ad) ch.length d2', .slice B3' wa0.length d3'], .int .i64 (rd tr t), .int .i64 i] (by rfl) rfl rfl (by simp only [List.map_toArray, List.map_cons, List.map_nil]; rfl) ?_
          with_reducible refine (spec_l05Wants.calls k1 (some ⟨gT, 0, none⟩) d0' tr T (some ad) d2' ch B3' d3' wa0 (rd tr t) i true _ (Kd.C_drew C05.out) HL0.out (Kd.C_drew C25.out) HL2.out (Kd.C_drew C35.out) HL3.out A7.out).mono ?_
          rintro e w6 ⟨rfl, hb6⟩
          refine ⟨_, rfl, ?_⟩
          refine hK.out _ _ ⟨pw_cell_below hb6 hHeld.1, pw_cell_below hb6 hHeld.2.1, pw_cell_below hb6 hHeld.2.2.1, pw_cell_below hb6 hHeld.2.2.2.1, pw_cell_below hb6 hHeld.2.2.2.2.1, pw_cell_below hb6 hHeld.2.2.2.2.2⟩ (fun hHeld => ?_)
          clear hK K
          refine norm_ (a' := ?_) ?_ ?_
          rotate_left
          ·show Act.put _ (some 43) _ = _
           simp only [Act.put, zp, zq, zr, i64_w, i32_w]
           rfl
          refine zu 7 (some 44) #[tt, tt, tt, tt, tt, tt, tt, tt, ff, ff, ff, ff, ff, ff, ff, ff, ff, ff, ff, ff, ff, ff, ff, ff] (by kernel_rfl) ?_
          refine zu 8 (some 45) #[tt, tt, tt, tt, tt, tt, tt, tt, tt, ff, ff, ff, ff, ff, ff, ff, ff, ff, ff, ff, ff, ff, ff, ff] (by kernel_rfl) ?_
          refine zu 9 (some 46) #[tt, tt, tt, tt, tt, tt, tt, tt, tt, tt, ff, ff, ff, ff, ff, ff, ff, ff, ff, ff, ff, ff, ff, ff] (by kernel_rfl) ?_
          refine zu 11 (some 48) #[tt, tt, tt, tt, tt, tt, tt, tt, tt, tt, ff, tt, ff, ff, ff, ff, ff, ff, ff, ff, ff, ff, ff, ff] (by kernel_rfl) ?_
          refine zu 16 (some 53) #[tt, tt, tt, tt, tt, tt, tt, tt, tt, tt, ff, tt, ff, ff, ff, ff, tt, ff, ff, ff, ff, ff, ff, ff] (by kernel_rfl) ?_
          refine zu 18 (some 55) #[tt, tt, tt, tt, tt, tt, tt, tt, tt, tt, ff, tt, ff, ff, ff, ff, tt, ff, tt, ff, ff, ff, ff, ff] (by kernel_rfl) ?_
          refine zt 10 (some 47) #[tt, tt, tt, tt, tt, tt, tt, tt, tt, tt, tt, tt, ff, ff, ff, ff, tt, ff, tt, ff, ff, ff, ff, ff] (by kernel_rfl) hHeld ?_
          refine zu 12 (some 49) #[tt, tt, tt, tt, tt, tt, tt, tt, tt, tt, tt, tt, tt, ff, ff, ff, tt, ff, tt, ff, ff, ff, ff, ff] (by kernel_rfl) ?_
          refine zu 13 (some 50) #[tt, tt, tt, tt, tt, tt, tt, tt, tt, tt, tt, tt, tt, tt, ff, ff, tt, ff, tt, ff, ff, ff, ff, ff] (by kernel_rfl) ?_
          refine zt 14 (some 51) #[tt, tt, tt, tt, tt, tt, tt, tt, tt, tt, tt, tt, tt, tt, tt, ff, tt, ff, tt, ff, ff, ff, ff, ff] (by kernel_rfl) hHeld ?_
          refine zu 15 (some 52) #[tt, tt, tt, tt, tt, tt, tt, tt, tt, tt, tt, tt, tt, tt, tt, tt, tt, ff, tt, ff, ff, ff, ff, ff] (by kernel_rfl) ?_
          refine zt 17 (some 54) #[tt, tt, tt, tt, tt, tt, tt, tt, tt, tt, tt, tt, tt, tt, tt, tt, tt, tt, tt, ff, ff, ff, ff, ff] (by kernel_rfl) hHeld ?_
          refine zu 19 (some 56) #[tt, tt, tt, tt, tt, tt, tt, tt, tt, tt, tt, tt, tt, tt, tt, tt, tt, tt, tt, tt, ff, ff, ff, ff] (by kernel_rfl) ?_
          refine zu 20 (some 57) #[tt, tt, tt, tt, tt, tt, tt, tt, tt, tt, tt, tt, tt, tt, tt, tt, tt, tt, tt, tt, tt, ff, ff, ff] (by kernel_rfl) ?_
          refine zt 21 (some 58) #[tt, tt, tt, tt, tt, tt, tt, tt, tt, tt, tt, tt, tt, tt, tt, tt, tt, tt, tt, tt, tt, tt, ff, ff] (by kernel_rfl) hHeld ?_
          refine zu 22 (some 59) #[tt, tt, tt, tt, tt, tt, tt, tt, tt, tt, tt, tt, tt, tt, tt, tt, tt, tt, tt, tt, tt, tt, tt, ff] (by kernel_rfl) ?_
          refine zu 23 (some 60) #[tt, tt, tt, tt, tt, tt, tt, tt, tt, tt, tt, tt, tt, tt, tt, tt, tt, tt, tt, tt, tt, tt, tt, tt] (by kernel_rfl) ?_
          refine done_ (by kernel_rfl) ?_
          have hbr : Below w5.heap.size w5 w6 := below_then (below_drew (Below.refl _ _)) (Nat.le_refl _) hb6
          have n1 := zK (aG.out.below hbr)
          have n2 := zK (blk_below an.out hbr)
          have n3 := zK (blk_below ag.out hbr)
          have n4 := zK (below_step HB5.out hbr)
          clear hb6
          go_wp2
          have hd : Below w6.heap.size w6 w6.drew := below_drew (Below.refl _ _)
          have hLd := n1.out.below hd
          obtain ⟨gC, A8, c8_, oki, eC, hbC, htC, hgC, hR8, aH, hok8, hH8⟩ := hLd.lend i c2 c1
          cases eC
          have HLd := zK hLd; have HBC := zK hbC; have HTC := zK htC; have HGC := zK hgC; have aA := zK hR8; have HFR8 := zK aH; have HOK8 := zK hok8; have HH8 := zK hH8; have HL9 := zK c9
          have hu0 : w6.cell? ⟨g3, 2, none⟩ = some (.slice (some ⟨gC, 0, none⟩) ch.length d2') := (blk_cell n3.out 2).trans rfl
          have hu1 : w6.cell? ⟨gC, i.toNat * 3 + 2, none⟩ = some (.slice A8 (rd_T69 ch i).f2.length c8_) := (Kd.H_at hH8 c2 c1).1 2 _ rfl
          have info3 : (Try.prog.info? 3).map (fun i => (i.zero, i.size, i.bytes)) = some (some (.int .i64 0), 1, 8) := by kernel_rfl
          clear hd hLd hbC htC hgC hR8 aH hok8 hH8 c9
          refine start_ (n := 15) (S := fun w' => w'.cell? ⟨g3, 2, none⟩ = some (.slice (some ⟨gC, 0, none⟩) ch.length d2') ∧ w'.cell? ⟨gC, i.toNat * 3 + 2, none⟩ = some (.slice A8 (rd_T69 ch i).f2.length c8_)) (ds := [14]) #[ff, ff, ff, ff, ff, ff, ff, ff, ff, ff, ff, ff, ff, ff, ff] (by kernel_rfl) rfl rfl ⟨hu0, hu1⟩ (fun hHeld => ?_)
          refine zu 0 (some 61) #[tt, ff, ff, ff, ff, ff, ff, ff, ff, ff, ff, ff, ff, ff, ff] (by kernel_rfl) ?_
          refine zu 2 (some 63) #[tt, ff, tt, ff, ff, ff, ff, ff, ff, ff, ff, ff, ff, ff, ff] (by kernel_rfl) ?_
          refine zu 3 (some 64) #[tt, ff, tt, tt, ff, ff, ff, ff, ff, ff, ff, ff, ff, ff, ff] (by kernel_rfl) ?_
          refine zu 5 (some 66) #[tt, ff, tt, tt, ff, tt, ff, ff, ff, ff, ff, ff, ff, ff, ff] (by kernel_rfl) ?_
          refine zu 9 (some 70) #[tt, ff, tt, tt, ff, tt, ff, ff, ff, tt, ff, ff, ff, ff, ff] (by kernel_rfl) ?_
          refine zt 1 (some 62) #[tt, tt, tt, tt, ff, tt, ff, ff, ff, tt, ff, ff, ff, ff, ff] (by kernel_rfl) hHeld ?_
          refine zt 4 (some 65) #[tt, tt, tt, tt, tt, tt, ff, ff, ff, tt, ff, ff, ff, ff, ff] (by kernel_rfl) hHeld ?_
          refine zu 6 (some 67) #[tt, tt, tt, tt, tt, tt, tt, ff, ff, tt, ff, ff, ff, ff, ff] (by kernel_rfl) ?_
          refine zu 7 (some 68) #[tt, tt, tt, tt, tt, tt, tt, tt, ff, tt, ff, ff, ff, ff, ff] (by kernel_rfl) ?_
          refine zt 8 (some 69) #[tt, tt, tt, tt, tt, tt, tt, tt, tt, tt, ff, ff, ff, ff, ff] (by kernel_rfl) hHeld ?_
          refine one_ (i := 10) (N := some 71) #[tt, tt, tt, tt, tt, tt, tt, tt, tt, tt, tt, ff, ff, ff, ff] rfl rfl (by kernel_rfl) (by decide) (fun K hK => ?_)
          refine value_ (w1 := ?_) (v := ?_) (by rfl) rfl ?_ ?_
          rotate_left 2
          ·go_simp
           constructor
           ·rfl
           ·rfl
          refine hK.out _ _ ⟨pw_cell_below (zB (Below.refl _ _) _) hHeld.1, pw_cell_below (zB (Below.refl _ _) _) hHeld.2⟩ (fun hHeld => ?_)
          clear hK K
          refine norm_ (a' := ?_) ?_ ?_
          rotate_left
          ·show Act.put _ (some 71) _ = _
           simp only [Act.put, zp, zq, zr, i64_w, i32_w]
           rfl
          refine one_ (i := 11) (N := some 72) #[tt, tt, tt, tt, tt, tt, tt, tt, tt, tt, tt, tt, ff, ff, ff] rfl rfl (by kernel_rfl) (by decide) (fun K hK => ?_)
          refine Kd.R_append_step (Kd.int .i64) (w0 := w) (W := w6.drew) w.heap.size (by rfl) (.tmp 69) (.tmp 71) 24 3 (.int .i64 0) 8 rfl Try.underlying24 info3 rfl (by decide) (by omega) (.slice A8 (rd_T69 ch i).f2.length c8_) (rd_T69 ch i).f2 (rd tr t) [.int .i64 (rd tr t)] oki (fun _ => False) rfl rfl ?aP (fun _ hk => hk.elim) ?aF ?aO ?aB ?aS ?aL ?_
          (case aP => exact rfl)
          (case aF => exact fun k hk => HFR8.out k hk)
          (case aO => exact aA.out)
          (case aB => exact below_drew n4.out)
          (case aS => exact n4.out.size)
          (case aL => have := HL9.out; omega)
          intro v7 w7 ho7 hb7 hg7 hat7
          obtain ⟨A9, k9, rfl⟩ := Kd.R_slice ho7
          rw [show ((rd_T69 ch i).f2 ++ [rd tr t]).length = (rd_T69 ch i).f2.length + 1 from by simp] at ho7 hat7
          obtain ⟨hcz, hfz, hLp⟩ := HLd.out.put i c2 c1 HOK8.out HGC.out aA.out HH8.out hg7 ho7
          have b3_ := blk_grown (w := w6.drew) (blk_below n3.out (below_drew (Below.refl _ _))) hg7 (Kd.R_ne aA.out (blk_below n3.out (below_drew (Below.refl _ _))) (by decide))
          refine hK.out _ _ ⟨(blk_cell b3_ 2).trans rfl, hcz⟩ (fun hHeld => ?_)
          clear hK K
          refine norm_ (a' := ?_) ?_ ?_
          rotate_left
          ·show Act.put _ (some 72) _ = _
           simp only [Act.put, zp, zq, zr, i64_w, i32_w]
           rfl
          refine zu 12 (some 73) #[tt, tt, tt, tt, tt, tt, tt, tt, tt, tt, tt, tt, tt, ff, ff] (by kernel_rfl) ?_
          refine zu 13 (some 74) #[tt, tt, tt, tt, tt, tt, tt, tt, tt, tt, tt, tt, tt, tt, ff] (by kernel_rfl) ?_
          refine last_ (i := 14) (N := none) #[tt, tt, tt, tt, tt, tt, tt, tt, tt, tt, tt, tt, tt, tt, tt] rfl rfl (by kernel_rfl) (by decide) (fun K hK => ?_)
          refine skip_ (w1 := ?_) (by rfl) rfl ?_ ?_
          rotate_left
          ·go_simp
           rfl
          refine hK.out _ _ ?_
          clear hK K
          refine done_ (by kernel_rfl) ?_
          have b2 := blk_grown (w := w6.drew) (blk_below n2.out (below_drew (Below.refl _ _))) hg7 (Kd.R_ne aA.out (blk_below n2.out (below_drew (Below.refl _ _))) (by decide))
          have b3 := blk_grown (w := w6.drew) (blk_below n3.out (below_drew (Below.refl _ _))) hg7 (Kd.R_ne aA.out (blk_below n3.out (below_drew (Below.refl _ _))) (by decide))
          obtain ⟨cC, hcC⟩ := HTC.out
          have hc7 := blk_grown hcC hg7 (fun e_ => (HOK8.out gC (aA.out.1 gC e_.symm)).2 rfl)
          have n23 : g2 ≠ gC := blk_ne b2 hc7 (by decide)
          have n33 : g3 ≠ gC := blk_ne b3 hc7 (by decide)
          have b2' := blk_far (p := ⟨gC, i.toNat * 3 + 2, none⟩) b2 n23 (.slice A9 ((rd_T69 ch i).f2.length + 1) k9)
          have b3' := blk_far (p := ⟨gC, i.toNat * 3 + 2, none⟩) b3 n33 (.slice A9 ((rd_T69 ch i).f2.length + 1) k9)
          obtain ⟨gT', eT', hbT', ⟨cT, htT⟩, hcT', hfT', hLT'⟩ := hLp.tray t c4 c5h 0
          cases eT'
          have n2T : g2 ≠ gT := blk_ne b2' htT (by decide)
          have n3T : g3 ≠ gT := blk_ne b3' htT (by decide)
          have B2e := zK (blk_far (p := ⟨gT, t.toNat, none⟩) b2' n2T (.int .i64 0))
          have B3e := zK (blk_far (p := ⟨gT, t.toNat, none⟩) b3' n3T (.int .i64 0))
          have HLe := zK hLT'
          have HBe := zK (zS (g := gT) (j := t.toNat) (v := .int .i64 0) (zS (g := gC) (j := i.toNat * 3 + 2) (v := .slice A9 ((rd_T69 ch i).f2.length + 1) k9) hb7 HBC.out) HBT.out)
          have hv0 : (w7.setCell ⟨gC, i.toNat * 3 + 2, none⟩ (.slice A9 ((rd_T69 ch i).f2.length + 1) k9)).cell? ⟨g3, 0, none⟩ = some (.slice (some ⟨gT, 0, none⟩) tr.length d0') := (blk_cell b3' 0).trans rfl
          clear b2 b3 b2' b3' hc7 hLT' hb7 hg7 hat7 ho7 hbT' hLp
          go_wp2
          go_roundg k1
          case measure => have := au.out; omega
          case rel => exact ⟨wrap64 (i + 1), tr.set t.toNat 0, ch.set i.toNat ⟨(rd_T69 ch i).f0, (rd_T69 ch i).f1, (rd_T69 ch i).f2 ++ [rd tr t]⟩, rfl, H', ⟨by have := au.out; omega⟩, HLe, B2e, B3e, HBe⟩
         ·rw [if_neg c9] at H
          exact absurd H (by simp)
        ·rw [if_neg c8] at H
         have c8b : decide (((rd_T69 ch i).f2.length : Int) < (rd_T69 ch i).f1) = false := decide_eq_false c8
         have H' := zK H; clear H
         refine start_ (n := 24) (S := fun w' => w'.cell? ⟨g3, 0, none⟩ = some (.slice (some ⟨gT, 0, none⟩) tr.length d0') ∧ w'.cell? ⟨g3, 1, none⟩ = some (.int .i64 T) ∧ w'.cell? ⟨g3, 2, none⟩ = some (.slice (some ad) ch.length d2') ∧ w'.cell? ⟨g3, 3, none⟩ = some (.slice B3' wa0.length d3') ∧ w'.cell? ⟨(ad.add (i.toNat * 3)).block, (ad.add (i.toNat * 3)).off + 1, none⟩ = some (.int .i64 (rd_T69 ch i).f1) ∧ w'.cell? ⟨(ad.add (i.toNat * 3)).block, (ad.add (i.toNat * 3)).off + 2, none⟩ = some (.slice A5 (rd_T69 ch i).f2.length c5)) (ds := []) #[ff, ff, ff, ff, ff, ff, ff, ff, ff, ff, ff, ff, ff, ff, ff, ff, ff, ff, ff, ff, ff, ff, ff, ff] (by kernel_rfl) rfl rfl ⟨av, aw, ax, ay, hw1, hw2⟩ (fun hHeld => ?_)
         refine zu 0 (some 37) #[tt, ff, ff, ff, ff, ff, ff, ff, ff, ff, ff, ff, ff, ff, ff, ff, ff, ff, ff, ff, ff, ff, ff, ff] (by kernel_rfl) ?_
         refine zu 1 (some 38) #[tt, tt, ff, ff, ff, ff, ff, ff, ff, ff, ff, ff, ff, ff, ff, ff, ff, ff, ff, ff, ff, ff, ff, ff] (by kernel_rfl) ?_
         refine zu 2 (some 39) #[tt, tt, tt, ff, ff, ff, ff, ff, ff, ff, ff, ff, ff, ff, ff, ff, ff, ff, ff, ff, ff, ff, ff, ff] (by kernel_rfl) ?_
         refine zu 4 (some 41) #[tt, tt, tt, ff, tt, ff, ff, ff, ff, ff, ff, ff, ff, ff, ff, ff, ff, ff, ff, ff, ff, ff, ff, ff] (by kernel_rfl) ?_
         refine zu 5 (some 42) #[tt, tt, tt, ff, tt, tt, ff, ff, ff, ff, ff, ff, ff, ff, ff, ff, ff, ff, ff, ff, ff, ff, ff, ff] (by kernel_rfl) ?_
         refine zt 3 (some 40) #[tt, tt, tt, tt, tt, tt, ff, ff, ff, ff, ff, ff, ff, ff, ff, ff, ff, ff, ff, ff, ff, ff, ff, ff] (by kernel_rfl) hHeld ?_
         refine one_ (i := 6) (N := some 43) #[tt, tt, tt, tt, tt, tt, tt, ff, ff, ff, ff, ff, ff, ff, ff, ff, ff, ff, ff, ff, ff, ff, ff, ff] rfl rfl (by kernel_rfl) (by decide) (fun K hK => ?_)
         refine goes_ Try.func91 (by kernel_rfl) rfl #[.agg #[.slice (some ⟨gT, 0, none⟩) tr.length d0', .int .i64 T, .slice (some ad) ch.length d2', .slice B3' wa0.length d3'], .int .i64 (rd tr t), .int .i64 i] (by rfl) rfl rfl (by simp only [List.map_toArray, List.map_cons, List.map_nil]; rfl) ?_
         with_reducible refine (spec_l05Wants.calls k1 (some ⟨gT, 0, none⟩) d0' tr T (some ad) d2' ch B3' d3' wa0 (rd tr t) i true _ (Kd.C_drew C05.out) HL0.out (Kd.C_drew C25.out) HL2.out (Kd.C_drew C35.out) HL3.out A7.out).mono ?_
         rintro e w6 ⟨rfl, hb6⟩
         refine ⟨_, rfl, ?_⟩
         refine hK.out _ _ ⟨pw_cell_below hb6 hHeld.1, pw_cell_below hb6 hHeld.2.1, pw_cell_below hb6 hHeld.2.2.1, pw_cell_below hb6 hHeld.2.2.2.1, pw_cell_below hb6 hHeld.2.2.2.2.1, pw_cell_below hb6 hHeld.2.2.2.2.2⟩ (fun hHeld => ?_)
         clear hK K
         refine norm_ (a' := ?_) ?_ ?_
         rotate_left
         ·show Act.put _ (some 43) _ = _
          simp only [Act.put, zp, zq, zr, i64_w, i32_w]
          rfl
         refine zu 7 (some 44) #[tt, tt, tt, tt, tt, tt, tt, tt, ff, ff, ff, ff, ff, ff, ff, ff, ff, ff, ff, ff, ff, ff, ff, ff] (by kernel_rfl) ?_
         refine zu 8 (some 45) #[tt, tt, tt, tt, tt, tt, tt, tt, tt, ff, ff, ff, ff, ff, ff, ff, ff, ff, ff, ff, ff, ff, ff, ff] (by kernel_rfl) ?_
         refine zu 9 (some 46) #[tt, tt, tt, tt, tt, tt, tt, tt, tt, tt, ff, ff, ff, ff, ff, ff, ff, ff, ff, ff, ff, ff, ff, ff] (by kernel_rfl) ?_
         refine zu 11 (some 48) #[tt, tt, tt, tt, tt, tt, tt, tt, tt, tt, ff, tt, ff, ff, ff, ff, ff, ff, ff, ff, ff, ff, ff, ff] (by kernel_rfl) ?_
         refine zu 16 (some 53) #[tt, tt, tt, tt, tt, tt, tt, tt, tt, tt, ff, tt, ff, ff, ff, ff, tt, ff, ff, ff, ff, ff, ff, ff] (by kernel_rfl) ?_
         refine zu 18 (some 55) #[tt, tt, tt, tt, tt, tt, tt, tt, tt, tt, ff, tt, ff, ff, ff, ff, tt, ff, tt, ff, ff, ff, ff, ff] (by kernel_rfl) ?_
         refine zt 10 (some 47) #[tt, tt, tt, tt, tt, tt, tt, tt, tt, tt, tt, tt, ff, ff, ff, ff, tt, ff, tt, ff, ff, ff, ff, ff] (by kernel_rfl) hHeld ?_
         refine zu 12 (some 49) #[tt, tt, tt, tt, tt, tt, tt, tt, tt, tt, tt, tt, tt, ff, ff, ff, tt, ff, tt, ff, ff, ff, ff, ff] (by kernel_rfl) ?_
         refine zu 13 (some 50) #[tt, tt, tt, tt, tt, tt, tt, tt, tt, tt, tt, tt, tt, tt, ff, ff, tt, ff, tt, ff, ff, ff, ff, ff] (by kernel_rfl) ?_
         refine zt 14 (some 51) #[tt, tt, tt, tt, tt, tt, tt, tt, tt, tt, tt, tt, tt, tt, tt, ff, tt, ff, tt, ff, ff, ff, ff, ff] (by kernel_rfl) hHeld ?_
         refine zu 15 (some 52) #[tt, tt, tt, tt, tt, tt, tt, tt, tt, tt, tt, tt, tt, tt, tt, tt, tt, ff, tt, ff, ff, ff, ff, ff] (by kernel_rfl) ?_
         refine zt 17 (some 54) #[tt, tt, tt, tt, tt, tt, tt, tt, tt, tt, tt, tt, tt, tt, tt, tt, tt, tt, tt, ff, ff, ff, ff, ff] (by kernel_rfl) hHeld ?_
         refine zu 19 (some 56) #[tt, tt, tt, tt, tt, tt, tt, tt, tt, tt, tt, tt, tt, tt, tt, tt, tt, tt, tt, tt, ff, ff, ff, ff] (by kernel_rfl) ?_
         refine zu 20 (some 57) #[tt, tt, tt, tt, tt, tt, tt, tt, tt, tt, tt, tt, tt, tt, tt, tt, tt, tt, tt, tt, tt, ff, ff, ff] (by kernel_rfl) ?_
         refine zt 21 (some 58) #[tt, tt, tt, tt, tt, tt, tt, tt, tt, tt, tt, tt, tt, tt, tt, tt, tt, tt, tt, tt, tt, tt, ff, ff] (by kernel_rfl) hHeld ?_
         refine zu 22 (some 59) #[tt, tt, tt, tt, tt, tt, tt, tt, tt, tt, tt, tt, tt, tt, tt, tt, tt, tt, tt, tt, tt, tt, tt, ff] (by kernel_rfl) ?_
         refine zu 23 (some 60) #[tt, tt, tt, tt, tt, tt, tt, tt, tt, tt, tt, tt, tt, tt, tt, tt, tt, tt, tt, tt, tt, tt, tt, tt] (by kernel_rfl) ?_
         refine done_ (by kernel_rfl) ?_
         have hbr : Below w5.heap.size w5 w6 := below_then (below_drew (Below.refl _ _)) (Nat.le_refl _) hb6
         have n1 := zK (aG.out.below hbr)
         have n2 := zK (blk_below an.out hbr)
         have n3 := zK (blk_below ag.out hbr)
         have n4 := zK (below_step HB5.out hbr)
         go_wp2
         go_roundg k1
         case measure => have := au.out; omega
         case rel => exact ⟨wrap64 (i + 1), tr, ch, rfl, H', ⟨by have := au.out; omega⟩, n1, n2, n3, n4⟩
     ·rw [if_neg c5h] at H
      exact absurd H (by simp)
    ·rw [if_neg c4] at H
     exact absurd H (by simp)
   ·rw [if_neg c2] at H
    exact absurd H (by simp)
  ·rw [if_neg c1] at H
   have c1b : decide (i < (ch.length : Int)) = false := decide_eq_false c1
   simp only [Option.some.injEq, Prod.mk.injEq] at H
   obtain ⟨rfl, rfl, rfl, rfl⟩ := H
   have av : wr.cell? ⟨g2, 0, none⟩ = some (.slice none 0 0) := (blk_cell aa.out 0).trans rfl
   have aw : wr.cell? ⟨g2, 1, none⟩ = some (.int .i64 0) := (blk_cell aa.out 1).trans rfl
   have ax : wr.cell? ⟨g2, 2, none⟩ = some (.slice none 0 0) := (blk_cell aa.out 2).trans rfl
   have ay : wr.cell? ⟨g2, 3, none⟩ = some (.slice none 0 0) := (blk_cell aa.out 3).trans rfl
   have hf0 := blk_frozen aa.out 0; have hf1 := blk_frozen aa.out 1; have hf2 := blk_frozen aa.out 2; have hf3 := blk_frozen aa.out 3
   go_wp2
   have b0 := blk_put aa.out 0 (.slice B0' tr.length d0') rfl
   have b1 := blk_put b0 1 (.int .i64 T) rfl
   have b2 := blk_put b1 2 (.slice B2' ch.length d2') rfl
   have m := ((((HL.out.box aa.out 0 (.slice B0' tr.length d0')).box b0 1 (.int .i64 T)).box b1 2 (.slice B2' ch.length d2')).box b2 3 (.slice B3' wa0.length d3'))
   refine bodyPost_ret (results_cell_row rfl _ _ g2 28 #[.slice B0' tr.length d0', .int .i64 T, .slice B2' ch.length d2', .slice B3' wa0.length d3'] (0, 0) _ rfl (blk_put (blk_put (blk_put (blk_put aa.out 0 _ rfl) 1 _ rfl) 2 _ rfl) 3 _ rfl) Try.underlying28 rfl (by kernel_rfl)) rfl ?_
   exact ⟨_, _, _, rfl, Kd.R_mono m.1 (fun _ _ => trivial), Kd.S_mono m.2.1 (fun _ hk => hk.1), Kd.S_mono m.2.2.1 (fun k_ hk e_ => m.1.1 k_ e_.symm hk), zS (zS (zS (zS HB.out GE2.out) GE2.out) GE2.out) GE2.out⟩
end Go.Proofs.Ytmjhbdmicejppaa.Px
