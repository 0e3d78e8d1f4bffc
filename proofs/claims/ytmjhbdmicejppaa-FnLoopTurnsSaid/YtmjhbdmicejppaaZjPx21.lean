import Derived.Test.YtmjhbdmicejppaaZjPx0
namespace Go.Proofs.Ytmjhbdmicejppaa.Px
open Go.RowKit Go.Proofs.YtmjhbdmicejppaaW.PrintWords Go.Proofs.YtmjhbdmicejppaaW.PrintLast Go.Proofs.YtmjhbdmicejppaaW.PrintMore
attribute [local go_sem] max2_int min2_int max_two min_two max_three min_three max_four min_four   
set_option linter.unusedVariables false
set_option linter.unusedSimpArgs false
mutual
def laws_aboard.l0 : Nat → Int → Int → List Int → Int → List (S69) → List (S74) → Option (Int)
 | 0, _, _, _, _, _, _ => none
 | k + 1, x3, x4, x500000, x500001, x500002, x500003 => if x4 < (x500000.length : Int) then (if 0 ≤ x4 then (if (rd x500000 x4) = 0 then (laws_aboard.l0 k x3 (wrap64 (x4 + 1)) x500000 x500001 x500002 x500003) else (laws_aboard.l0 k (wrap64 (x3 + 1)) (wrap64 (x4 + 1)) x500000 x500001 x500002 x500003)) else (none)) else (laws_aboard.l1 k x3 0 x500000 x500001 x500002 x500003)
def laws_aboard.l1 : Nat → Int → Int → List Int → Int → List (S69) → List (S74) → Option (Int)
 | 0, _, _, _, _, _, _ => none
 | k + 1, x3, x5, x500000, x500001, x500002, x500003 => if x5 < (x500002.length : Int) then (if 0 ≤ x5 then (laws_aboard.l1 k (wrap64 (x3 + (((rd_T69 x500002 x5).f2).length : Int))) (wrap64 (x5 + 1)) x500000 x500001 x500002 x500003) else (none)) else (some x3)
end
def laws_aboard.f (k : Nat) (l0_0 : List Int) (a0_1 : Int) (l0_2 : List (S69)) (l0_3 : List (S74)) : Option (Int) := laws_aboard.l0 k 0 0 l0_0 a0_1 l0_2 l0_3
set_option maxHeartbeats 8000000 in
set_option maxRecDepth 100000 in
theorem laws_aboard.calls (k : Nat) (ai : Option Addr) (aj : Nat) (ac : List Int) (a0_1 : Int) (ak : Option Addr) (al : Nat) (ad : List (S69)) (am : Option Addr) (an : Nat) (ag : List (S74)) (r : Int) (w : World) (aA : Kd.C (Kd.int .i64) w ai ac.length ac) (hc0_0 : ac.length ≤ aj) (aB : Kd.C k69 w ak ad.length ad) (hc0_2 : ad.length ≤ al) (aC : Kd.C k74 w am ag.length ag) (hc0_3 : ag.length ≤ an) (h : laws_aboard.f k ac a0_1 ad ag = some r) :
  Calls Try.prog 28 #[.agg #[.slice ai ac.length aj, .int .i64 a0_1, .slice ak ad.length al, .slice am ag.length an]] w fun e w' => e = .returned (.int .i64 r) ∧ Below w.heap.size w w' := by
 have hu28 := Try.underlying28; have aD := zK aA; have HC0_0 := zK hc0_0; clear aA hc0_0; have aQ := zK aB; have HC0_2 := zK hc0_2; clear aB hc0_2; have HR0_3 := zK aC; have HC0_3 := zK hc0_3; clear aC hc0_3
 have HB := zK (Below.refl w.heap.size w)
 have H : (laws_aboard.l0 k 0 0 ac a0_1 ad ag) = some r := h
 clear h; have H' := zK H; clear H
 go_enter Try.func28, Try.ntmps28
 go_wp2_with (first | ((with_reducible refine gate_dst (N := 1) rfl ?_); refine zX 1 #[.slice ai ac.length aj, .int .i64 a0_1, .slice ak ad.length al, .slice am ag.length an] 28 ?_; intro ab hg w2 hbox hb; have n0_ := zK (below_step (zb HB) hb); have n1_ := zK (hbox); have n2_ := zK ((by rw [hg]; exact (below_size (zb HB)) : w.heap.size ≤ ab)); have n3_ := zK ((by rw [hg]; exact (below_size (zb HB)) : w.heap.size ≤ ab)); clear HB; have HB := n0_; have aa := n1_; have GW499 := n2_; have ao := n3_; clear n0_ n1_ n2_ n3_; clear hb hbox hg))
 go_loopg [3, 4] k (fun kq v3 v4 w' => ∃ (ay : Int) (ae : Int), v3 = .int .i64 ay ∧ v4 = .int .i64 ae ∧ Aside0 (laws_aboard.l0 kq ay ae ac a0_1 ad ag = some r) ∧ Aside0 (kq ≤ k) ∧ Aside0 (w'.heap[ab]? = some (.cells #[(.slice ai ac.length aj), .int .i64 a0_1, (.slice ak ad.length al), (.slice am ag.length an)] 28 (0, 0))) ∧ Aside0 (Below w.heap.size w w'))
 case atStart => exact ⟨(0), (0), zf, zf, H', ⟨Nat.le_refl _⟩, ⟨zk aa⟩, ⟨zb HB⟩⟩
 case round =>
  clear H'
  obtain ⟨ay, ae, rfl, rfl, HA, aP, aa, HB⟩ := hrel
  cases gk with
  | zero => exact absurd HA.out (by simp [laws_aboard.l0])
  | succ k1 =>
   have H := HA.out; clear HA
   simp only [laws_aboard.l0] at H
   by_cases c3 : ae < (ac.length : Int)
   ·rw [if_pos c3] at H
    have aR : decide (ae < (ac.length : Int)) = true := decide_eq_true c3
    clear c3
    by_cases c4 : 0 ≤ ae
    ·rw [if_pos c4] at H
     have c4b0 : decide (0 ≤ ae) = true := decide_eq_true c4
     clear c4
     by_cases c5 : (rd ac ae) = 0
     ·rw [if_pos c5] at H
      have c5b0 : ((rd ac ae) == 0) = true := beq_iff_eq.mpr c5
      have c5b1 : ((rd ac ae) != 0) = false := bne_eq_false_iff_eq.mpr c5
      clear c5; have H' := zK H; clear H
      have hcz6_0 : wr.cell? ⟨ab, 0, none⟩ = some (.slice ai ac.length aj) := (blk_cell aa.out 0).trans rfl
      have hcz6_1 : wr.cell? ⟨ab, 1, none⟩ = some (.int .i64 a0_1) := (blk_cell aa.out 1).trans rfl
      have hcz6_2 : wr.cell? ⟨ab, 2, none⟩ = some (.slice ak ad.length al) := (blk_cell aa.out 2).trans rfl
      have hcz6_3 : wr.cell? ⟨ab, 3, none⟩ = some (.slice am ag.length an) := (blk_cell aa.out 3).trans rfl
      have hfz6_0 := blk_frozen aa.out 0; have hfz6_1 := blk_frozen aa.out 1; have hfz6_2 := blk_frozen aa.out 2; have hfz6_3 := blk_frozen aa.out 3
      have au : 0 ≤ (ae : Int) := zd
      have av : ae < (ac.length : Int) := zd
      obtain ⟨aS, aE, af⟩ := Kd.at_int aD.out ae au av
      cases aE
      replace af := (HB.out.cell (World.block_lt_of_cell? w _ af)).trans af
      replace au := eq_true au; replace av := eq_true av
      go_wp2
      go_roundg k1
      case measure => have := aP.out; omega
      case rel => exact ⟨(ay), (wrap64 (ae + 1)), zf, zf, H', ⟨by have := aP.out; omega⟩, ⟨zk aa⟩, ⟨zb HB⟩⟩
     ·rw [if_neg c5] at H
      have c5b0 : ((rd ac ae) == 0) = false := beq_eq_false_iff_ne.mpr c5
      have c5b1 : ((rd ac ae) != 0) = true := bne_iff_ne.mpr c5
      have H' := zK H; clear H
      have hcz7_0 : wr.cell? ⟨ab, 0, none⟩ = some (.slice ai ac.length aj) := (blk_cell aa.out 0).trans rfl
      have hcz7_1 : wr.cell? ⟨ab, 1, none⟩ = some (.int .i64 a0_1) := (blk_cell aa.out 1).trans rfl
      have hcz7_2 : wr.cell? ⟨ab, 2, none⟩ = some (.slice ak ad.length al) := (blk_cell aa.out 2).trans rfl
      have hcz7_3 : wr.cell? ⟨ab, 3, none⟩ = some (.slice am ag.length an) := (blk_cell aa.out 3).trans rfl
      have hfz7_0 := blk_frozen aa.out 0; have hfz7_1 := blk_frozen aa.out 1; have hfz7_2 := blk_frozen aa.out 2; have hfz7_3 := blk_frozen aa.out 3
      have au : 0 ≤ (ae : Int) := zd
      have av : ae < (ac.length : Int) := zd
      obtain ⟨aS, aE, af⟩ := Kd.at_int aD.out ae au av
      cases aE
      replace af := (HB.out.cell (World.block_lt_of_cell? w _ af)).trans af
      replace au := eq_true au; replace av := eq_true av
      go_wp2
      go_roundg k1
      case measure => have := aP.out; omega
      case rel => exact ⟨(wrap64 (ay + 1)), (wrap64 (ae + 1)), zf, zf, H', ⟨by have := aP.out; omega⟩, ⟨zk aa⟩, ⟨zb HB⟩⟩
    ·rw [if_neg c4] at H
     exact absurd H (by simp)
   ·rw [if_neg c3] at H
    have aR : decide (ae < (ac.length : Int)) = false := decide_eq_false c3
    clear c3; have H' := zK H; clear H
    have aF : wr.cell? ⟨ab, 0, none⟩ = some (.slice ai ac.length aj) := (blk_cell aa.out 0).trans rfl
    have aG : wr.cell? ⟨ab, 1, none⟩ = some (.int .i64 a0_1) := (blk_cell aa.out 1).trans rfl
    have aH : wr.cell? ⟨ab, 2, none⟩ = some (.slice ak ad.length al) := (blk_cell aa.out 2).trans rfl
    have aI : wr.cell? ⟨ab, 3, none⟩ = some (.slice am ag.length an) := (blk_cell aa.out 3).trans rfl
    have aJ := blk_frozen aa.out 0; have aK := blk_frozen aa.out 1; have aL := blk_frozen aa.out 2; have aM := blk_frozen aa.out 3
    go_wp2
    go_loopg [3, 5] k1 (fun kq v3 v5 w' => ∃ (az : Int) (ah : Int), v3 = .int .i64 az ∧ v5 = .int .i64 ah ∧ Aside0 (laws_aboard.l1 kq az ah ac a0_1 ad ag = some r) ∧ Aside0 (kq ≤ k1) ∧ Aside0 (w'.heap[ab]? = some (.cells #[(.slice ai ac.length aj), .int .i64 a0_1, (.slice ak ad.length al), (.slice am ag.length an)] 28 (0, 0))) ∧ Aside0 (Below w.heap.size w w'))
    case atStart => exact ⟨(ay), (0), zf, zf, H', ⟨Nat.le_refl _⟩, ⟨zk aa⟩, ⟨zb HB⟩⟩
    case round =>
     clear H' aR aF aG aH aI aJ aK aL aM
     obtain ⟨az, ah, rfl, rfl, HA, HK2, aa, HB⟩ := hrel
     cases gk with
     | zero => exact absurd HA.out (by simp [laws_aboard.l1])
     | succ k2 =>
      have H := HA.out; clear HA
      simp only [laws_aboard.l1] at H
      by_cases c9 : ah < (ad.length : Int)
      ·rw [if_pos c9] at H
       have c9b0 : decide (ah < (ad.length : Int)) = true := decide_eq_true c9
       clear c9
       by_cases c10 : 0 ≤ ah
       ·rw [if_pos c10] at H
        have c10b0 : decide (0 ≤ ah) = true := decide_eq_true c10
        clear c10; have H' := zK H; clear H
        have hcz11_0 : wr.cell? ⟨ab, 0, none⟩ = some (.slice ai ac.length aj) := (blk_cell aa.out 0).trans rfl
        have hcz11_1 : wr.cell? ⟨ab, 1, none⟩ = some (.int .i64 a0_1) := (blk_cell aa.out 1).trans rfl
        have hcz11_2 : wr.cell? ⟨ab, 2, none⟩ = some (.slice ak ad.length al) := (blk_cell aa.out 2).trans rfl
        have hcz11_3 : wr.cell? ⟨ab, 3, none⟩ = some (.slice am ag.length an) := (blk_cell aa.out 3).trans rfl
        have hfz11_0 := blk_frozen aa.out 0; have hfz11_1 := blk_frozen aa.out 1; have hfz11_2 := blk_frozen aa.out 2; have hfz11_3 := blk_frozen aa.out 3
        have aN : 0 ≤ (ah : Int) := zd
        have aO : ah < (ad.length : Int) := zd
        obtain ⟨ad501, A501_2, c501_2, e501, ap, aq, ar, aw, ax⟩ := at_T69 aQ.out ah aN aO
        cases e501
        replace ap := (HB.out.cell (World.block_lt_of_cell? w _ ap)).trans ap
        replace aq := (HB.out.cell (World.block_lt_of_cell? w _ aq)).trans aq
        replace ar := (HB.out.cell (World.block_lt_of_cell? w _ ar)).trans ar
        have HR501_2 := zK ax; have HC501_2 := zK aw; clear ax aw; replace aN := eq_true aN; replace aO := eq_true aO
        go_wp2
        go_roundg k2
        case measure => have := aP.out; have := HK2.out; omega
        case rel => exact ⟨(wrap64 (az + (((rd_T69 ad ah).f2).length : Int))), (wrap64 (ah + 1)), zf, zf, H', ⟨by have := aP.out; have := HK2.out; omega⟩, ⟨zk aa⟩, ⟨zb HB⟩⟩
       ·rw [if_neg c10] at H
        exact absurd H (by simp)
      ·rw [if_neg c9] at H
       have c9b0 : decide (ah < (ad.length : Int)) = false := decide_eq_false c9
       clear c9; obtain rfl := Option.some.inj H
       have hcz12_0 : wr.cell? ⟨ab, 0, none⟩ = some (.slice ai ac.length aj) := (blk_cell aa.out 0).trans rfl
       have hcz12_1 : wr.cell? ⟨ab, 1, none⟩ = some (.int .i64 a0_1) := (blk_cell aa.out 1).trans rfl
       have hcz12_2 : wr.cell? ⟨ab, 2, none⟩ = some (.slice ak ad.length al) := (blk_cell aa.out 2).trans rfl
       have hcz12_3 : wr.cell? ⟨ab, 3, none⟩ = some (.slice am ag.length an) := (blk_cell aa.out 3).trans rfl
       have hfz12_0 := blk_frozen aa.out 0; have hfz12_1 := blk_frozen aa.out 1; have hfz12_2 := blk_frozen aa.out 2; have hfz12_3 := blk_frozen aa.out 3
       go_wp2
       go_ret
       exact ⟨ze, zb HB⟩
end Go.Proofs.Ytmjhbdmicejppaa.Px
