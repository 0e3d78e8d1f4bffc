import Derived.Test.YtmjhbdmicejppaaZsPx0
import Derived.Test.YtmjhbdmicejppaaZsPx1
namespace Go.Proofs.Ytmjhbdmicejppaa.Px
open Go.RowKit Go.Proofs.YtmjhbdmicejppaaW.PrintWords Go.Proofs.YtmjhbdmicejppaaW.PrintLast Go.Proofs.YtmjhbdmicejppaaW.PrintMore
attribute [local go_sem] max2_int min2_int max_two min_two max_three min_three max_four min_four   
set_option linter.unusedVariables false
set_option linter.unusedSimpArgs false
mutual
def spec_LoopOk.j0 : Nat → Int → Bool → List Int → Int → List (S69) → List (S74) → Option (Bool)
 | 0, _, _, _, _, _, _ => none
 | k + 1, a, b, c, d, e, f => if b = true then (some false) else (spec_LoopOk.l0 k a (([] : List Int)) 0 c d e f)
def spec_LoopOk.l0 : Nat → Int → List Int → Int → List Int → Int → List (S69) → List (S74) → Option (Bool)
 | 0, _, _, _, _, _, _, _ => none
 | k + 1, a, b, c, d, e, f, g => if c < a then (if 0 ≤ c then (if c < (d.length : Int) then (if (rd d c) = 0 then (spec_LoopOk.l0 k a b (wrap64 (c + 1)) d e f g) else (if b.length < 17592186044416 then (spec_LoopOk.l0 k a (b ++ [rd d c]) (wrap64 (c + 1)) d e f g) else (none))) else (none)) else (none)) else (spec_LoopOk.l1 k a b 0 d e f g)
def spec_LoopOk.l1 : Nat → Int → List Int → Int → List Int → Int → List (S69) → List (S74) → Option (Bool)
 | 0, _, _, _, _, _, _, _ => none
 | k + 1, a, b, c, d, e, f, g => if c < (f.length : Int) then (if 0 ≤ c then ((spec_l01In.f ((rd_T69 f c).f0) 0 (wrap64 (a - 1))).bind fun i => (if i = true then ((spec_l01In.f ((rd_T69 f c).f1) 0 40).bind fun j => (if j = true then (spec_LoopOk.j3 k a b c (decide ((((rd_T69 f c).f2).length : Int) > ((rd_T69 f c).f1))) d e f g ((rd_T69 f c).f0) ((rd_T69 f c).f1) ((rd_T69 f c).f2)) else (spec_LoopOk.j3 k a b c true d e f g ((rd_T69 f c).f0) ((rd_T69 f c).f1) ((rd_T69 f c).f2)))) else (spec_LoopOk.j3 k a b c true d e f g ((rd_T69 f c).f0) ((rd_T69 f c).f1) ((rd_T69 f c).f2)))) else (none)) else (spec_LoopOk.l3 k b 0 d e f g)
def spec_LoopOk.j3 : Nat → Int → List Int → Int → Bool → List Int → Int → List (S69) → List (S74) → Int → Int → List Int → Option (Bool)
 | 0, _, _, _, _, _, _, _, _, _, _, _ => none
 | k + 1, a, b, c, d, e, f, g, i, j, l, m => if d = true then (some false) else (spec_LoopOk.l2 k a b c 0 e f g i j l m)
def spec_LoopOk.l2 : Nat → Int → List Int → Int → Int → List Int → Int → List (S69) → List (S74) → Int → Int → List Int → Option (Bool)
 | 0, _, _, _, _, _, _, _, _, _, _, _ => none
 | k + 1, a, b, c, d, e, f, g, i, j, l, m => if d < c then (if 0 ≤ d then (if d < (g.length : Int) then (if ((rd_T69 g d).f0) = j then (some false) else (spec_LoopOk.l2 k a b c (wrap64 (d + 1)) e f g i j l m)) else (none)) else (none)) else (if b.length + m.length < 17592186044416 then (spec_LoopOk.l1 k a (b ++ m) (wrap64 (c + 1)) e f g i) else (none))
def spec_LoopOk.l3 : Nat → List Int → Int → List Int → Int → List (S69) → List (S74) → Option (Bool)
 | 0, _, _, _, _, _, _ => none
 | k + 1, a, b, c, d, e, f => if b < (a.length : Int) then (if 0 ≤ b then (if (rd a b) < 1 then (some false) else (if b ≤ (a.length : Int) then ((spec_l03Has.f k (a.take (b : Int).toNat) (rd a b)).bind fun g => (if g = true then (some false) else (spec_LoopOk.l3 k a (wrap64 (b + 1)) c d e f))) else (none))) else (none)) else (spec_LoopOk.l4 k 0 c d e f)
def spec_LoopOk.l4 : Nat → Int → List Int → Int → List (S69) → List (S74) → Option (Bool)
 | 0, _, _, _, _, _ => none
 | k + 1, a, b, c, d, e => if a < (e.length : Int) then (if 0 ≤ a then (if ((rd_T74 e a).f0) < 1 then (some false) else (spec_LoopOk.l5 k a 0 b c d e ((rd_T74 e a).f0) ((rd_T74 e a).f1))) else (none)) else (some true)
def spec_LoopOk.l5 : Nat → Int → Int → List Int → Int → List (S69) → List (S74) → Int → List Int → Option (Bool)
 | 0, _, _, _, _, _, _, _, _ => none
 | k + 1, a, b, c, d, e, f, g, i => if b < a then (if 0 ≤ b then (if b < (f.length : Int) then (if ((rd_T74 f b).f0) = g then (some false) else (spec_LoopOk.l5 k a (wrap64 (b + 1)) c d e f g i)) else (none)) else (none)) else (spec_LoopOk.l6 k a 0 c d e f g i)
def spec_LoopOk.l6 : Nat → Int → Int → List Int → Int → List (S69) → List (S74) → Int → List Int → Option (Bool)
 | 0, _, _, _, _, _, _, _, _ => none
 | k + 1, a, b, c, d, e, f, g, i => if b < (i.length : Int) then (if 0 ≤ b then ((spec_l01In.f (rd i b) 0 (wrap64 ((e.length : Int) - 1))).bind fun j => (if j = true then (if b > 0 then (if 0 ≤ (wrap64 (b - 1)) then (if (wrap64 (b - 1)) < (i.length : Int) then (spec_LoopOk.j9 k a b (decide ((rd i b) ≤ (rd i (wrap64 (b - 1))))) c d e f g i) else (none)) else (none)) else (spec_LoopOk.j9 k a b false c d e f g i)) else (spec_LoopOk.j9 k a b true c d e f g i))) else (none)) else (spec_LoopOk.l4 k (wrap64 (a + 1)) c d e f)
def spec_LoopOk.j9 : Nat → Int → Int → Bool → List Int → Int → List (S69) → List (S74) → Int → List Int → Option (Bool)
 | 0, _, _, _, _, _, _, _, _, _ => none
 | k + 1, a, b, c, d, e, f, g, i, j => if c = true then (some false) else (spec_LoopOk.l6 k a (wrap64 (b + 1)) d e f g i j)
end
def spec_LoopOk.f (k : Nat) (a : List Int) (b : Int) (c : List (S69)) (d : List (S74)) : Option (Bool) := (spec_l01In.f (a.length : Int) 2 60).bind fun e => (if e = true then ((spec_l01In.f b 0 (wrap64 ((a.length : Int) - 1))).bind fun f => (if f = true then (if (c.length : Int) > 8 then (spec_LoopOk.j0 k (a.length : Int) true a b c d) else (spec_LoopOk.j0 k (a.length : Int) (decide ((d.length : Int) > 60)) a b c d)) else (spec_LoopOk.j0 k (a.length : Int) true a b c d))) else (spec_LoopOk.j0 k (a.length : Int) true a b c d))
set_option maxHeartbeats 8000000 in
set_option maxRecDepth 100000 in
theorem spec_LoopOk.calls (k : Nat) (aw : Option Addr) (ar : Nat) (ad : List Int) (a0_1 : Int) (az : Option Addr) (au : Nat) (ab : List (S69)) (aD : Option Addr) (av : Nat) (ac : List (S74)) (r : Bool) (w : World) (de : Kd.C (Kd.int .i64) w aw ad.length ad) (hc0_0 : ad.length ≤ ar) (df : Kd.C k69 w az ab.length ab) (hc0_2 : ab.length ≤ au) (dg : Kd.C k74 w aD ac.length ac) (hc0_3 : ac.length ≤ av) (h : spec_LoopOk.f k ad a0_1 ab ac = some r) :
  Calls Try.prog 23 #[.agg #[.slice aw ad.length ar, .int .i64 a0_1, .slice az ab.length au, .slice aD ac.length av]] w fun e w' => e = .returned (.bool r) ∧ Below w.heap.size w w' := by
 have hu28 := Try.underlying28; have hu69 := Try.underlying69; have hu74 := Try.underlying74; have bX := zK de; have HC0_0 := zK hc0_0; clear de hc0_0; have bY := zK df; have HC0_2 := zK hc0_2; clear df hc0_2; have bL := zK dg; have HC0_3 := zK hc0_3; clear dg hc0_3
 have HB := zK (Below.refl w.heap.size w)
 have H := h; unfold spec_LoopOk.f at H
 clear h; have HC2 := zK H; clear H
 go_enter Try.func23, Try.ntmps23
 go_upto_region 2 with ((with_reducible refine gate_dst (N := 1) rfl ?_); (try (refine gate_guard (by rfl) ?_; dsimp only)); refine zX 1 #[.slice aw ad.length ar, .int .i64 a0_1, .slice az ab.length au, .slice aD ac.length av] 28 ?_; intro af hg w3 hbox hb; have aa := zK (hbox); have GW139 := zK ((by rw [hg]; exact (below_size (zb HB)) : w.heap.size ≤ af)); have aj := zK ((by rw [hg]; exact (below_size (zb HB)) : w.heap.size ≤ af)); replace HB := zK (below_step (zb HB) hb); clear hb hbox hg; obtain ⟨dt, du, dv, dw⟩ := zL4 aa; obtain ⟨dx, dy, dz, dA⟩ := zF4 aa)
 go_cut [39] (fun v39 wc => ∃ (kq : Nat) (bN : Bool), v39 = .bool bN ∧ Aside0 (spec_LoopOk.j0 kq (ad.length : Int) bN ad a0_1 ab ac = some r) ∧ Aside0 (kq ≤ k) ∧ Aside0 (wc.heap[af]? = some (.cells #[(.slice aw ad.length ar), .int .i64 a0_1, (.slice az ab.length au), (.slice aD ac.length av)] 28 (0, 0))) ∧ Aside0 (Below w.heap.size w wc))
 case first =>
  have H := HC2.out; clear HC2; replace H := Option.bind_eq_some_iff.mp H
  obtain ⟨cd, A50, H⟩ := H
  (try dsimp only at H)
  have A5 := zK A50; clear A50
  by_cases c6 : cd = true
  ·subst c6
   rw [if_pos rfl] at H; replace H := Option.bind_eq_some_iff.mp H
   obtain ⟨bw, A70, H⟩ := H
   (try dsimp only at H)
   have A7 := zK A70; clear A70
   by_cases c8 : bw = true
   ·subst c8
    rw [if_pos rfl] at H
    by_cases c9 : (ab.length : Int) > 8
    ·rw [if_pos c9] at H
     have c9b0 : decide (8 < (ab.length : Int)) = true := decide_eq_true c9
     have c9b1 : decide (8 < ab.length) = true := decide_eq_true (by omega)
     clear c9; have H' := zK H; clear H
     go_wp2_with (first | (go_at_call 62; (with_reducible refine (spec_l01In.calls (ad.length : Int) 2 60 true _ A5.out).mono ?_); rintro e w' ⟨rfl, ⟨nd, rfl⟩⟩; (try first | exact ⟨rfl, _, World.drewN_drewN _ _ _⟩ | exact ⟨rfl, _, Eq.trans (World.drewN_drewN _ _ _) (congrArg (World.drewN _) (Nat.add_assoc _ _ _))⟩); obtain ⟨hcz10_0, hcz10_1, hcz10_2, hcz10_3⟩ := zL4 aa; obtain ⟨hfz10_0, hfz10_1, hfz10_2, hfz10_3⟩ := zF4 aa) | (go_at_call 62; (with_reducible refine (spec_l01In.calls a0_1 0 (wrap64 ((ad.length : Int) - 1)) true _ A7.out).mono ?_); rintro e w' ⟨rfl, ⟨nd, rfl⟩⟩; (try first | exact ⟨rfl, _, World.drewN_drewN _ _ _⟩ | exact ⟨rfl, _, Eq.trans (World.drewN_drewN _ _ _) (congrArg (World.drewN _) (Nat.add_assoc _ _ _))⟩)))
     go_meet
     case rel => exact ⟨_, (true), zf, H', ⟨by first | omega | exact Nat.le_refl _⟩, ⟨zk aa⟩, ⟨zb HB⟩⟩
    ·rw [if_neg c9] at H
     have c9b0 : decide (8 < (ab.length : Int)) = false := decide_eq_false c9
     have c9b1 : decide (8 < ab.length) = false := decide_eq_false (by omega)
     clear c9; have H' := zK H; clear H
     go_wp2_with (first | (go_at_call 62; (with_reducible refine (spec_l01In.calls (ad.length : Int) 2 60 true _ A5.out).mono ?_); rintro e w' ⟨rfl, ⟨nd, rfl⟩⟩; (try first | exact ⟨rfl, _, World.drewN_drewN _ _ _⟩ | exact ⟨rfl, _, Eq.trans (World.drewN_drewN _ _ _) (congrArg (World.drewN _) (Nat.add_assoc _ _ _))⟩); obtain ⟨hcz11_0, hcz11_1, hcz11_2, hcz11_3⟩ := zL4 aa; obtain ⟨hfz11_0, hfz11_1, hfz11_2, hfz11_3⟩ := zF4 aa) | (go_at_call 62; (with_reducible refine (spec_l01In.calls a0_1 0 (wrap64 ((ad.length : Int) - 1)) true _ A7.out).mono ?_); rintro e w' ⟨rfl, ⟨nd, rfl⟩⟩; (try first | exact ⟨rfl, _, World.drewN_drewN _ _ _⟩ | exact ⟨rfl, _, Eq.trans (World.drewN_drewN _ _ _) (congrArg (World.drewN _) (Nat.add_assoc _ _ _))⟩)))
     go_meet
     case rel => exact ⟨_, (decide ((ac.length : Int) > 60)), zf, H', ⟨by first | omega | exact Nat.le_refl _⟩, ⟨zk aa⟩, ⟨zb HB⟩⟩
   ·replace c8 := Bool.eq_false_iff.mpr c8
    subst c8
    rw [if_neg (show ¬ (false = true) by decide)] at H; have H' := zK H; clear H
    go_wp2_with (first | (go_at_call 62; (with_reducible refine (spec_l01In.calls (ad.length : Int) 2 60 true _ A5.out).mono ?_); rintro e w' ⟨rfl, ⟨nd, rfl⟩⟩; (try first | exact ⟨rfl, _, World.drewN_drewN _ _ _⟩ | exact ⟨rfl, _, Eq.trans (World.drewN_drewN _ _ _) (congrArg (World.drewN _) (Nat.add_assoc _ _ _))⟩); obtain ⟨hcz12_0, hcz12_1, hcz12_2, hcz12_3⟩ := zL4 aa; obtain ⟨hfz12_0, hfz12_1, hfz12_2, hfz12_3⟩ := zF4 aa) | (go_at_call 62; (with_reducible refine (spec_l01In.calls a0_1 0 (wrap64 ((ad.length : Int) - 1)) false _ A7.out).mono ?_); rintro e w' ⟨rfl, ⟨nd, rfl⟩⟩; (try first | exact ⟨rfl, _, World.drewN_drewN _ _ _⟩ | exact ⟨rfl, _, Eq.trans (World.drewN_drewN _ _ _) (congrArg (World.drewN _) (Nat.add_assoc _ _ _))⟩)))
    go_meet
    case rel => exact ⟨_, (true), zf, H', ⟨by first | omega | exact Nat.le_refl _⟩, ⟨zk aa⟩, ⟨zb HB⟩⟩
  ·replace c6 := Bool.eq_false_iff.mpr c6
   subst c6
   rw [if_neg (show ¬ (false = true) by decide)] at H; have H' := zK H; clear H
   go_wp2_with (go_at_call 62; (with_reducible refine (spec_l01In.calls (ad.length : Int) 2 60 false _ A5.out).mono ?_); rintro e w' ⟨rfl, ⟨nd, rfl⟩⟩; (try first | exact ⟨rfl, _, World.drewN_drewN _ _ _⟩ | exact ⟨rfl, _, Eq.trans (World.drewN_drewN _ _ _) (congrArg (World.drewN _) (Nat.add_assoc _ _ _))⟩))
   go_meet
   case rel => exact ⟨_, (true), zf, H', ⟨by first | omega | exact Nat.le_refl _⟩, ⟨zk aa⟩, ⟨zb HB⟩⟩
 case rest =>
  clear HC2 dt du dv dw dx dy dz dA
  obtain ⟨kq, bN, rfl, HA, bl, aa, HB⟩ := hcut
  cases kq with
  | zero => exact absurd HA.out (by simp [spec_LoopOk.j0])
  | succ kj1 =>
   have H := HA.out; clear HA
   simp only [spec_LoopOk.j0] at H
   by_cases c13 : bN = true
   ·subst c13
    rw [if_pos rfl] at H; obtain rfl := Option.some.inj H
    go_wp2
    go_ret
    exact ⟨ze, zb HB⟩
   ·replace c13 := Bool.eq_false_iff.mpr c13
    subst c13
    rw [if_neg (show ¬ (false = true) by decide)] at H
    obtain ⟨ee, bZ⟩ : ∃ y_ : List Int, y_ = (([] : List Int)) := ⟨_, rfl⟩
    replace H : (spec_LoopOk.l0 kj1 (ad.length : Int) ee 0 ad a0_1 ab ac) = some r := by rw [bZ]; with_reducible exact H
    have Ny142 := zK bZ; clear bZ; have H' := zK H; clear H
    go_wp2_with ((with_reducible refine gate_dst (N := 40) rfl ?_); (try (refine gate_guard (by rfl) ?_; dsimp only)); refine Kd.R_lit (Kd.int .i64) _ 3 ?hg (N := 40) ?hd (xs := ([] : List Int)) (inner := []) (ok := fun _ => True) (okp := fun _ => True) ?hr ?hp (fun _ hk => hk) trivial (Below.refl _ _) (Nat.le_refl _) (by simp) ?_; (case hd => rfl); (case hg => rfl); (case hr => first | (go_simp; done) | (go_simp; rfl)); (case hp => exact (Reps.none _ _)); intro v143 w14 ho15 hb hg_ hnew_; clear hg_ hnew_; (first | rw [← Ny142.out] at ho15); have ef := zK (Kd.R_lower ho15 (below_size (zb HB))); replace aa := zK (blk_below (g := af) (o := .cells #[.slice aw ad.length ar, .int .i64 a0_1, .slice az ab.length au, .slice aD ac.length av] 28 (0, 0)) (zk aa) hb); replace HB := zK (below_step (zb HB) hb); clear hb ho15)
    go_loopg [4, 5] kj1 (fun kq v4 v5 w' => ∃ (bx : List Int) (aC : Int), v5 = .int .i64 aC ∧ Aside0 (spec_LoopOk.l0 kq (ad.length : Int) bx aC ad a0_1 ab ac = some r) ∧ Aside0 (kq ≤ kj1) ∧ Aside0 (Kd.R (Kd.int .i64) 3 w' w.heap.size (fun _ => True) v4 bx) ∧ Aside0 (w'.heap[af]? = some (.cells #[(.slice aw ad.length ar), .int .i64 a0_1, (.slice az ab.length au), (.slice aD ac.length av)] 28 (0, 0))) ∧ Aside0 (Below w.heap.size w w'))
    case atStart => exact ⟨(ee), (0), zf, H', ⟨Nat.le_refl _⟩, ⟨zR ef⟩, ⟨zk aa⟩, ⟨zb HB⟩⟩
    case round =>
     clear H'
     obtain ⟨bx, aC, rfl, HA, bm, ay, aa, HB⟩ := hrel
     cases gk with
     | zero => exact absurd HA.out (by simp [spec_LoopOk.l0])
     | succ k2 =>
      have H := HA.out; clear HA
      simp only [spec_LoopOk.l0] at H
      by_cases d4 : aC < (ad.length : Int)
      ·rw [if_pos d4] at H
       have dh : decide (aC < (ad.length : Int)) = true := decide_eq_true d4
       clear d4
       by_cases c17 : 0 ≤ aC
       ·rw [if_pos c17] at H
        have c17b0 : decide (0 ≤ aC) = true := decide_eq_true c17
        clear c17
        by_cases c18 : aC < (ad.length : Int)
        ·rw [if_pos c18] at H
         have c18b0 : decide (aC < (ad.length : Int)) = true := decide_eq_true c18
         clear c18
         by_cases dB : (rd ad aC) = 0
         ·rw [if_pos dB] at H
          have eg : ((rd ad aC) == 0) = true := beq_iff_eq.mpr dB
          have eh : ((rd ad aC) != 0) = false := bne_eq_false_iff_eq.mpr dB
          clear dB; have H' := zK H; clear H
          obtain ⟨hcz20_0, hcz20_1, hcz20_2, hcz20_3⟩ := zL4 aa
          obtain ⟨hfz20_0, hfz20_1, hfz20_2, hfz20_3⟩ := zF4 aa
          have bC : 0 ≤ (aC : Int) := zd
          have bD : aC < (ad.length : Int) := zd
          obtain ⟨b0, dC, aQ⟩ := Kd.at_int bX.out aC bC bD
          cases dC
          replace aQ := (HB.out.cell (World.block_lt_of_cell? w _ aQ)).trans aQ
          replace bC := eq_true bC; replace bD := eq_true bD
          go_wp2
          go_roundg k2
          case measure => have := bl.out; have := bm.out; omega
          case rel => exact ⟨(bx), (wrap64 (aC + 1)), zf, H', ⟨by have := bl.out; have := bm.out; omega⟩, ⟨zR ay⟩, ⟨zk aa⟩, ⟨zb HB⟩⟩
         ·rw [if_neg dB] at H
          have eg : ((rd ad aC) == 0) = false := beq_eq_false_iff_ne.mpr dB
          have eh : ((rd ad aC) != 0) = true := bne_iff_ne.mpr dB
          by_cases c21 : bx.length < 17592186044416
          ·rw [if_pos c21] at H
           have ei := zK c21; clear c21
           obtain ⟨ej, b1⟩ : ∃ y_ : List Int, y_ = (bx ++ [rd ad aC]) := ⟨_, rfl⟩
           replace H : (spec_LoopOk.l0 k2 (ad.length : Int) ej (wrap64 (aC + 1)) ad a0_1 ab ac) = some r := by rw [b1]; with_reducible exact H
           have Ny147 := zK b1; clear b1; have H' := zK H; clear H
           obtain ⟨hcz22_0, hcz22_1, hcz22_2, hcz22_3⟩ := zL4 aa
           obtain ⟨hfz22_0, hfz22_1, hfz22_2, hfz22_3⟩ := zF4 aa
           have bC : 0 ≤ (aC : Int) := zd
           have bD : aC < (ad.length : Int) := zd
           obtain ⟨b0, dC, aQ⟩ := Kd.at_int bX.out aC bC bD
           cases dC
           replace aQ := (HB.out.cell (World.block_lt_of_cell? w _ aQ)).trans aQ
           replace bC := eq_true bC; replace bD := eq_true bD
           have dD : 0 ≤ (aC : Int) := zd
           have dE : aC < (ad.length : Int) := zd
           obtain ⟨ek, e146, bq⟩ := Kd.at_int bX.out aC dD dE
           obtain rfl : b0 = ek := (by injection e146)
           replace bq := (HB.out.cell (World.block_lt_of_cell? w _ bq)).trans bq
           replace dD := eq_true dD; replace dE := eq_true dE
           go_wp2_with ((with_reducible refine gate_builtin (b := .append) (xs := #[.tmp 52, .tmp 58]) rfl ?_); (try (refine gate_guard (by rfl) ?_; dsimp only)); at_builtin; refine Kd.R_append (Kd.int .i64) (w0 := w) w.heap.size rfl (.tmp 52) (.tmp 58) 24 3 (.int .i64 0) 8 rfl Try.underlying24 info3 rfl (by decide) (by omega) u4 bx (rd ad aC) [.int .i64 (rd ad aC)] (fun _ => True) (fun _ => False) rfl rfl ?aP (fun _ hk => hk.elim) ?aF ?aO ?aB ?aS ?aL ?_; (case aP => exact rfl); (case aB => exact (zb HB)); (case aF => exact (fun _ _ => trivial)); (case aO => exact (zR ay)); (case aS => exact (below_size (zb HB))); (case aL => have := ei.out; omega); intro v148 w23 ho hb hg hat; rw [← Ny147.out] at ho; replace aa := zK (blk_grown (g := af) (o := .cells #[.slice (some b0) ad.length ar, .int .i64 a0_1, .slice az ab.length au, .slice aD ac.length av] 28 (0, 0)) (zk aa) hg (Kd.R_ne ay.out aa.out (by decide))); replace HB := zK (hb); have el := zK (ho); clear ay; clear ho hb hg hat)
           go_roundg k2
           case measure => have := bl.out; have := bm.out; omega
           case rel => exact ⟨(ej), (wrap64 (aC + 1)), zf, H', ⟨by have := bl.out; have := bm.out; omega⟩, ⟨zR el⟩, ⟨zk aa⟩, ⟨zb HB⟩⟩
          ·rw [if_neg c21] at H
           exact absurd H (by simp)
        ·rw [if_neg c18] at H
         exact absurd H (by simp)
       ·rw [if_neg c17] at H
        exact absurd H (by simp)
      ·rw [if_neg d4] at H
       have dh : decide (aC < (ad.length : Int)) = false := decide_eq_false d4
       clear d4; have H' := zK H; clear H
       go_wp2
       go_loopg [4, 6] k2 (fun kq v4 v6 w' => ∃ (an : List Int) (ag : Int), v6 = .int .i64 ag ∧ Aside0 (spec_LoopOk.l1 kq (ad.length : Int) an ag ad a0_1 ab ac = some r) ∧ Aside0 (kq ≤ k2) ∧ Aside0 (Kd.R (Kd.int .i64) 3 w' w.heap.size (fun _ => True) v4 an) ∧ Aside0 (w'.heap[af]? = some (.cells #[(.slice aw ad.length ar), .int .i64 a0_1, (.slice az ab.length au), (.slice aD ac.length av)] 28 (0, 0))) ∧ Aside0 (Below w.heap.size w w'))
       case atStart => exact ⟨(bx), (0), zf, H', ⟨Nat.le_refl _⟩, ⟨zR ay⟩, ⟨zk aa⟩, ⟨zb HB⟩⟩
       case round =>
        clear H' dh
        obtain ⟨an, ag, rfl, HA, bv, ay, aa, HB⟩ := hrel
        cases gk with
        | zero => exact absurd HA.out (by simp [spec_LoopOk.l1])
        | succ k3 =>
         have H := HA.out; clear HA
         simp only [spec_LoopOk.l1] at H
         by_cases d5 : ag < (ab.length : Int)
         ·rw [if_pos d5] at H
          have b2 : decide (ag < (ab.length : Int)) = true := decide_eq_true d5
          clear d5
          by_cases c25 : 0 ≤ ag
          ·rw [if_pos c25] at H
           have em : decide (0 ≤ ag) = true := decide_eq_true c25
           clear c25; have dF := zK H; clear H
           obtain ⟨ce, cf, cg, ch⟩ := zL4 aa
           obtain ⟨ci, cj, ck, cl⟩ := zF4 aa
           have cm : 0 ≤ (ag : Int) := zd
           have cn : ag < (ab.length : Int) := zd
           obtain ⟨a2, aT, aU, e150, bc, bd, bf, bO, bP⟩ := at_T69 bY.out ag cm cn
           cases e150
           replace bc := (HB.out.cell (World.block_lt_of_cell? w _ bc)).trans bc
           replace bd := (HB.out.cell (World.block_lt_of_cell? w _ bd)).trans bd
           replace bf := (HB.out.cell (World.block_lt_of_cell? w _ bf)).trans bf
           have co := zK bP; have HC150_2 := zK bO; clear bP bO; replace cm := eq_true cm; replace cn := eq_true cn
           go_upto_region 14 with ((with_reducible refine gate_dst (N := 7) rfl ?_); (try (refine gate_guard (by rfl) ?_; dsimp only)); refine zX 7 #[.int .i64 0, .int .i64 0, .slice none 0 0] 69 ?_; intro am hg bW hbox hb; replace ay := zK (Kd.R_below (zR ay) hb); have ah := zK (hbox); have GW151 := zK ((by rw [hg]; exact (below_size (zb HB)) : w.heap.size ≤ am)); have a3 := zK ((by rw [hg]; exact (below_size (zb HB)) : w.heap.size ≤ am)); replace HB := zK (below_step (zb HB) hb); have al := zK ((by rw [hg]; exact Nat.ne_of_lt (blk_lt (g := af) (o := .cells #[.slice aw ad.length ar, .int .i64 a0_1, .slice (some a2) ab.length au, .slice aD ac.length av] 28 (0, 0)) (zk aa)) : af ≠ am)); have aG := zK ((by rw [hg]; exact Nat.ne_of_gt (blk_lt (g := af) (o := .cells #[.slice aw ad.length ar, .int .i64 a0_1, .slice (some a2) ab.length au, .slice aD ac.length av] 28 (0, 0)) (zk aa)) : am ≠ af)); replace aa := zK (blk_below (g := af) (o := .cells #[.slice aw ad.length ar, .int .i64 a0_1, .slice (some a2) ab.length au, .slice aD ac.length av] 28 (0, 0)) (zk aa) hb); clear hb hbox hg; have hnb29 := aG.out; have hnc29 := al.out; obtain ⟨cp, cq, cr⟩ := zL3 ah; obtain ⟨ct, cu, cv⟩ := zF3 ah)
           go_cut [91] (fun v91 wc => ∃ (kq : Nat) (br : Bool), v91 = .bool br ∧ Aside0 (spec_LoopOk.j3 kq (ad.length : Int) an ag br ad a0_1 ab ac ((rd_T69 ab ag).f0) ((rd_T69 ab ag).f1) ((rd_T69 ab ag).f2) = some r) ∧ Aside0 (kq ≤ k3) ∧ Aside0 (Kd.R (Kd.int .i64) 3 wc w.heap.size (fun _ => True) u4 an) ∧ Aside0 (wc.heap[af]? = some (.cells #[(.slice aw ad.length ar), .int .i64 a0_1, (.slice (some a2) ab.length au), (.slice aD ac.length av)] 28 (0, 0))) ∧ Aside0 (wc.heap[am]? = some (.cells #[.int .i64 ((rd_T69 ab ag).f0), .int .i64 ((rd_T69 ab ag).f1), (.slice aT ((rd_T69 ab ag).f2).length aU)] 69 (0, 0))) ∧ Aside0 (Below w.heap.size w wc))
           case first =>
            have H := dF.out; clear dF; replace H := Option.bind_eq_some_iff.mp H
            obtain ⟨en, eo, H⟩ := H
            (try dsimp only at H)
            have A31 := zK eo; clear eo
            by_cases c32 : en = true
            ·subst c32
             rw [if_pos rfl] at H; replace H := Option.bind_eq_some_iff.mp H
             obtain ⟨bV, ep, H⟩ := H
             (try dsimp only at H)
             have A33 := zK ep; clear ep
             by_cases c34 : bV = true
             ·subst c34
              rw [if_pos rfl] at H; have H' := zK H; clear H; have hnb35 := aG.out; have hnc35 := al.out
              obtain ⟨hcz36_0, hcz36_1, hcz36_2⟩ := zL3 ah
              obtain ⟨hfz36_0, hfz36_1, hfz36_2⟩ := zF3 ah
              go_wp2_with (first | (go_at_call 62; (with_reducible refine (spec_l01In.calls ((rd_T69 ab ag).f0) 0 (wrap64 ((ad.length : Int) - 1)) true _ A31.out).mono ?_); rintro e w' ⟨rfl, ⟨nd, rfl⟩⟩; (try first | exact ⟨rfl, _, World.drewN_drewN _ _ _⟩ | exact ⟨rfl, _, Eq.trans (World.drewN_drewN _ _ _) (congrArg (World.drewN _) (Nat.add_assoc _ _ _))⟩)) | (go_at_call 62; (with_reducible refine (spec_l01In.calls ((rd_T69 ab ag).f1) 0 40 true _ A33.out).mono ?_); rintro e w' ⟨rfl, ⟨nd, rfl⟩⟩; (try first | exact ⟨rfl, _, World.drewN_drewN _ _ _⟩ | exact ⟨rfl, _, Eq.trans (World.drewN_drewN _ _ _) (congrArg (World.drewN _) (Nat.add_assoc _ _ _))⟩)))
              go_meet
              case rel => exact ⟨_, (decide ((((rd_T69 ab ag).f2).length : Int) > ((rd_T69 ab ag).f1))), zf, H', ⟨by have := bl.out; have := bm.out; have := bv.out; first | omega | exact Nat.le_refl _⟩, ⟨by (with_reducible repeat (first | apply Kd.R_alloc | apply Kd.R_drewN | apply Kd.R_drew)); exact Kd.R_mono (Kd.R_far (p := ⟨am, 2, none⟩) (Kd.R_far (p := ⟨am, 1, none⟩) (Kd.R_far (p := ⟨am, 0, none⟩) (Kd.R_types ay.out ah.out (by decide)) (fun _ hk => hk.2) (.int .i64 ((rd_T69 ab ag).f0))) (fun _ hk => hk.2) (.int .i64 ((rd_T69 ab ag).f1))) (fun _ hk => hk.2) (.slice aT ((rd_T69 ab ag).f2).length aU)) (fun _ hk => trivial)⟩, ⟨zh aa al⟩, ⟨by (with_reducible repeat (first | refine zN ?_ _ | refine zD ?_ | refine zA ?_ _)); refine blk_put (cs := #[.int .i64 ((rd_T69 ab ag).f0), .int .i64 ((rd_T69 ab ag).f1), .slice none 0 0]) ?_ 2 _ rfl; (with_reducible repeat (first | refine zN ?_ _ | refine zD ?_ | refine zA ?_ _)); refine blk_put (cs := #[.int .i64 ((rd_T69 ab ag).f0), .int .i64 0, .slice none 0 0]) ?_ 1 _ rfl; (with_reducible repeat (first | refine zN ?_ _ | refine zD ?_ | refine zA ?_ _)); refine blk_put (cs := #[.int .i64 0, .int .i64 0, .slice none 0 0]) ?_ 0 _ rfl; (with_reducible repeat (first | refine zN ?_ _ | refine zD ?_ | refine zA ?_ _)); exact ah.out⟩, ⟨zb HB⟩⟩
             ·replace c34 := Bool.eq_false_iff.mpr c34
              subst c34
              rw [if_neg (show ¬ (false = true) by decide)] at H; have H' := zK H; clear H; have hnb37 := aG.out; have hnc37 := al.out
              obtain ⟨hcz38_0, hcz38_1, hcz38_2⟩ := zL3 ah
              obtain ⟨hfz38_0, hfz38_1, hfz38_2⟩ := zF3 ah
              go_wp2_with (first | (go_at_call 62; (with_reducible refine (spec_l01In.calls ((rd_T69 ab ag).f0) 0 (wrap64 ((ad.length : Int) - 1)) true _ A31.out).mono ?_); rintro e w' ⟨rfl, ⟨nd, rfl⟩⟩; (try first | exact ⟨rfl, _, World.drewN_drewN _ _ _⟩ | exact ⟨rfl, _, Eq.trans (World.drewN_drewN _ _ _) (congrArg (World.drewN _) (Nat.add_assoc _ _ _))⟩)) | (go_at_call 62; (with_reducible refine (spec_l01In.calls ((rd_T69 ab ag).f1) 0 40 false _ A33.out).mono ?_); rintro e w' ⟨rfl, ⟨nd, rfl⟩⟩; (try first | exact ⟨rfl, _, World.drewN_drewN _ _ _⟩ | exact ⟨rfl, _, Eq.trans (World.drewN_drewN _ _ _) (congrArg (World.drewN _) (Nat.add_assoc _ _ _))⟩)))
              go_meet
              case rel => exact ⟨_, (true), zf, H', ⟨by have := bl.out; have := bm.out; have := bv.out; first | omega | exact Nat.le_refl _⟩, ⟨by (with_reducible repeat (first | apply Kd.R_alloc | apply Kd.R_drewN | apply Kd.R_drew)); exact Kd.R_mono (Kd.R_far (p := ⟨am, 2, none⟩) (Kd.R_far (p := ⟨am, 1, none⟩) (Kd.R_far (p := ⟨am, 0, none⟩) (Kd.R_types ay.out ah.out (by decide)) (fun _ hk => hk.2) (.int .i64 ((rd_T69 ab ag).f0))) (fun _ hk => hk.2) (.int .i64 ((rd_T69 ab ag).f1))) (fun _ hk => hk.2) (.slice aT ((rd_T69 ab ag).f2).length aU)) (fun _ hk => trivial)⟩, ⟨zh aa al⟩, ⟨by (with_reducible repeat (first | refine zN ?_ _ | refine zD ?_ | refine zA ?_ _)); refine blk_put (cs := #[.int .i64 ((rd_T69 ab ag).f0), .int .i64 ((rd_T69 ab ag).f1), .slice none 0 0]) ?_ 2 _ rfl; (with_reducible repeat (first | refine zN ?_ _ | refine zD ?_ | refine zA ?_ _)); refine blk_put (cs := #[.int .i64 ((rd_T69 ab ag).f0), .int .i64 0, .slice none 0 0]) ?_ 1 _ rfl; (with_reducible repeat (first | refine zN ?_ _ | refine zD ?_ | refine zA ?_ _)); refine blk_put (cs := #[.int .i64 0, .int .i64 0, .slice none 0 0]) ?_ 0 _ rfl; (with_reducible repeat (first | refine zN ?_ _ | refine zD ?_ | refine zA ?_ _)); exact ah.out⟩, ⟨zb HB⟩⟩
            ·replace c32 := Bool.eq_false_iff.mpr c32
             subst c32
             rw [if_neg (show ¬ (false = true) by decide)] at H; have H' := zK H; clear H; have hnb39 := aG.out; have hnc39 := al.out
             obtain ⟨hcz40_0, hcz40_1, hcz40_2⟩ := zL3 ah
             obtain ⟨hfz40_0, hfz40_1, hfz40_2⟩ := zF3 ah
             go_wp2_with (go_at_call 62; (with_reducible refine (spec_l01In.calls ((rd_T69 ab ag).f0) 0 (wrap64 ((ad.length : Int) - 1)) false _ A31.out).mono ?_); rintro e w' ⟨rfl, ⟨nd, rfl⟩⟩; (try first | exact ⟨rfl, _, World.drewN_drewN _ _ _⟩ | exact ⟨rfl, _, Eq.trans (World.drewN_drewN _ _ _) (congrArg (World.drewN _) (Nat.add_assoc _ _ _))⟩))
             go_meet
             case rel => exact ⟨_, (true), zf, H', ⟨by have := bl.out; have := bm.out; have := bv.out; first | omega | exact Nat.le_refl _⟩, ⟨by (with_reducible repeat (first | apply Kd.R_alloc | apply Kd.R_drewN | apply Kd.R_drew)); exact Kd.R_mono (Kd.R_far (p := ⟨am, 2, none⟩) (Kd.R_far (p := ⟨am, 1, none⟩) (Kd.R_far (p := ⟨am, 0, none⟩) (Kd.R_types ay.out ah.out (by decide)) (fun _ hk => hk.2) (.int .i64 ((rd_T69 ab ag).f0))) (fun _ hk => hk.2) (.int .i64 ((rd_T69 ab ag).f1))) (fun _ hk => hk.2) (.slice aT ((rd_T69 ab ag).f2).length aU)) (fun _ hk => trivial)⟩, ⟨zh aa al⟩, ⟨by (with_reducible repeat (first | refine zN ?_ _ | refine zD ?_ | refine zA ?_ _)); refine blk_put (cs := #[.int .i64 ((rd_T69 ab ag).f0), .int .i64 ((rd_T69 ab ag).f1), .slice none 0 0]) ?_ 2 _ rfl; (with_reducible repeat (first | refine zN ?_ _ | refine zD ?_ | refine zA ?_ _)); refine blk_put (cs := #[.int .i64 ((rd_T69 ab ag).f0), .int .i64 0, .slice none 0 0]) ?_ 1 _ rfl; (with_reducible repeat (first | refine zN ?_ _ | refine zD ?_ | refine zA ?_ _)); refine blk_put (cs := #[.int .i64 0, .int .i64 0, .slice none 0 0]) ?_ 0 _ rfl; (with_reducible repeat (first | refine zN ?_ _ | refine zD ?_ | refine zA ?_ _)); exact ah.out⟩, ⟨zb HB⟩⟩
           case rest =>
            clear dF b2 em ce cf cg ch cp cq cr ci cj ck cl ct cu cv bc bd bf cm cn
            obtain ⟨kq, br, rfl, HA, cw, ay, aa, ah, HB⟩ := hcut
            cases kq with
            | zero => exact absurd HA.out (by simp [spec_LoopOk.j3])
            | succ kj25 =>
             have H := HA.out; clear HA
             simp only [spec_LoopOk.j3] at H
             by_cases c41 : br = true
             ·subst c41
              rw [if_pos rfl] at H; obtain rfl := Option.some.inj H
              go_wp2
              go_ret
              exact ⟨ze, zb HB⟩
             ·replace c41 := Bool.eq_false_iff.mpr c41
              subst c41
              rw [if_neg (show ¬ (false = true) by decide)] at H; have H' := zK H; clear H
              go_wp2
              go_loopg [8] kj25 (fun kq v8 w' => ∃ (aK : Int), v8 = .int .i64 aK ∧ Aside0 (spec_LoopOk.l2 kq (ad.length : Int) an ag aK ad a0_1 ab ac ((rd_T69 ab ag).f0) ((rd_T69 ab ag).f1) ((rd_T69 ab ag).f2) = some r) ∧ Aside0 (kq ≤ kj25) ∧ Aside0 (Kd.R (Kd.int .i64) 3 w' w.heap.size (fun _ => True) u4 an) ∧ Aside0 (w'.heap[af]? = some (.cells #[(.slice aw ad.length ar), .int .i64 a0_1, (.slice (some a2) ab.length au), (.slice aD ac.length av)] 28 (0, 0))) ∧ Aside0 (w'.heap[am]? = some (.cells #[.int .i64 ((rd_T69 ab ag).f0), .int .i64 ((rd_T69 ab ag).f1), (.slice aT ((rd_T69 ab ag).f2).length aU)] 69 (0, 0))) ∧ Aside0 (Below w.heap.size w w'))
              case atStart => exact ⟨(0), zf, H', ⟨Nat.le_refl _⟩, ⟨zR ay⟩, ⟨zk aa⟩, ⟨zk ah⟩, ⟨zb HB⟩⟩
              case round =>
               clear H'
               obtain ⟨aK, rfl, HA, bQ, ay, aa, ah, HB⟩ := hrel
               cases gk with
               | zero => exact absurd HA.out (by simp [spec_LoopOk.l2])
               | succ k5 =>
                have H := HA.out; clear HA
                simp only [spec_LoopOk.l2] at H
                by_cases d6 : aK < ag
                ·rw [if_pos d6] at H
                 have er : decide (aK < ag) = true := decide_eq_true d6
                 clear d6
                 by_cases c43 : 0 ≤ aK
                 ·rw [if_pos c43] at H
                  have c43b0 : decide (0 ≤ aK) = true := decide_eq_true c43
                  clear c43
                  by_cases c44 : aK < (ab.length : Int)
                  ·rw [if_pos c44] at H
                   have c44b0 : decide (aK < (ab.length : Int)) = true := decide_eq_true c44
                   clear c44
                   by_cases dG : ((rd_T69 ab aK).f0) = ((rd_T69 ab ag).f0)
                   ·rw [if_pos dG] at H
                    have es : (((rd_T69 ab aK).f0) == ((rd_T69 ab ag).f0)) = true := beq_iff_eq.mpr dG
                    have et : (((rd_T69 ab aK).f0) != ((rd_T69 ab ag).f0)) = false := bne_eq_false_iff_eq.mpr dG
                    clear dG; obtain rfl := Option.some.inj H; have hnb46 := al.out; have hnc46 := aG.out
                    obtain ⟨hcz47_0, hcz47_1, hcz47_2, hcz47_3⟩ := zL4 aa
                    obtain ⟨hfz47_0, hfz47_1, hfz47_2, hfz47_3⟩ := zF4 aa
                    have bE : 0 ≤ (aK : Int) := zd
                    have bF : aK < (ab.length : Int) := zd
                    obtain ⟨b3, dH, dI, dJ, aV, aW, aX, a4, a5⟩ := at_T69 bY.out aK bE bF
                    obtain rfl : a2 = b3 := (by injection dJ)
                    replace aV := (HB.out.cell (World.block_lt_of_cell? w _ aV)).trans aV
                    replace aW := (HB.out.cell (World.block_lt_of_cell? w _ aW)).trans aW
                    replace aX := (HB.out.cell (World.block_lt_of_cell? w _ aX)).trans aX
                    have cx := zK a5; have cy := zK a4; clear a5 a4; replace bE := eq_true bE; replace bF := eq_true bF
                    obtain ⟨hcz48_0, hcz48_1, hcz48_2⟩ := zL3 ah
                    obtain ⟨hfz48_0, hfz48_1, hfz48_2⟩ := zF3 ah
                    go_wp2
                    repeat (go_quiet (fail); try go_wp2)
                    go_ret
                    exact ⟨ze, zb HB⟩
                   ·rw [if_neg dG] at H
                    have es : (((rd_T69 ab aK).f0) == ((rd_T69 ab ag).f0)) = false := beq_eq_false_iff_ne.mpr dG
                    have et : (((rd_T69 ab aK).f0) != ((rd_T69 ab ag).f0)) = true := bne_iff_ne.mpr dG
                    have H' := zK H; clear H; have hnb49 := al.out; have hnc49 := aG.out
                    obtain ⟨hcz50_0, hcz50_1, hcz50_2, hcz50_3⟩ := zL4 aa
                    obtain ⟨hfz50_0, hfz50_1, hfz50_2, hfz50_3⟩ := zF4 aa
                    have bE : 0 ≤ (aK : Int) := zd
                    have bF : aK < (ab.length : Int) := zd
                    obtain ⟨b3, dH, dI, dJ, aV, aW, aX, a4, a5⟩ := at_T69 bY.out aK bE bF
                    obtain rfl : a2 = b3 := (by injection dJ)
                    replace aV := (HB.out.cell (World.block_lt_of_cell? w _ aV)).trans aV
                    replace aW := (HB.out.cell (World.block_lt_of_cell? w _ aW)).trans aW
                    replace aX := (HB.out.cell (World.block_lt_of_cell? w _ aX)).trans aX
                    have cx := zK a5; have cy := zK a4; clear a5 a4; replace bE := eq_true bE; replace bF := eq_true bF
                    obtain ⟨hcz51_0, hcz51_1, hcz51_2⟩ := zL3 ah
                    obtain ⟨hfz51_0, hfz51_1, hfz51_2⟩ := zF3 ah
                    go_wp2
                    repeat (go_quiet (fail); try go_wp2)
                    go_roundg k5
                    case measure => have := bl.out; have := bm.out; have := bv.out; have := cw.out; have := bQ.out; omega
                    case rel => exact ⟨(wrap64 (aK + 1)), zf, H', ⟨by have := bl.out; have := bm.out; have := bv.out; have := cw.out; have := bQ.out; omega⟩, ⟨zR ay⟩, ⟨zk aa⟩, ⟨zk ah⟩, ⟨zb HB⟩⟩
                  ·rw [if_neg c44] at H
                   exact absurd H (by simp)
                 ·rw [if_neg c43] at H
                  exact absurd H (by simp)
                ·rw [if_neg d6] at H
                 have er : decide (aK < ag) = false := decide_eq_false d6
                 clear d6
                 by_cases c52 : an.length + ((rd_T69 ab ag).f2).length < 17592186044416
                 ·rw [if_pos c52] at H
                  have eu := zK c52; clear c52
                  obtain ⟨ew, b4⟩ : ∃ y_ : List Int, y_ = (an ++ ((rd_T69 ab ag).f2)) := ⟨_, rfl⟩
                  replace H : (spec_LoopOk.l1 k5 (ad.length : Int) ew (wrap64 (ag + 1)) ad a0_1 ab ac) = some r := by rw [b4]; with_reducible exact H
                  have Ny154 := zK b4; clear b4; have H' := zK H; clear H; have hnb53 := aG.out; have hnc53 := al.out
                  obtain ⟨hcz54_0, hcz54_1, hcz54_2⟩ := zL3 ah
                  obtain ⟨hfz54_0, hfz54_1, hfz54_2⟩ := zF3 ah
                  go_wp2_with ((with_reducible refine gate_builtin (b := .append) (xs := #[.tmp 106, .tmp 108]) rfl ?_); (try (refine gate_guard (by rfl) ?_; dsimp only)); at_builtin; refine Kd.R_append_rows (Kd.int .i64) (w0 := w) w.heap.size rfl (.tmp 106) (.tmp 108) 24 3 (.int .i64 0) 8 rfl Try.underlying24 info3 rfl (by decide) (by omega) u4 an ((rd_T69 ab ag).f2) _ _ _ (fun _ => True) (fun _ => False) rfl rfl ?aO ?aR (fun _ _ h => h) (fun _ h => h.elim) ?aF ?aB ?aS ?aL ?_; (case aR => repeat (first | exact (Kd.C_below co.out HB.out) | (with_reducible refine Kd.C_alloc ?_ _) | (with_reducible refine Kd.C_drewN ?_ _) | (with_reducible refine Kd.C_drew ?_))); (case aB => exact (zb HB)); (case aF => exact (fun _ _ => trivial)); (case aO => exact (zR ay)); (case aS => exact (below_size (zb HB))); (case aL => have := eu.out; omega); intro v155 w55 ho hb hg hat; rw [← Ny154.out] at ho; replace aa := zK (blk_grown (g := af) (o := .cells #[.slice aw ad.length ar, .int .i64 a0_1, .slice (some a2) ab.length au, .slice aD ac.length av] 28 (0, 0)) (zk aa) hg (Kd.R_ne ay.out aa.out (by decide))); replace ah := zK (blk_grown (g := am) (o := .cells #[.int .i64 ((rd_T69 ab ag).f0), .int .i64 ((rd_T69 ab ag).f1), .slice aT ((rd_T69 ab ag).f2).length aU] 69 (0, 0)) (zk ah) hg (Kd.R_ne ay.out ah.out (by decide))); replace HB := zK (hb); have ex := zK (ho); clear ay; clear ho hb hg hat)
                  go_roundg k5
                  case measure => have := bl.out; have := bm.out; have := bv.out; have := cw.out; have := bQ.out; omega
                  case rel => exact ⟨(ew), (wrap64 (ag + 1)), zf, H', ⟨by have := bl.out; have := bm.out; have := bv.out; have := cw.out; have := bQ.out; omega⟩, ⟨zR ex⟩, ⟨zk aa⟩, ⟨zb HB⟩⟩
                 ·rw [if_neg c52] at H
                  exact absurd H (by simp)
          ·rw [if_neg c25] at H
           exact absurd H (by simp)
         ·rw [if_neg d5] at H
          have b2 : decide (ag < (ab.length : Int)) = false := decide_eq_false d5
          clear d5; have H' := zK H; clear H
          obtain ⟨cz, cA, cB, cC⟩ := zL4 aa
          obtain ⟨cD, cE, cF, cG⟩ := zF4 aa
          go_wp2
          go_loopg [9] k3 (fun kq v9 w' => ∃ (ao : Int), v9 = .int .i64 ao ∧ Aside0 (spec_LoopOk.l3 kq an ao ad a0_1 ab ac = some r) ∧ Aside0 (kq ≤ k3) ∧ Aside0 (Kd.R (Kd.int .i64) 3 w' w.heap.size (fun _ => True) u4 an) ∧ Aside0 (w'.heap[af]? = some (.cells #[(.slice aw ad.length ar), .int .i64 a0_1, (.slice az ab.length au), (.slice aD ac.length av)] 28 (0, 0))) ∧ Aside0 (Below w.heap.size w w'))
          case atStart => exact ⟨(0), zf, H', ⟨Nat.le_refl _⟩, ⟨zR ay⟩, ⟨zk aa⟩, ⟨zb HB⟩⟩
          case round =>
           clear H' b2 cz cA cB cC cD cE cF cG
           obtain ⟨ao, rfl, HA, b5, ay, aa, HB⟩ := hrel
           cases gk with
           | zero => exact absurd HA.out (by simp [spec_LoopOk.l3])
           | succ k4 =>
            have H := HA.out; clear HA
            simp only [spec_LoopOk.l3] at H
            by_cases d7 : ao < (an.length : Int)
            ·rw [if_pos d7] at H
             have dl : decide (ao < (an.length : Int)) = true := decide_eq_true d7
             clear d7
             by_cases c58 : 0 ≤ ao
             ·rw [if_pos c58] at H
              have c58b0 : decide (0 ≤ ao) = true := decide_eq_true c58
              clear c58
              by_cases d8 : (rd an ao) < 1
              ·rw [if_pos d8] at H
               have ey : decide ((rd an ao) < 1) = true := decide_eq_true d8
               clear d8; obtain rfl := Option.some.inj H
               obtain ⟨Ao60, co60, eo60⟩ := Kd.R_slice ay.out
               subst eo60
               have bh : 0 ≤ (ao : Int) := zd
               have bi : ao < (an.length : Int) := zd
               obtain ⟨ba, b6, bR⟩ := Kd.at_int (Kd.R_reads' ay.out).2.2 ao bh bi
               cases b6
               replace bh := eq_true bh; replace bi := eq_true bi
               go_wp2
               repeat (go_quiet (fail); try go_wp2)
               go_ret
               exact ⟨ze, zb HB⟩
              ·rw [if_neg d8] at H
               have ey : decide ((rd an ao) < 1) = false := decide_eq_false d8
               clear d8
               have c61b0 := eq_true (zd : 0 ≤ ao)
               by_cases ez : ao ≤ (an.length : Int)
               ·rw [if_pos ez] at H
                have c62b0 := eq_true ez
                have c62b1 : decide (ao ≤ (an.length : Int)) = true := decide_eq_true ez
                clear ez
                obtain ⟨bG, b7⟩ : ∃ y_ : List Int, y_ = (an.take (ao : Int).toNat) := ⟨_, rfl⟩
                replace H : ((spec_l03Has.f k4 bG (rd an ao)).bind fun cH => (if cH = true then (some false) else (spec_LoopOk.l3 k4 an (wrap64 (ao + 1)) ad a0_1 ab ac))) = some r := by rw [b7]; with_reducible exact H
                have Ny159 := zK b7; clear b7; replace H := Option.bind_eq_some_iff.mp H
                obtain ⟨cH, eA, H⟩ := H
                (try dsimp only at H)
                have A63 := zK eA; clear eA
                by_cases c64 : cH = true
                ·subst c64
                 rw [if_pos rfl] at H; obtain rfl := Option.some.inj H
                 obtain ⟨Ao65, dK, eo65⟩ := Kd.R_slice ay.out
                 subst eo65
                 have bh : 0 ≤ (ao : Int) := zd
                 have bi : ao < (an.length : Int) := zd
                 obtain ⟨ba, b6, bR⟩ := Kd.at_int (Kd.R_reads' ay.out).2.2 ao bh bi
                 cases b6
                 replace bh := eq_true bh; replace bi := eq_true bi
                 have q66 : (ao : Int) ≤ ((an.length : Int) : Int) := zd
                 obtain ⟨i066, dm, _, eB, _⟩ := info_parts info3
                 have bS : an.length ≤ dK := (Kd.R_reads' ay.out).2.1
                 have eC : Kd.C (Kd.int .i64) _ (some ba) an.length an := (Kd.R_reads' ay.out).2.2
                 have dL := cut_to (P := Try.prog) 24 3 .i64 Try.underlying24 dm (some ba) an.length dK ao (zd) q66 bS
                 have dM := Kd.C_take (m := (ao : Int).toNat) eC (by omega)
                 have dN : bG.length = (ao : Int).toNat := (by rw [Ny159.out, List.length_take]; omega)
                 rw [← Ny159.out] at dM
                 rw [← dN] at dL
                 have bz := zK dM
                 have b8 := zK (show bG.length ≤ dK from by omega)
                 clear dM eC bS dm eB; have KY66 := zK dN; clear dN
                 have KL66 := zK (show (ao : Int).toNat ≤ an.length from by omega)
                 replace q66 := eq_true q66
                 have bH : 0 ≤ (ao : Int) := zd
                 have bI : ao < (an.length : Int) := zd
                 obtain ⟨b9, dO, cI⟩ := Kd.at_int (Kd.R_reads' ay.out).2.2 ao bH bI
                 obtain rfl : ba = b9 := (by injection dO)
                 replace bH := eq_true bH; replace bI := eq_true bI
                 go_wp2_with (fail)
                 repeat (go_quiet ((go_at_call 55; (with_reducible refine (spec_l03Has.calls k4 _ _ bG (rd an ao) true _ ?side1 ?side2 A63.out).mono ?_); (case side1 => repeat (first | exact (by repeat (first | (with_reducible exact bz.out) | (with_reducible refine Kd.C_alloc ?_ _) | (with_reducible refine Kd.C_drewN ?_ _) | (with_reducible refine Kd.C_drew ?_) | exact bz.out)) | (with_reducible refine Kd.C_alloc ?_ _) | (with_reducible refine Kd.C_drewN ?_ _) | (with_reducible refine Kd.C_drew ?_))); (case side2 => exact b8.out); rintro e w' ⟨rfl, ⟨nd, rfl⟩⟩; (try first | exact ⟨rfl, _, World.drewN_drewN _ _ _⟩ | exact ⟨rfl, _, Eq.trans (World.drewN_drewN _ _ _) (congrArg (World.drewN _) (Nat.add_assoc _ _ _))⟩))); try go_wp2_with (fail))
                 go_ret
                 exact ⟨ze, zb HB⟩
                ·replace c64 := Bool.eq_false_iff.mpr c64
                 subst c64
                 rw [if_neg (show ¬ (false = true) by decide)] at H; have H' := zK H; clear H
                 obtain ⟨Ao67, dP, eo67⟩ := Kd.R_slice ay.out
                 subst eo67
                 have bh : 0 ≤ (ao : Int) := zd
                 have bi : ao < (an.length : Int) := zd
                 obtain ⟨ba, b6, bR⟩ := Kd.at_int (Kd.R_reads' ay.out).2.2 ao bh bi
                 cases b6
                 replace bh := eq_true bh; replace bi := eq_true bi
                 have q68 : (ao : Int) ≤ ((an.length : Int) : Int) := zd
                 obtain ⟨i068, dn, _, eD, _⟩ := info_parts info3
                 have bT : an.length ≤ dP := (Kd.R_reads' ay.out).2.1
                 have eE : Kd.C (Kd.int .i64) _ (some ba) an.length an := (Kd.R_reads' ay.out).2.2
                 have dQ := cut_to (P := Try.prog) 24 3 .i64 Try.underlying24 dn (some ba) an.length dP ao (zd) q68 bT
                 have dR := Kd.C_take (m := (ao : Int).toNat) eE (by omega)
                 have dS : bG.length = (ao : Int).toNat := (by rw [Ny159.out, List.length_take]; omega)
                 rw [← Ny159.out] at dR
                 rw [← dS] at dQ
                 have bz := zK dR
                 have b8 := zK (show bG.length ≤ dP from by omega)
                 clear dR eE bT dn eD; have KY68 := zK dS; clear dS
                 have KL68 := zK (show (ao : Int).toNat ≤ an.length from by omega)
                 replace q68 := eq_true q68
                 have bH : 0 ≤ (ao : Int) := zd
                 have bI : ao < (an.length : Int) := zd
                 obtain ⟨b9, dO, cI⟩ := Kd.at_int (Kd.R_reads' ay.out).2.2 ao bH bI
                 obtain rfl : ba = b9 := (by injection dO)
                 replace bH := eq_true bH; replace bI := eq_true bI
                 go_wp2_with (fail)
                 repeat (go_quiet ((go_at_call 55; (with_reducible refine (spec_l03Has.calls k4 _ _ bG (rd an ao) false _ ?side1 ?side2 A63.out).mono ?_); (case side1 => repeat (first | exact (by repeat (first | (with_reducible exact bz.out) | (with_reducible refine Kd.C_alloc ?_ _) | (with_reducible refine Kd.C_drewN ?_ _) | (with_reducible refine Kd.C_drew ?_) | exact bz.out)) | (with_reducible refine Kd.C_alloc ?_ _) | (with_reducible refine Kd.C_drewN ?_ _) | (with_reducible refine Kd.C_drew ?_))); (case side2 => exact b8.out); rintro e w' ⟨rfl, ⟨nd, rfl⟩⟩; (try first | exact ⟨rfl, _, World.drewN_drewN _ _ _⟩ | exact ⟨rfl, _, Eq.trans (World.drewN_drewN _ _ _) (congrArg (World.drewN _) (Nat.add_assoc _ _ _))⟩))); try go_wp2_with (fail))
                 go_roundg k4
                 case measure => have := bl.out; have := bm.out; have := bv.out; have := b5.out; omega
                 case rel => exact ⟨(wrap64 (ao + 1)), zf, H', ⟨by have := bl.out; have := bm.out; have := bv.out; have := b5.out; omega⟩, ⟨zR ay⟩, ⟨zk aa⟩, ⟨zb HB⟩⟩
               ·rw [if_neg ez] at H
                exact absurd H (by simp)
             ·rw [if_neg c58] at H
              exact absurd H (by simp)
            ·rw [if_neg d7] at H
             have dl : decide (ao < (an.length : Int)) = false := decide_eq_false d7
             clear d7; have H' := zK H; clear H
             obtain ⟨Ao69, co69, eo69⟩ := Kd.R_slice ay.out
             subst eo69
             go_wp2
             go_loopg [10] k4 (fun kq v10 w' => ∃ (ae : Int), v10 = .int .i64 ae ∧ Aside0 (spec_LoopOk.l4 kq ae ad a0_1 ab ac = some r) ∧ Aside0 (kq ≤ k4) ∧ Aside0 (w'.heap[af]? = some (.cells #[(.slice aw ad.length ar), .int .i64 a0_1, (.slice az ab.length au), (.slice aD ac.length av)] 28 (0, 0))) ∧ Aside0 (Below w.heap.size w w'))
             case atStart => exact ⟨(0), zf, H', ⟨Nat.le_refl _⟩, ⟨zk aa⟩, ⟨zb HB⟩⟩
             case round =>
              clear H' dl
              obtain ⟨ae, rfl, HA, bQ, aa, HB⟩ := hrel
              cases gk with
              | zero => exact absurd HA.out (by simp [spec_LoopOk.l4])
              | succ k5 =>
               have H := HA.out; clear HA
               simp only [spec_LoopOk.l4] at H
               by_cases d9 : ae < (ac.length : Int)
               ·rw [if_pos d9] at H
                have dp : decide (ae < (ac.length : Int)) = true := decide_eq_true d9
                clear d9
                by_cases c71 : 0 ≤ ae
                ·rw [if_pos c71] at H
                 have eF : decide (0 ≤ ae) = true := decide_eq_true c71
                 clear c71
                 by_cases ea : ((rd_T74 ac ae).f0) < 1
                 ·rw [if_pos ea] at H
                  have dq : decide (((rd_T74 ac ae).f0) < 1) = true := decide_eq_true ea
                  clear ea; obtain rfl := Option.some.inj H
                  obtain ⟨hcz73_0, hcz73_1, hcz73_2, hcz73_3⟩ := zL4 aa
                  obtain ⟨hfz73_0, hfz73_1, hfz73_2, hfz73_3⟩ := zF4 aa
                  have bA : 0 ≤ (ae : Int) := zd
                  have bB : ae < (ac.length : Int) := zd
                  obtain ⟨aH, aI, aJ, dT, aM, aN, a6, a7⟩ := at_T74 bL.out ae bA bB
                  cases dT
                  replace aM := (HB.out.cell (World.block_lt_of_cell? w _ aM)).trans aM
                  replace aN := (HB.out.cell (World.block_lt_of_cell? w _ aN)).trans aN
                  have a1 := zK a7; have cJ := zK a6; clear a7 a6; replace bA := eq_true bA; replace bB := eq_true bB
                  go_wp2_with ((with_reducible refine gate_dst (N := 11) rfl ?_); (try (refine gate_guard (by rfl) ?_; dsimp only)); refine zX 11 #[.int .i64 0, .slice none 0 0] 74 ?_; intro ap hg w74 hbox hb; have ak := zK (hbox); have eG := zK ((by rw [hg]; exact (below_size (zb HB)) : w.heap.size ≤ ap)); have a0 := zK ((by rw [hg]; exact (below_size (zb HB)) : w.heap.size ≤ ap)); replace HB := zK (below_step (zb HB) hb); have aq := zK ((by rw [hg]; exact Nat.ne_of_lt (blk_lt (g := af) (o := .cells #[.slice aw ad.length ar, .int .i64 a0_1, .slice az ab.length au, .slice (some aH) ac.length av] 28 (0, 0)) (zk aa)) : af ≠ ap)); have ax := zK ((by rw [hg]; exact Nat.ne_of_gt (blk_lt (g := af) (o := .cells #[.slice aw ad.length ar, .int .i64 a0_1, .slice az ab.length au, .slice (some aH) ac.length av] 28 (0, 0)) (zk aa)) : ap ≠ af)); replace aa := zK (blk_below (g := af) (o := .cells #[.slice aw ad.length ar, .int .i64 a0_1, .slice az ab.length au, .slice (some aH) ac.length av] 28 (0, 0)) (zk aa) hb); clear hb hbox hg; have hnb75 := ax.out; have hnc75 := aq.out; obtain ⟨hcz76_0, hcz76_1⟩ := zL2 ak; obtain ⟨hfz76_0, hfz76_1⟩ := zF2 ak)
                  go_ret
                  exact ⟨ze, zb HB⟩
                 ·rw [if_neg ea] at H
                  have dq : decide (((rd_T74 ac ae).f0) < 1) = false := decide_eq_false ea
                  clear ea; have H' := zK H; clear H
                  obtain ⟨cK, cL, cM, cN⟩ := zL4 aa
                  obtain ⟨cO, cP, cQ, cR⟩ := zF4 aa
                  have bA : 0 ≤ (ae : Int) := zd
                  have bB : ae < (ac.length : Int) := zd
                  obtain ⟨aH, aI, aJ, dT, aM, aN, a6, a7⟩ := at_T74 bL.out ae bA bB
                  cases dT
                  replace aM := (HB.out.cell (World.block_lt_of_cell? w _ aM)).trans aM
                  replace aN := (HB.out.cell (World.block_lt_of_cell? w _ aN)).trans aN
                  have a1 := zK a7; have cJ := zK a6; clear a7 a6; replace bA := eq_true bA; replace bB := eq_true bB
                  go_wp2_with ((with_reducible refine gate_dst (N := 11) rfl ?_); (try (refine gate_guard (by rfl) ?_; dsimp only)); refine zX 11 #[.int .i64 0, .slice none 0 0] 74 ?_; intro ap hg w78 hbox hb; have ak := zK (hbox); have eG := zK ((by rw [hg]; exact (below_size (zb HB)) : w.heap.size ≤ ap)); have a0 := zK ((by rw [hg]; exact (below_size (zb HB)) : w.heap.size ≤ ap)); replace HB := zK (below_step (zb HB) hb); have aq := zK ((by rw [hg]; exact Nat.ne_of_lt (blk_lt (g := af) (o := .cells #[.slice aw ad.length ar, .int .i64 a0_1, .slice az ab.length au, .slice (some aH) ac.length av] 28 (0, 0)) (zk aa)) : af ≠ ap)); have ax := zK ((by rw [hg]; exact Nat.ne_of_gt (blk_lt (g := af) (o := .cells #[.slice aw ad.length ar, .int .i64 a0_1, .slice az ab.length au, .slice (some aH) ac.length av] 28 (0, 0)) (zk aa)) : ap ≠ af)); replace aa := zK (blk_below (g := af) (o := .cells #[.slice aw ad.length ar, .int .i64 a0_1, .slice az ab.length au, .slice (some aH) ac.length av] 28 (0, 0)) (zk aa) hb); clear hb hbox hg; have hnb79 := ax.out; have hnc79 := aq.out; obtain ⟨cS, cT⟩ := zL2 ak; obtain ⟨cU, cV⟩ := zF2 ak)
                  go_loopg [12] k5 (fun kq v12 w' => ∃ (aA : Int), v12 = .int .i64 aA ∧ Aside0 (spec_LoopOk.l5 kq ae aA ad a0_1 ab ac ((rd_T74 ac ae).f0) ((rd_T74 ac ae).f1) = some r) ∧ Aside0 (kq ≤ k5) ∧ Aside0 (w'.heap[af]? = some (.cells #[(.slice aw ad.length ar), .int .i64 a0_1, (.slice az ab.length au), (.slice (some aH) ac.length av)] 28 (0, 0))) ∧ Aside0 (w'.heap[ap]? = some (.cells #[.int .i64 ((rd_T74 ac ae).f0), (.slice aI ((rd_T74 ac ae).f1).length aJ)] 74 (0, 0))) ∧ Aside0 (Below w.heap.size w w'))
                  case atStart => exact ⟨(0), zf, H', ⟨Nat.le_refl _⟩, ⟨zh aa aq⟩, ⟨by (with_reducible repeat (first | refine zN ?_ _ | refine zD ?_ | refine zA ?_ _)); refine blk_put (cs := #[.int .i64 ((rd_T74 ac ae).f0), .slice none 0 0]) ?_ 1 _ rfl; (with_reducible repeat (first | refine zN ?_ _ | refine zD ?_ | refine zA ?_ _)); refine blk_put (cs := #[.int .i64 0, .slice none 0 0]) ?_ 0 _ rfl; (with_reducible repeat (first | refine zN ?_ _ | refine zD ?_ | refine zA ?_ _)); exact ak.out⟩, ⟨zb HB⟩⟩
                  case round =>
                   clear H' dp eF dq cK cL cM cN cS cT cO cP cQ cR cU cV aM aN bA bB
                   obtain ⟨aA, rfl, HA, cW, aa, ak, HB⟩ := hrel
                   cases gk with
                   | zero => exact absurd HA.out (by simp [spec_LoopOk.l5])
                   | succ k6 =>
                    have H := HA.out; clear HA
                    simp only [spec_LoopOk.l5] at H
                    by_cases eb : aA < ae
                    ·rw [if_pos eb] at H
                     have dr : decide (aA < ae) = true := decide_eq_true eb
                     clear eb
                     by_cases c82 : 0 ≤ aA
                     ·rw [if_pos c82] at H
                      have c82b0 : decide (0 ≤ aA) = true := decide_eq_true c82
                      clear c82
                      by_cases c83 : aA < (ac.length : Int)
                      ·rw [if_pos c83] at H
                       have c83b0 : decide (aA < (ac.length : Int)) = true := decide_eq_true c83
                       clear c83
                       by_cases dU : ((rd_T74 ac aA).f0) = ((rd_T74 ac ae).f0)
                       ·rw [if_pos dU] at H
                        have eH : (((rd_T74 ac aA).f0) == ((rd_T74 ac ae).f0)) = true := beq_iff_eq.mpr dU
                        have eI : (((rd_T74 ac aA).f0) != ((rd_T74 ac ae).f0)) = false := bne_eq_false_iff_eq.mpr dU
                        clear dU; obtain rfl := Option.some.inj H; have hnb85 := aq.out; have hnc85 := ax.out
                        obtain ⟨hcz86_0, hcz86_1, hcz86_2, hcz86_3⟩ := zL4 aa
                        obtain ⟨hfz86_0, hfz86_1, hfz86_2, hfz86_3⟩ := zF4 aa
                        have bJ : 0 ≤ (aA : Int) := zd
                        have bK : aA < (ac.length : Int) := zd
                        obtain ⟨ca, dV, dW, dX, aY, aZ, a8, a9⟩ := at_T74 bL.out aA bJ bK
                        obtain rfl : aH = ca := (by injection dX)
                        replace aY := (HB.out.cell (World.block_lt_of_cell? w _ aY)).trans aY
                        replace aZ := (HB.out.cell (World.block_lt_of_cell? w _ aZ)).trans aZ
                        have cX := zK a9; have cY := zK a8; clear a9 a8; replace bJ := eq_true bJ; replace bK := eq_true bK
                        obtain ⟨hcz87_0, hcz87_1⟩ := zL2 ak
                        obtain ⟨hfz87_0, hfz87_1⟩ := zF2 ak
                        go_wp2
                        repeat (go_quiet (fail); try go_wp2)
                        go_ret
                        exact ⟨ze, zb HB⟩
                       ·rw [if_neg dU] at H
                        have eH : (((rd_T74 ac aA).f0) == ((rd_T74 ac ae).f0)) = false := beq_eq_false_iff_ne.mpr dU
                        have eI : (((rd_T74 ac aA).f0) != ((rd_T74 ac ae).f0)) = true := bne_iff_ne.mpr dU
                        have H' := zK H; clear H; have hnb88 := aq.out; have hnc88 := ax.out
                        obtain ⟨hcz89_0, hcz89_1, hcz89_2, hcz89_3⟩ := zL4 aa
                        obtain ⟨hfz89_0, hfz89_1, hfz89_2, hfz89_3⟩ := zF4 aa
                        have bJ : 0 ≤ (aA : Int) := zd
                        have bK : aA < (ac.length : Int) := zd
                        obtain ⟨ca, dV, dW, dX, aY, aZ, a8, a9⟩ := at_T74 bL.out aA bJ bK
                        obtain rfl : aH = ca := (by injection dX)
                        replace aY := (HB.out.cell (World.block_lt_of_cell? w _ aY)).trans aY
                        replace aZ := (HB.out.cell (World.block_lt_of_cell? w _ aZ)).trans aZ
                        have cX := zK a9; have cY := zK a8; clear a9 a8; replace bJ := eq_true bJ; replace bK := eq_true bK
                        obtain ⟨hcz90_0, hcz90_1⟩ := zL2 ak
                        obtain ⟨hfz90_0, hfz90_1⟩ := zF2 ak
                        go_wp2
                        repeat (go_quiet (fail); try go_wp2)
                        go_roundg k6
                        case measure => have := bl.out; have := bm.out; have := bv.out; have := b5.out; have := bQ.out; have := cW.out; omega
                        case rel => exact ⟨(wrap64 (aA + 1)), zf, H', ⟨by have := bl.out; have := bm.out; have := bv.out; have := b5.out; have := bQ.out; have := cW.out; omega⟩, ⟨zk aa⟩, ⟨zk ak⟩, ⟨zb HB⟩⟩
                      ·rw [if_neg c83] at H
                       exact absurd H (by simp)
                     ·rw [if_neg c82] at H
                      exact absurd H (by simp)
                    ·rw [if_neg eb] at H
                     have dr : decide (aA < ae) = false := decide_eq_false eb
                     clear eb; have H' := zK H; clear H
                     go_wp2
                     go_loopg [13] k6 (fun kq v13 w' => ∃ (ai : Int), v13 = .int .i64 ai ∧ Aside0 (spec_LoopOk.l6 kq ae ai ad a0_1 ab ac ((rd_T74 ac ae).f0) ((rd_T74 ac ae).f1) = some r) ∧ Aside0 (kq ≤ k6) ∧ Aside0 (w'.heap[af]? = some (.cells #[(.slice aw ad.length ar), .int .i64 a0_1, (.slice az ab.length au), (.slice (some aH) ac.length av)] 28 (0, 0))) ∧ Aside0 (w'.heap[ap]? = some (.cells #[.int .i64 ((rd_T74 ac ae).f0), (.slice aI ((rd_T74 ac ae).f1).length aJ)] 74 (0, 0))) ∧ Aside0 (Below w.heap.size w w'))
                     case atStart => exact ⟨(0), zf, H', ⟨Nat.le_refl _⟩, ⟨zk aa⟩, ⟨zk ak⟩, ⟨zb HB⟩⟩
                     case round =>
                      clear H' dr
                      obtain ⟨ai, rfl, HA, dY, aa, ak, HB⟩ := hrel
                      cases gk with
                      | zero => exact absurd HA.out (by simp [spec_LoopOk.l6])
                      | succ k7 =>
                       have H := HA.out; clear HA
                       simp only [spec_LoopOk.l6] at H
                       by_cases ec : ai < (((rd_T74 ac ae).f1).length : Int)
                       ·rw [if_pos ec] at H
                        have ds : decide (ai < (((rd_T74 ac ae).f1).length : Int)) = true := decide_eq_true ec
                        clear ec; have dZ := zK H; clear H; have hnb93 := ax.out; have hnc93 := aq.out
                        obtain ⟨cZ, c0⟩ := zL2 ak
                        obtain ⟨c1, da⟩ := zF2 ak
                        go_upto_region 41 with (fail)
                        go_cut [195] (fun v195 wc => ∃ (kq : Nat) (bg : Bool), v195 = .bool bg ∧ Aside0 (spec_LoopOk.j9 kq ae ai bg ad a0_1 ab ac ((rd_T74 ac ae).f0) ((rd_T74 ac ae).f1) = some r) ∧ Aside0 (kq ≤ k7) ∧ Aside0 (wc.heap[af]? = some (.cells #[(.slice aw ad.length ar), .int .i64 a0_1, (.slice az ab.length au), (.slice (some aH) ac.length av)] 28 (0, 0))) ∧ Aside0 (wc.heap[ap]? = some (.cells #[.int .i64 ((rd_T74 ac ae).f0), (.slice aI ((rd_T74 ac ae).f1).length aJ)] 74 (0, 0))) ∧ Aside0 (Below w.heap.size w wc))
                        case first =>
                         have H := dZ.out; clear dZ
                         by_cases c95 : 0 ≤ ai
                         ·rw [if_pos c95] at H
                          have c95b0 : decide (0 ≤ ai) = true := decide_eq_true c95
                          clear c95; replace H := Option.bind_eq_some_iff.mp H
                          obtain ⟨eJ, eK, H⟩ := H
                          (try dsimp only at H)
                          have A96 := zK eK; clear eK
                          by_cases c97 : eJ = true
                          ·subst c97
                           rw [if_pos rfl] at H
                           by_cases ed : ai > 0
                           ·rw [if_pos ed] at H
                            have eL : decide (0 < ai) = true := decide_eq_true ed
                            clear ed
                            obtain ⟨bb, cb⟩ : ∃ j_ : Int, (wrap64 (ai - 1)) = j_ := ⟨_, rfl⟩
                            replace H : (if 0 ≤ (bb) then (if (bb) < (((rd_T74 ac ae).f1).length : Int) then (spec_LoopOk.j9 k7 ae ai (decide ((rd ((rd_T74 ac ae).f1) ai) ≤ (rd ((rd_T74 ac ae).f1) (bb)))) ad a0_1 ab ac ((rd_T74 ac ae).f0) ((rd_T74 ac ae).f1)) else (none)) else (none)) = some r := by rw [cb] at H; exact H
                            have hji99w : (IntKind.i64.wrap (ai - 1)) = bb := (i64_w _).trans cb
                            by_cases db : 0 ≤ (bb)
                            ·rw [if_pos db] at H
                             have c100b0 : decide (0 ≤ (bb)) = true := decide_eq_true db
                             clear db
                             by_cases dc : (bb) < (((rd_T74 ac ae).f1).length : Int)
                             ·rw [if_pos dc] at H
                              have c101b0 : decide ((bb) < (((rd_T74 ac ae).f1).length : Int)) = true := decide_eq_true dc
                              clear dc; have H' := zK H; clear H; have hnb102 := ax.out; have hnc102 := aq.out
                              obtain ⟨eM, eN⟩ := zL2 ak
                              obtain ⟨eO, eP⟩ := zF2 ak
                              have bj : 0 ≤ (ai : Int) := zd
                              have bk : ai < (((rd_T74 ac ae).f1).length : Int) := zd
                              obtain ⟨bU, cc, aE⟩ := Kd.at_int a1.out ai bj bk
                              cases cc
                              replace aE := (HB.out.cell (World.block_lt_of_cell? w _ aE)).trans aE
                              replace bj := eq_true bj; replace bk := eq_true bk
                              obtain ⟨eQ, eR, eS, eT⟩ := zL4 aa
                              obtain ⟨eU, eV, eW, eX⟩ := zF4 aa
                              have d0 : 0 ≤ (ai : Int) := zd; have d1 : ai < (((rd_T74 ac ae).f1).length : Int) := zd; obtain ⟨eY, e170, bs⟩ := Kd.at_int a1.out ai d0 d1; obtain rfl : bU = eY := (by injection e170); replace bs := (HB.out.cell (World.block_lt_of_cell? w _ bs)).trans bs; replace d0 := eq_true d0; replace d1 := eq_true d1; have d2 : 0 ≤ ((bb) : Int) := zd; have d3 : (bb) < (((rd_T74 ac ae).f1).length : Int) := zd; obtain ⟨eZ, e171, bu⟩ := Kd.at_int a1.out (bb) d2 d3; obtain rfl : bU = eZ := (by injection e171); replace bu := (HB.out.cell (World.block_lt_of_cell? w _ bu)).trans bu; replace d2 := eq_true d2; replace d3 := eq_true d3
                              go_wp2_with (fail)
                              repeat (go_quiet ((go_at_call 62; (with_reducible refine (spec_l01In.calls (rd ((rd_T74 ac ae).f1) ai) 0 (wrap64 ((ab.length : Int) - 1)) true _ A96.out).mono ?_); rintro e w' ⟨rfl, ⟨nd, rfl⟩⟩; (try first | exact ⟨rfl, _, World.drewN_drewN _ _ _⟩ | exact ⟨rfl, _, Eq.trans (World.drewN_drewN _ _ _) (congrArg (World.drewN _) (Nat.add_assoc _ _ _))⟩))); try go_wp2_with (fail))
                              go_meet
                              case rel => exact ⟨_, (decide ((rd ((rd_T74 ac ae).f1) ai) ≤ (rd ((rd_T74 ac ae).f1) (bb)))), (by first | rfl | (simp; done) | (simp only [← cb] <;> (fail)) | (simp [*]; done)), H', ⟨by have := bl.out; have := bm.out; have := bv.out; have := b5.out; have := bQ.out; have := cW.out; have := dY.out; first | omega | exact Nat.le_refl _⟩, ⟨zk aa⟩, ⟨zk ak⟩, ⟨zb HB⟩⟩
                             ·rw [if_neg dc] at H
                              exact absurd H (by simp)
                            ·rw [if_neg db] at H
                             exact absurd H (by simp)
                           ·rw [if_neg ed] at H
                            have eL : decide (0 < ai) = false := decide_eq_false ed
                            clear ed; have H' := zK H; clear H; have hnb105 := ax.out; have hnc105 := aq.out
                            obtain ⟨e0, e1⟩ := zL2 ak
                            obtain ⟨e2, e3⟩ := zF2 ak
                            have bj : 0 ≤ (ai : Int) := zd
                            have bk : ai < (((rd_T74 ac ae).f1).length : Int) := zd
                            obtain ⟨bU, cc, aE⟩ := Kd.at_int a1.out ai bj bk
                            cases cc
                            replace aE := (HB.out.cell (World.block_lt_of_cell? w _ aE)).trans aE
                            replace bj := eq_true bj; replace bk := eq_true bk
                            obtain ⟨e4, e5, e6, e7⟩ := zL4 aa
                            obtain ⟨e8, e9, fa, fb⟩ := zF4 aa
                            go_wp2_with (fail)
                            repeat (go_quiet ((go_at_call 62; (with_reducible refine (spec_l01In.calls (rd ((rd_T74 ac ae).f1) ai) 0 (wrap64 ((ab.length : Int) - 1)) true _ A96.out).mono ?_); rintro e w' ⟨rfl, ⟨nd, rfl⟩⟩; (try first | exact ⟨rfl, _, World.drewN_drewN _ _ _⟩ | exact ⟨rfl, _, Eq.trans (World.drewN_drewN _ _ _) (congrArg (World.drewN _) (Nat.add_assoc _ _ _))⟩))); try go_wp2_with (fail))
                            go_meet
                            case rel => exact ⟨_, (false), zf, H', ⟨by have := bl.out; have := bm.out; have := bv.out; have := b5.out; have := bQ.out; have := cW.out; have := dY.out; first | omega | exact Nat.le_refl _⟩, ⟨zk aa⟩, ⟨zk ak⟩, ⟨zb HB⟩⟩
                          ·replace c97 := Bool.eq_false_iff.mpr c97
                           subst c97
                           rw [if_neg (show ¬ (false = true) by decide)] at H; have H' := zK H; clear H; have hnb108 := ax.out; have hnc108 := aq.out
                           obtain ⟨fc, fd⟩ := zL2 ak
                           obtain ⟨fe, ff⟩ := zF2 ak
                           have bj : 0 ≤ (ai : Int) := zd
                           have bk : ai < (((rd_T74 ac ae).f1).length : Int) := zd
                           obtain ⟨bU, cc, aE⟩ := Kd.at_int a1.out ai bj bk
                           cases cc
                           replace aE := (HB.out.cell (World.block_lt_of_cell? w _ aE)).trans aE
                           replace bj := eq_true bj; replace bk := eq_true bk
                           obtain ⟨fg, fh, fi, fj⟩ := zL4 aa
                           obtain ⟨fk, fl, fm, fn⟩ := zF4 aa
                           go_wp2_with (fail)
                           repeat (go_quiet ((go_at_call 62; (with_reducible refine (spec_l01In.calls (rd ((rd_T74 ac ae).f1) ai) 0 (wrap64 ((ab.length : Int) - 1)) false _ A96.out).mono ?_); rintro e w' ⟨rfl, ⟨nd, rfl⟩⟩; (try first | exact ⟨rfl, _, World.drewN_drewN _ _ _⟩ | exact ⟨rfl, _, Eq.trans (World.drewN_drewN _ _ _) (congrArg (World.drewN _) (Nat.add_assoc _ _ _))⟩))); try go_wp2_with (fail))
                           go_meet
                           case rel => exact ⟨_, (true), zf, H', ⟨by have := bl.out; have := bm.out; have := bv.out; have := b5.out; have := bQ.out; have := cW.out; have := dY.out; first | omega | exact Nat.le_refl _⟩, ⟨zk aa⟩, ⟨zk ak⟩, ⟨zb HB⟩⟩
                         ·rw [if_neg c95] at H
                          exact absurd H (by simp)
                        case rest =>
                         clear dZ ds cZ c0 c1 da
                         obtain ⟨kq, bg, rfl, HA, fo, aa, ak, HB⟩ := hcut
                         cases kq with
                         | zero => exact absurd HA.out (by simp [spec_LoopOk.j9])
                         | succ kj91 =>
                          have H := HA.out; clear HA
                          simp only [spec_LoopOk.j9] at H
                          by_cases dd : bg = true
                          ·subst dd
                           rw [if_pos rfl] at H; obtain rfl := Option.some.inj H
                           go_wp2
                           go_ret
                           exact ⟨ze, zb HB⟩
                          ·replace dd := Bool.eq_false_iff.mpr dd
                           subst dd
                           rw [if_neg (show ¬ (false = true) by decide)] at H; have H' := zK H; clear H
                           go_wp2
                           go_roundg kj91
                           case measure => have := bl.out; have := bm.out; have := bv.out; have := b5.out; have := bQ.out; have := cW.out; have := dY.out; have := fo.out; omega
                           case rel => exact ⟨(wrap64 (ai + 1)), zf, H', ⟨by have := bl.out; have := bm.out; have := bv.out; have := b5.out; have := bQ.out; have := cW.out; have := dY.out; have := fo.out; omega⟩, ⟨zk aa⟩, ⟨zk ak⟩, ⟨zb HB⟩⟩
                       ·rw [if_neg ec] at H
                        have ds : decide (ai < (((rd_T74 ac ae).f1).length : Int)) = false := decide_eq_false ec
                        clear ec; have H' := zK H; clear H; have hnb112 := ax.out; have hnc112 := aq.out
                        obtain ⟨fp, fq⟩ := zL2 ak
                        obtain ⟨fr, fs⟩ := zF2 ak
                        go_wp2
                        go_roundg k7
                        case measure => have := bl.out; have := bm.out; have := bv.out; have := b5.out; have := bQ.out; have := cW.out; have := dY.out; omega
                        case rel => exact ⟨(wrap64 (ae + 1)), zf, H', ⟨by have := bl.out; have := bm.out; have := bv.out; have := b5.out; have := bQ.out; have := cW.out; have := dY.out; omega⟩, ⟨zk aa⟩, ⟨zb HB⟩⟩
                ·rw [if_neg c71] at H
                 exact absurd H (by simp)
               ·rw [if_neg d9] at H
                have dp : decide (ae < (ac.length : Int)) = false := decide_eq_false d9
                clear d9; obtain rfl := Option.some.inj H
                obtain ⟨ft, fu, fv, fw⟩ := zL4 aa
                obtain ⟨fx, fy, fz, fA⟩ := zF4 aa
                go_wp2
                go_ret
                exact ⟨ze, zb HB⟩
end Go.Proofs.Ytmjhbdmicejppaa.Px
