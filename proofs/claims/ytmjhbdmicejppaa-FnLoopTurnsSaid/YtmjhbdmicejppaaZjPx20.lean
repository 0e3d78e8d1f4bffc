import Derived.Test.YtmjhbdmicejppaaZjPx0
namespace Go.Proofs.Ytmjhbdmicejppaa.Px
open Go.RowKit Go.Proofs.YtmjhbdmicejppaaW.PrintWords Go.Proofs.YtmjhbdmicejppaaW.PrintLast Go.Proofs.YtmjhbdmicejppaaW.PrintMore
attribute [local go_sem] max2_int min2_int max_two min_two max_three min_three max_four min_four   
set_option linter.unusedVariables false
set_option linter.unusedSimpArgs false
def laws_sameInts.l0 : Nat → List Int → List Int → Int → Option (Bool)
 | 0, _, _, _ => none
 | k + 1, x0, x1, x5 => if x5 < (x0.length : Int) then (if 0 ≤ x5 then (if x5 < (x1.length : Int) then (if (rd x0 x5) = (rd x1 x5) then (laws_sameInts.l0 k x0 x1 (wrap64 (x5 + 1))) else (some false)) else (none)) else (none)) else (some true)
def laws_sameInts.f (k : Nat) (l0 : List Int) (l1 : List Int) : Option (Bool) := if (l0.length : Int) = (l1.length : Int) then (laws_sameInts.l0 k l0 l1 0) else (some false)
set_option maxHeartbeats 8000000 in
set_option maxRecDepth 100000 in
theorem laws_sameInts.calls (k : Nat) (A0 : Option Addr) (c0 : Nat) (l0 : List Int) (A1 : Option Addr) (c1 : Nat) (l1 : List Int) (r : Bool) (w : World) (hr0 : Kd.C (Kd.int .i64) w A0 l0.length l0) (hc0 : l0.length ≤ c0) (hr1 : Kd.C (Kd.int .i64) w A1 l1.length l1) (hc1 : l1.length ≤ c1) (h : laws_sameInts.f k l0 l1 = some r) :
  Calls Try.prog 27 #[.slice A0 l0.length c0, .slice A1 l1.length c1] w fun e w' => e = .returned (.bool r) ∧ Drawn0 w w' := by
 have HR0 := zK hr0; have HC0 := zK hc0; clear hr0 hc0; have HR1 := zK hr1; have HC1 := zK hc1; clear hr1 hc1
 have H : (if (l0.length : Int) = (l1.length : Int) then (laws_sameInts.l0 k l0 l1 0) else (some false)) = some r := h
 clear h
 by_cases c3 : (l0.length : Int) = (l1.length : Int)
 ·rw [if_pos c3] at H
  have aj : ((l0.length : Int) == (l1.length : Int)) = true := beq_iff_eq.mpr c3
  have ak : ((l0.length : Int) != (l1.length : Int)) = false := bne_eq_false_iff_eq.mpr c3
  have al : (l0.length == l1.length) = true := by first | simpa using c3 | (simp at c3 ⊢; omega)
  clear c3; have H' := zK H; clear H
  go_enter Try.func27, Try.ntmps27
  go_wp2
  repeat (go_quiet (fail); try go_wp2)
  go_loopg [5] k (fun kq v5 w' => ∃ (aa : Int), v5 = .int .i64 aa ∧ Aside0 (laws_sameInts.l0 kq l0 l1 aa = some r) ∧ Aside0 (kq ≤ k) ∧ Drawn0 w w')
  case atStart => exact ⟨(0), zf, H', ⟨Nat.le_refl _⟩, by repeat (first | exact Drawn0.refl _ | apply Drawn0.step)⟩
  case round =>
   clear H' aj ak al
   obtain ⟨aa, rfl, HA, HK1, ⟨m1, rfl⟩⟩ := hrel
   cases gk with
   | zero => exact absurd HA.out (by simp [laws_sameInts.l0])
   | succ k1 =>
    have H := HA.out; clear HA
    simp only [laws_sameInts.l0] at H
    by_cases c4 : aa < (l0.length : Int)
    ·rw [if_pos c4] at H
     have c4b0 : decide (aa < (l0.length : Int)) = true := decide_eq_true c4
     clear c4
     by_cases c5 : 0 ≤ aa
     ·rw [if_pos c5] at H
      have c5b0 : decide (0 ≤ aa) = true := decide_eq_true c5
      clear c5
      by_cases c6 : aa < (l1.length : Int)
      ·rw [if_pos c6] at H
       have c6b0 : decide (aa < (l1.length : Int)) = true := decide_eq_true c6
       clear c6
       by_cases c7 : (rd l0 aa) = (rd l1 aa)
       ·rw [if_pos c7] at H
        have c7b0 : ((rd l0 aa) == (rd l1 aa)) = true := beq_iff_eq.mpr c7
        have c7b1 : ((rd l0 aa) != (rd l1 aa)) = false := bne_eq_false_iff_eq.mpr c7
        clear c7; have H' := zK H; clear H
        have ab : 0 ≤ (aa : Int) := zd
        have ac : aa < (l0.length : Int) := zd
        obtain ⟨am, ah, af⟩ := Kd.at_int HR0.out aa ab ac
        cases ah
        replace ab := eq_true ab; replace ac := eq_true ac
        have ad : 0 ≤ (aa : Int) := zd
        have ae : aa < (l1.length : Int) := zd
        obtain ⟨an, ai, ag⟩ := Kd.at_int HR1.out aa ad ae
        cases ai
        replace ad := eq_true ad; replace ae := eq_true ae
        go_wp2
        repeat (go_quiet (fail); try go_wp2)
        go_roundg k1
        case measure => have := HK1.out; omega
        case rel => exact ⟨(wrap64 (aa + 1)), zf, H', ⟨by have := HK1.out; omega⟩, by repeat (first | exact Drawn0.refl _ | apply Drawn0.step)⟩
       ·rw [if_neg c7] at H
        have c7b0 : ((rd l0 aa) == (rd l1 aa)) = false := beq_eq_false_iff_ne.mpr c7
        have c7b1 : ((rd l0 aa) != (rd l1 aa)) = true := bne_iff_ne.mpr c7
        obtain rfl := Option.some.inj H
        have ab : 0 ≤ (aa : Int) := zd
        have ac : aa < (l0.length : Int) := zd
        obtain ⟨am, ah, af⟩ := Kd.at_int HR0.out aa ab ac
        cases ah
        replace ab := eq_true ab; replace ac := eq_true ac
        have ad : 0 ≤ (aa : Int) := zd
        have ae : aa < (l1.length : Int) := zd
        obtain ⟨an, ai, ag⟩ := Kd.at_int HR1.out aa ad ae
        cases ai
        replace ad := eq_true ad; replace ae := eq_true ae
        go_wp2
        repeat (go_quiet (fail); try go_wp2)
        go_ret
        exact ⟨by first | rfl | (simp; done) | (simp [*]; done), by repeat (first | exact Drawn0.refl _ | apply Drawn0.step)⟩
      ·rw [if_neg c6] at H
       exact absurd H (by simp)
     ·rw [if_neg c5] at H
      exact absurd H (by simp)
    ·rw [if_neg c4] at H
     have c4b0 : decide (aa < (l0.length : Int)) = false := decide_eq_false c4
     clear c4; obtain rfl := Option.some.inj H
     go_wp2
     repeat (go_quiet (fail); try go_wp2)
     go_ret
     exact ⟨by first | rfl | (simp; done) | (simp [*]; done), by repeat (first | exact Drawn0.refl _ | apply Drawn0.step)⟩
 ·rw [if_neg c3] at H
  have aj : ((l0.length : Int) == (l1.length : Int)) = false := beq_eq_false_iff_ne.mpr c3
  have ak : ((l0.length : Int) != (l1.length : Int)) = true := bne_iff_ne.mpr c3
  have al : (l0.length == l1.length) = false := by first | simpa using c3 | (simp at c3 ⊢; omega)
  obtain rfl := Option.some.inj H
  go_enter Try.func27, Try.ntmps27
  go_wp2
  repeat (go_quiet (fail); try go_wp2)
  go_ret
  exact ⟨by first | rfl | (simp; done) | (simp [*]; done), by repeat (first | exact Drawn0.refl _ | apply Drawn0.step)⟩
mutual
def laws_sameLoop.j0 : Nat → Bool → List Int → Int → List (S69) → List (S74) → List Int → Int → List (S69) → List (S74) → Option (Bool)
 | 0, _, _, _, _, _, _, _, _, _ => none
 | k + 1, x37, x461000, x461001, x461002, x461003, x462000, x462001, x462002, x462003 => if x37 = true then (some false) else (laws_sameLoop.l0 k 0 x461000 x461001 x461002 x461003 x462000 x462001 x462002 x462003)
def laws_sameLoop.l0 : Nat → Int → List Int → Int → List (S69) → List (S74) → List Int → Int → List (S69) → List (S74) → Option (Bool)
 | 0, _, _, _, _, _, _, _, _, _ => none
 | k + 1, x5, x461000, x461001, x461002, x461003, x462000, x462001, x462002, x462003 => if x5 < (x461002.length : Int) then (if 0 ≤ x5 then (if x5 < (x462002.length : Int) then (if ((rd_T69 x461002 x5).f0) = ((rd_T69 x462002 x5).f0) then (if ((rd_T69 x461002 x5).f1) = ((rd_T69 x462002 x5).f1) then ((laws_sameInts.f k ((rd_T69 x461002 x5).f2) ((rd_T69 x462002 x5).f2)).bind fun t469 => (laws_sameLoop.j2 k x5 (!t469) x461000 x461001 x461002 x461003 x462000 x462001 x462002 x462003)) else (laws_sameLoop.j2 k x5 true x461000 x461001 x461002 x461003 x462000 x462001 x462002 x462003)) else (laws_sameLoop.j2 k x5 true x461000 x461001 x461002 x461003 x462000 x462001 x462002 x462003)) else (none)) else (none)) else (laws_sameLoop.l1 k 0 x461000 x461001 x461002 x461003 x462000 x462001 x462002 x462003)
def laws_sameLoop.j2 : Nat → Int → Bool → List Int → Int → List (S69) → List (S74) → List Int → Int → List (S69) → List (S74) → Option (Bool)
 | 0, _, _, _, _, _, _, _, _, _, _ => none
 | k + 1, x5, x88, x461000, x461001, x461002, x461003, x462000, x462001, x462002, x462003 => if x88 = true then (some false) else (laws_sameLoop.l0 k (wrap64 (x5 + 1)) x461000 x461001 x461002 x461003 x462000 x462001 x462002 x462003)
def laws_sameLoop.l1 : Nat → Int → List Int → Int → List (S69) → List (S74) → List Int → Int → List (S69) → List (S74) → Option (Bool)
 | 0, _, _, _, _, _, _, _, _, _ => none
 | k + 1, x6, x461000, x461001, x461002, x461003, x462000, x462001, x462002, x462003 => if x6 < (x461003.length : Int) then (if 0 ≤ x6 then (if x6 < (x462003.length : Int) then (if ((rd_T74 x461003 x6).f0) = ((rd_T74 x462003 x6).f0) then ((laws_sameInts.f k ((rd_T74 x461003 x6).f1) ((rd_T74 x462003 x6).f1)).bind fun t474 => (if t474 = true then (laws_sameLoop.l1 k (wrap64 (x6 + 1)) x461000 x461001 x461002 x461003 x462000 x462001 x462002 x462003) else (some false))) else (some false)) else (none)) else (none)) else (some true)
end
def laws_sameLoop.f (k : Nat) (l0_0 : List Int) (a0_1 : Int) (l0_2 : List (S69)) (l0_3 : List (S74)) (l1_0 : List Int) (a1_1 : Int) (l1_2 : List (S69)) (l1_3 : List (S74)) : Option (Bool) := (laws_sameInts.f k l0_0 l1_0).bind fun t462 => (if t462 = true then (if a0_1 = a1_1 then (if (l0_2.length : Int) = (l1_2.length : Int) then (laws_sameLoop.j0 k ((l0_3.length : Int) != (l1_3.length : Int)) l0_0 a0_1 l0_2 l0_3 l1_0 a1_1 l1_2 l1_3) else (laws_sameLoop.j0 k true l0_0 a0_1 l0_2 l0_3 l1_0 a1_1 l1_2 l1_3)) else (laws_sameLoop.j0 k true l0_0 a0_1 l0_2 l0_3 l1_0 a1_1 l1_2 l1_3)) else (laws_sameLoop.j0 k true l0_0 a0_1 l0_2 l0_3 l1_0 a1_1 l1_2 l1_3))
def laws_sameLoop.T6 : Bool × List (List Nat × List Nat) := (true, [([], []), ([0], [0]), ([], []), ([1, 2], [1, 2]), ([3], [3]), ([4], [4]), ([], []), ([6], [6]), ([], []), ([7, 8], [7, 8]), ([9], [9]), ([10], [10]), ([5, 11], [5, 11]), ([12], [12]), ([13], [13]), ([14, 13], [13, 14]), ([13], [13]), ([15, 16, 13], [13, 15, 16]), ([17, 13], [13, 17]), ([18, 13], [13, 18]), ([13], [13]), ([20, 13], [13, 20]), ([13], [13]), ([21, 22, 13], [13, 21, 22]), ([23, 13], [13, 23]), ([24, 13], [13, 24]), ([19, 25, 13], [13, 19, 25]), ([13, 26], [13, 26]), ([27, 13], [27]), ([28], [28]), ([29, 28], [28, 29]), ([28], [28]), ([30, 31, 28], [28, 30, 31]), ([32, 28], [28, 32]), ([33, 28], [28, 33]), ([28], [28]), ([35, 28], [28, 35]), ([28], [28]), ([36, 37, 28], [28, 36, 37]), ([38, 28], [28, 38]), ([39, 28], [28, 39]), ([34, 40, 28, 28], [28, 34, 40]), ([41, 28], [28, 41]), ([28, 42], [28, 42])])
def laws_sameLoop.B6 : List Nat := [0, 1, 0, 7, 15, 31, 0, 64, 0, 448, 960, 1984, 4095, 8191, 16383, 32767, 16383, 131071, 262143, 524287, 16383, 1064959, 16383, 7356415, 15745023, 32522239, 67108863, 134217727, 268435455, 536870911, 1073741823, 536870911, 4294967295, 8589934591, 17179869183, 536870911, 34896609279, 536870911, 241055039487, 515932946431, 1065688760319, 2199023255551, 4398046511103, 8796093022207]
theorem laws_sameLoop.tab6 : rtab .any (opsOf Try.f25 6) = laws_sameLoop.T6 := by kernel_rfl
theorem laws_sameLoop.bits6 : waitsOk laws_sameLoop.T6.2 laws_sameLoop.B6 = true := by kernel_rfl
def laws_sameLoop.T11 : Bool × List (List Nat × List Nat) := (true, [([], []), ([0], [0]), ([], []), ([1, 2], [1, 2]), ([3], [3]), ([4], [4]), ([], []), ([6], [6]), ([], []), ([7, 8], [7, 8]), ([9], [9]), ([10], [10]), ([5, 11], [5, 11]), ([12], [12]), ([13], [13]), ([14, 13], [13, 14]), ([13], [13]), ([15, 16, 13], [13, 15, 16]), ([17, 13], [13, 17]), ([18, 13], [13, 18]), ([13], [13]), ([20, 13], [13, 20]), ([13], [13]), ([21, 22, 13], [13, 21, 22]), ([23, 13], [13, 23]), ([24, 13], [13, 24]), ([19, 25, 13, 13], [13, 19, 25]), ([26, 13], [13, 26]), ([13, 27], [13, 27])])
def laws_sameLoop.B11 : List Nat := [0, 1, 0, 7, 15, 31, 0, 64, 0, 448, 960, 1984, 4095, 8191, 16383, 32767, 16383, 131071, 262143, 524287, 16383, 1064959, 16383, 7356415, 15745023, 32522239, 67108863, 134217727, 268435455]
theorem laws_sameLoop.tab11 : rtab .any (opsOf Try.f25 11) = laws_sameLoop.T11 := by kernel_rfl
theorem laws_sameLoop.bits11 : waitsOk laws_sameLoop.T11.2 laws_sameLoop.B11 = true := by kernel_rfl
set_option maxHeartbeats 8000000 in
set_option maxRecDepth 100000 in
theorem laws_sameLoop.calls (k : Nat) (aM : Option Addr) (aN : Nat) (ak : List Int) (a0_1 : Int) (a8 : Option Addr) (a1 : Nat) (af : List (S69)) (a9 : Option Addr) (a2 : Nat) (ah : List (S74)) (bi : Option Addr) (bj : Nat) (ap : List Int) (a1_1 : Int) (bK : Option Addr) (bE : Nat) (ag : List (S69)) (bL : Option Addr) (bF : Nat) (aj : List (S74)) (r : Bool) (w : World) (dy : Kd.C (Kd.int .i64) w aM ak.length ak) (hc0_0 : ak.length ≤ aN) (dz : Kd.C k69 w a8 af.length af) (hc0_2 : af.length ≤ a1) (dA : Kd.C k74 w a9 ah.length ah) (hc0_3 : ah.length ≤ a2) (dB : Kd.C (Kd.int .i64) w bi ap.length ap) (hc1_0 : ap.length ≤ bj) (dC : Kd.C k69 w bK ag.length ag) (hc1_2 : ag.length ≤ bE) (dD : Kd.C k74 w bL aj.length aj) (hc1_3 : aj.length ≤ bF) (h : laws_sameLoop.f k ak a0_1 af ah ap a1_1 ag aj = some r) :
  Calls Try.prog 25 #[.agg #[.slice aM ak.length aN, .int .i64 a0_1, .slice a8 af.length a1, .slice a9 ah.length a2], .agg #[.slice bi ap.length bj, .int .i64 a1_1, .slice bK ag.length bE, .slice bL aj.length bF]] w fun e w' => e = .returned (.bool r) ∧ Below w.heap.size w w' := by
 have hu28 := Try.underlying28; have cH := zK dy; have cI := zK hc0_0; clear dy hc0_0; have cl := zK dz; have HC0_2 := zK hc0_2; clear dz hc0_2; have cx := zK dA; have HC0_3 := zK hc0_3; clear dA hc0_3; have cJ := zK dB; have cK := zK hc1_0; clear dB hc1_0; have cm := zK dC; have HC1_2 := zK hc1_2; clear dC hc1_2; have cy := zK dD; have HC1_3 := zK hc1_3; clear dD hc1_3
 have HB := zK (Below.refl w.heap.size w)
 have H : ((laws_sameInts.f k ak ap).bind fun dj => (if dj = true then (if a0_1 = a1_1 then (if (af.length : Int) = (ag.length : Int) then (laws_sameLoop.j0 k ((ah.length : Int) != (aj.length : Int)) ak a0_1 af ah ap a1_1 ag aj) else (laws_sameLoop.j0 k true ak a0_1 af ah ap a1_1 ag aj)) else (laws_sameLoop.j0 k true ak a0_1 af ah ap a1_1 ag aj)) else (laws_sameLoop.j0 k true ak a0_1 af ah ap a1_1 ag aj))) = some r := h
 clear h; have HC3 := zK H; clear H
 go_enter Try.func25, Try.ntmps25
 go_upto_region 1 with (first | ((with_reducible refine gate_dst (N := 2) rfl ?_); (try (refine gate_guard (by rfl) ?_; dsimp only)); refine zX 2 #[.slice aM ak.length aN, .int .i64 a0_1, .slice a8 af.length a1, .slice a9 ah.length a2] 28 ?_; intro ad hg w4 hbox hb; have ca := zK (below_step (zb HB) hb); have cb := zK (hbox); have cc := zK ((by rw [hg]; exact (below_size (zb HB)) : w.heap.size ≤ ad)); have d5 := zK ((by rw [hg]; exact (below_size (zb HB)) : w.heap.size ≤ ad)); clear HB; have HB := ca; have aa := cb; have GW460 := cc; have aO := d5; clear ca cb cc d5; clear hb hbox hg) | ((with_reducible refine gate_dst (N := 3) rfl ?_); (try (refine gate_guard (by rfl) ?_; dsimp only)); refine zX 3 #[.slice bi ap.length bj, .int .i64 a1_1, .slice bK ag.length bE, .slice bL aj.length bF] 28 ?_; intro ai hg w5 hbox hb; have ca := zK (blk_below (g := ad) (o := .cells #[.slice aM ak.length aN, .int .i64 a0_1, .slice a8 af.length a1, .slice a9 ah.length a2] 28 (0, 0)) (zk aa) hb); have cb := zK (below_step (zb HB) hb); have cc := zK (hbox); have d5 := zK ((by rw [hg]; exact (below_size (zb HB)) : w.heap.size ≤ ai)); have n4_ := zK ((by rw [hg]; exact (below_size (zb HB)) : w.heap.size ≤ ai)); have n5_ := zK ((by rw [hg]; exact Nat.ne_of_lt (blk_lt (g := ad) (o := .cells #[.slice aM ak.length aN, .int .i64 a0_1, .slice a8 af.length a1, .slice a9 ah.length a2] 28 (0, 0)) (zk aa)) : ad ≠ ai)); have n6_ := zK ((by rw [hg]; exact Nat.ne_of_gt (blk_lt (g := ad) (o := .cells #[.slice aM ak.length aN, .int .i64 a0_1, .slice a8 af.length a1, .slice a9 ah.length a2] 28 (0, 0)) (zk aa)) : ai ≠ ad)); clear aa; clear HB; have aa := ca; have HB := cb; have ac := cc; have GW461 := d5; have a3 := n4_; have aA := n5_; have aB := n6_; clear ca cb cc d5 n4_ n5_ n6_; clear hb hbox hg))
 (try simp only [Act.put, zp, zq, zr])
 go_cut [37] (fun v37 wc => ∃ (kq : Nat) (cL : Bool), v37 = .bool cL ∧ Aside0 (laws_sameLoop.j0 kq cL ak a0_1 af ah ap a1_1 ag aj = some r) ∧ Aside0 (kq ≤ k) ∧ Aside0 (wc.heap[ad]? = some (.cells #[(.slice aM ak.length aN), .int .i64 a0_1, (.slice a8 af.length a1), (.slice a9 ah.length a2)] 28 (0, 0))) ∧ Aside0 (wc.heap[ai]? = some (.cells #[(.slice bi ap.length bj), .int .i64 a1_1, (.slice bK ag.length bE), (.slice bL aj.length bF)] 28 (0, 0))) ∧ Aside0 (Below w.heap.size w wc))
 case first =>
  have H := HC3.out; clear HC3; replace H := Option.bind_eq_some_iff.mp H
  obtain ⟨dj, A60, H⟩ := H
  replace H : (if dj = true then (if a0_1 = a1_1 then (if (af.length : Int) = (ag.length : Int) then (laws_sameLoop.j0 k ((ah.length : Int) != (aj.length : Int)) ak a0_1 af ah ap a1_1 ag aj) else (laws_sameLoop.j0 k true ak a0_1 af ah ap a1_1 ag aj)) else (laws_sameLoop.j0 k true ak a0_1 af ah ap a1_1 ag aj)) else (laws_sameLoop.j0 k true ak a0_1 af ah ap a1_1 ag aj)) = some r := H
  have A6 := zK A60; clear A60
  by_cases c7 : dj = true
  ·subst c7
   have H1 : (if a0_1 = a1_1 then (if (af.length : Int) = (ag.length : Int) then (laws_sameLoop.j0 k ((ah.length : Int) != (aj.length : Int)) ak a0_1 af ah ap a1_1 ag aj) else (laws_sameLoop.j0 k true ak a0_1 af ah ap a1_1 ag aj)) else (laws_sameLoop.j0 k true ak a0_1 af ah ap a1_1 ag aj)) = some r := by rw [if_pos rfl] at H; exact H
   clear H; have H := H1; clear H1
   by_cases c8 : a0_1 = a1_1
   ·rw [if_pos c8] at H
    have cW : (a0_1 == a1_1) = true := beq_iff_eq.mpr c8
    have c8b1 : (a0_1 != a1_1) = false := bne_eq_false_iff_eq.mpr c8
    clear c8
    (first | rw [cW] | (simp only [i64_w, i32_w]; rw [cW]) | skip)
    by_cases c9 : (af.length : Int) = (ag.length : Int)
    ·rw [if_pos c9] at H
     have c9b0 : ((af.length : Int) == (ag.length : Int)) = true := beq_iff_eq.mpr c9
     have c9b1 : ((af.length : Int) != (ag.length : Int)) = false := bne_eq_false_iff_eq.mpr c9
     have c9b2 : (af.length == ag.length) = true := by first | simpa using c9 | (simp at c9 ⊢; omega)
     clear c9; have H' := zK H; clear H; have hnb10 := aA.out; have hnc10 := aB.out
     have hcz11_0 : w5.cell? ⟨ad, 0, none⟩ = some (.slice aM ak.length aN) := (blk_cell aa.out 0).trans rfl
     have hcz11_1 : w5.cell? ⟨ad, 1, none⟩ = some (.int .i64 a0_1) := (blk_cell aa.out 1).trans rfl
     have hcz11_2 : w5.cell? ⟨ad, 2, none⟩ = some (.slice a8 af.length a1) := (blk_cell aa.out 2).trans rfl
     have hcz11_3 : w5.cell? ⟨ad, 3, none⟩ = some (.slice a9 ah.length a2) := (blk_cell aa.out 3).trans rfl
     have hfz11_0 := blk_frozen aa.out 0; have hfz11_1 := blk_frozen aa.out 1; have hfz11_2 := blk_frozen aa.out 2; have hfz11_3 := blk_frozen aa.out 3
     have hcz12_0 : w5.cell? ⟨ai, 0, none⟩ = some (.slice bi ap.length bj) := (blk_cell ac.out 0).trans rfl
     have hcz12_1 : w5.cell? ⟨ai, 1, none⟩ = some (.int .i64 a1_1) := (blk_cell ac.out 1).trans rfl
     have hcz12_2 : w5.cell? ⟨ai, 2, none⟩ = some (.slice bK ag.length bE) := (blk_cell ac.out 2).trans rfl
     have hcz12_3 : w5.cell? ⟨ai, 3, none⟩ = some (.slice bL aj.length bF) := (blk_cell ac.out 3).trans rfl
     have hfz12_0 := blk_frozen ac.out 0; have hfz12_1 := blk_frozen ac.out 1; have hfz12_2 := blk_frozen ac.out 2; have hfz12_3 := blk_frozen ac.out 3
     go_wp2_with (first | ((with_reducible refine gate_callee (f := 27) rfl ?_); refine goesL_ (some 11) rfl rfl Try.func27 (by kernel_rfl) rfl #[.slice aM ak.length aN, .slice bi ap.length bj] rfl zg ?_; (with_reducible refine (laws_sameInts.calls k _ _ ak _ _ ap true _ ?side1 ?side2 ?side3 ?side4 A6.out).mono ?_); (case side1 => exact zs (Kd.C_below cH.out HB.out)); (case side2 => exact cI.out); (case side3 => exact zs (Kd.C_below cJ.out HB.out)); (case side4 => exact cK.out); rintro e w' ⟨rfl, ⟨nd, rfl⟩⟩; refine ⟨_, rfl, ?_⟩))
     go_meet
     case rel => exact ⟨_, (((ah.length : Int) != (aj.length : Int))), zf, H', ⟨by first | omega | exact Nat.le_refl _⟩, ⟨zk aa⟩, ⟨zk ac⟩, ⟨zb HB⟩⟩
    ·rw [if_neg c9] at H
     have c9b0 : ((af.length : Int) == (ag.length : Int)) = false := beq_eq_false_iff_ne.mpr c9
     have c9b1 : ((af.length : Int) != (ag.length : Int)) = true := bne_iff_ne.mpr c9
     have c9b2 : (af.length == ag.length) = false := by first | simpa using c9 | (simp at c9 ⊢; omega)
     have H' := zK H; clear H; have hnb13 := aA.out; have hnc13 := aB.out
     have hcz14_0 : w5.cell? ⟨ad, 0, none⟩ = some (.slice aM ak.length aN) := (blk_cell aa.out 0).trans rfl
     have hcz14_1 : w5.cell? ⟨ad, 1, none⟩ = some (.int .i64 a0_1) := (blk_cell aa.out 1).trans rfl
     have hcz14_2 : w5.cell? ⟨ad, 2, none⟩ = some (.slice a8 af.length a1) := (blk_cell aa.out 2).trans rfl
     have hcz14_3 : w5.cell? ⟨ad, 3, none⟩ = some (.slice a9 ah.length a2) := (blk_cell aa.out 3).trans rfl
     have hfz14_0 := blk_frozen aa.out 0; have hfz14_1 := blk_frozen aa.out 1; have hfz14_2 := blk_frozen aa.out 2; have hfz14_3 := blk_frozen aa.out 3
     have hcz15_0 : w5.cell? ⟨ai, 0, none⟩ = some (.slice bi ap.length bj) := (blk_cell ac.out 0).trans rfl
     have hcz15_1 : w5.cell? ⟨ai, 1, none⟩ = some (.int .i64 a1_1) := (blk_cell ac.out 1).trans rfl
     have hcz15_2 : w5.cell? ⟨ai, 2, none⟩ = some (.slice bK ag.length bE) := (blk_cell ac.out 2).trans rfl
     have hcz15_3 : w5.cell? ⟨ai, 3, none⟩ = some (.slice bL aj.length bF) := (blk_cell ac.out 3).trans rfl
     have hfz15_0 := blk_frozen ac.out 0; have hfz15_1 := blk_frozen ac.out 1; have hfz15_2 := blk_frozen ac.out 2; have hfz15_3 := blk_frozen ac.out 3
     go_wp2_with (first | ((with_reducible refine gate_callee (f := 27) rfl ?_); refine goesL_ (some 11) rfl rfl Try.func27 (by kernel_rfl) rfl #[.slice aM ak.length aN, .slice bi ap.length bj] rfl zg ?_; (with_reducible refine (laws_sameInts.calls k _ _ ak _ _ ap true _ ?side1 ?side2 ?side3 ?side4 A6.out).mono ?_); (case side1 => exact zs (Kd.C_below cH.out HB.out)); (case side2 => exact cI.out); (case side3 => exact zs (Kd.C_below cJ.out HB.out)); (case side4 => exact cK.out); rintro e w' ⟨rfl, ⟨nd, rfl⟩⟩; refine ⟨_, rfl, ?_⟩))
     go_meet
     case rel => exact ⟨_, (true), zf, H', ⟨by first | omega | exact Nat.le_refl _⟩, ⟨zk aa⟩, ⟨zk ac⟩, ⟨zb HB⟩⟩
   ·rw [if_neg c8] at H
    have cW : (a0_1 == a1_1) = false := beq_eq_false_iff_ne.mpr c8
    have c8b1 : (a0_1 != a1_1) = true := bne_iff_ne.mpr c8
    (first | rw [cW] | (simp only [i64_w, i32_w]; rw [cW]) | skip)
    have H' := zK H; clear H; have hnb16 := aA.out; have hnc16 := aB.out
    have hcz17_0 : w5.cell? ⟨ad, 0, none⟩ = some (.slice aM ak.length aN) := (blk_cell aa.out 0).trans rfl
    have hcz17_1 : w5.cell? ⟨ad, 1, none⟩ = some (.int .i64 a0_1) := (blk_cell aa.out 1).trans rfl
    have hcz17_2 : w5.cell? ⟨ad, 2, none⟩ = some (.slice a8 af.length a1) := (blk_cell aa.out 2).trans rfl
    have hcz17_3 : w5.cell? ⟨ad, 3, none⟩ = some (.slice a9 ah.length a2) := (blk_cell aa.out 3).trans rfl
    have hfz17_0 := blk_frozen aa.out 0; have hfz17_1 := blk_frozen aa.out 1; have hfz17_2 := blk_frozen aa.out 2; have hfz17_3 := blk_frozen aa.out 3
    have hcz18_0 : w5.cell? ⟨ai, 0, none⟩ = some (.slice bi ap.length bj) := (blk_cell ac.out 0).trans rfl
    have hcz18_1 : w5.cell? ⟨ai, 1, none⟩ = some (.int .i64 a1_1) := (blk_cell ac.out 1).trans rfl
    have hcz18_2 : w5.cell? ⟨ai, 2, none⟩ = some (.slice bK ag.length bE) := (blk_cell ac.out 2).trans rfl
    have hcz18_3 : w5.cell? ⟨ai, 3, none⟩ = some (.slice bL aj.length bF) := (blk_cell ac.out 3).trans rfl
    have hfz18_0 := blk_frozen ac.out 0; have hfz18_1 := blk_frozen ac.out 1; have hfz18_2 := blk_frozen ac.out 2; have hfz18_3 := blk_frozen ac.out 3
    go_wp2_with (first | ((with_reducible refine gate_callee (f := 27) rfl ?_); refine goesL_ (some 11) rfl rfl Try.func27 (by kernel_rfl) rfl #[.slice aM ak.length aN, .slice bi ap.length bj] rfl zg ?_; (with_reducible refine (laws_sameInts.calls k _ _ ak _ _ ap true _ ?side1 ?side2 ?side3 ?side4 A6.out).mono ?_); (case side1 => exact zs (Kd.C_below cH.out HB.out)); (case side2 => exact cI.out); (case side3 => exact zs (Kd.C_below cJ.out HB.out)); (case side4 => exact cK.out); rintro e w' ⟨rfl, ⟨nd, rfl⟩⟩; refine ⟨_, rfl, ?_⟩))
    go_meet
    case rel => exact ⟨_, (true), zf, H', ⟨by first | omega | exact Nat.le_refl _⟩, ⟨zk aa⟩, ⟨zk ac⟩, ⟨zb HB⟩⟩
  ·replace c7 := Bool.eq_false_iff.mpr c7
   subst c7
   have H1 : (laws_sameLoop.j0 k true ak a0_1 af ah ap a1_1 ag aj) = some r := by rw [if_neg (show ¬ (false = true) by decide)] at H; exact H
   clear H; have H := H1; clear H1; have H' := zK H; clear H; have hnb19 := aA.out; have hnc19 := aB.out
   have hcz20_0 : w5.cell? ⟨ad, 0, none⟩ = some (.slice aM ak.length aN) := (blk_cell aa.out 0).trans rfl
   have hcz20_1 : w5.cell? ⟨ad, 1, none⟩ = some (.int .i64 a0_1) := (blk_cell aa.out 1).trans rfl
   have hcz20_2 : w5.cell? ⟨ad, 2, none⟩ = some (.slice a8 af.length a1) := (blk_cell aa.out 2).trans rfl
   have hcz20_3 : w5.cell? ⟨ad, 3, none⟩ = some (.slice a9 ah.length a2) := (blk_cell aa.out 3).trans rfl
   have hfz20_0 := blk_frozen aa.out 0; have hfz20_1 := blk_frozen aa.out 1; have hfz20_2 := blk_frozen aa.out 2; have hfz20_3 := blk_frozen aa.out 3
   have hcz21_0 : w5.cell? ⟨ai, 0, none⟩ = some (.slice bi ap.length bj) := (blk_cell ac.out 0).trans rfl
   have hcz21_1 : w5.cell? ⟨ai, 1, none⟩ = some (.int .i64 a1_1) := (blk_cell ac.out 1).trans rfl
   have hcz21_2 : w5.cell? ⟨ai, 2, none⟩ = some (.slice bK ag.length bE) := (blk_cell ac.out 2).trans rfl
   have hcz21_3 : w5.cell? ⟨ai, 3, none⟩ = some (.slice bL aj.length bF) := (blk_cell ac.out 3).trans rfl
   have hfz21_0 := blk_frozen ac.out 0; have hfz21_1 := blk_frozen ac.out 1; have hfz21_2 := blk_frozen ac.out 2; have hfz21_3 := blk_frozen ac.out 3
   go_wp2_with (first | ((with_reducible refine gate_callee (f := 27) rfl ?_); refine goesL_ (some 11) rfl rfl Try.func27 (by kernel_rfl) rfl #[.slice aM ak.length aN, .slice bi ap.length bj] rfl zg ?_; (with_reducible refine (laws_sameInts.calls k _ _ ak _ _ ap false _ ?side1 ?side2 ?side3 ?side4 A6.out).mono ?_); (case side1 => exact zs (Kd.C_below cH.out HB.out)); (case side2 => exact cI.out); (case side3 => exact zs (Kd.C_below cJ.out HB.out)); (case side4 => exact cK.out); rintro e w' ⟨rfl, ⟨nd, rfl⟩⟩; refine ⟨_, rfl, ?_⟩))
   go_meet
   case rel => exact ⟨_, (true), zf, H', ⟨by first | omega | exact Nat.le_refl _⟩, ⟨zk aa⟩, ⟨zk ac⟩, ⟨zb HB⟩⟩
 case rest =>
  clear HC3
  obtain ⟨kq, cL, rfl, HA, dG, aa, ac, HB⟩ := hcut
  cases kq with
  | zero => exact absurd HA.out (by simp [laws_sameLoop.j0])
  | succ kj2 =>
   have H := HA.out; clear HA
   simp only [laws_sameLoop.j0] at H
   by_cases c22 : cL = true
   ·subst c22
    have H1 : (some false) = some r := by rw [if_pos rfl] at H; exact H
    clear H; have H := H1; clear H1; obtain rfl := Option.some.inj H
    go_wp2
    go_ret
    exact ⟨ze, zb HB⟩
   ·replace c22 := Bool.eq_false_iff.mpr c22
    subst c22
    have H1 : (laws_sameLoop.l0 kj2 0 ak a0_1 af ah ap a1_1 ag aj) = some r := by rw [if_neg (show ¬ (false = true) by decide)] at H; exact H
    clear H; have H := H1; clear H1; have H' := zK H; clear H
    go_wp2
    go_loopg [5] kj2 (fun kq v5 w' => ∃ (ab : Int), v5 = .int .i64 ab ∧ Aside0 (laws_sameLoop.l0 kq ab ak a0_1 af ah ap a1_1 ag aj = some r) ∧ Aside0 (kq ≤ kj2) ∧ Aside0 (w'.heap[ad]? = some (.cells #[(.slice aM ak.length aN), .int .i64 a0_1, (.slice a8 af.length a1), (.slice a9 ah.length a2)] 28 (0, 0))) ∧ Aside0 (w'.heap[ai]? = some (.cells #[(.slice bi ap.length bj), .int .i64 a1_1, (.slice bK ag.length bE), (.slice bL aj.length bF)] 28 (0, 0))) ∧ Aside0 (Below w.heap.size w w'))
    case atStart => exact ⟨(0), zf, H', ⟨Nat.le_refl _⟩, ⟨zk aa⟩, ⟨zk ac⟩, ⟨zb HB⟩⟩
    case round =>
     clear H'
     obtain ⟨ab, rfl, HA, dH, aa, ac, HB⟩ := hrel
     cases gk with
     | zero => exact absurd HA.out (by simp [laws_sameLoop.l0])
     | succ k2 =>
      have H := HA.out; clear HA
      simp only [laws_sameLoop.l0] at H
      by_cases d3 : ab < (af.length : Int)
      ·rw [if_pos d3] at H
       have dE : decide (ab < (af.length : Int)) = true := decide_eq_true d3
       clear d3; have dI := zK H; clear H; have hnb25 := aA.out; have hnc25 := aB.out
       have hcz26_0 : wr.cell? ⟨ad, 0, none⟩ = some (.slice aM ak.length aN) := (blk_cell aa.out 0).trans rfl
       have hcz26_1 : wr.cell? ⟨ad, 1, none⟩ = some (.int .i64 a0_1) := (blk_cell aa.out 1).trans rfl
       have hcz26_2 : wr.cell? ⟨ad, 2, none⟩ = some (.slice a8 af.length a1) := (blk_cell aa.out 2).trans rfl
       have hcz26_3 : wr.cell? ⟨ad, 3, none⟩ = some (.slice a9 ah.length a2) := (blk_cell aa.out 3).trans rfl
       have hfz26_0 := blk_frozen aa.out 0; have hfz26_1 := blk_frozen aa.out 1; have hfz26_2 := blk_frozen aa.out 2; have hfz26_3 := blk_frozen aa.out 3
       go_upto_region 6 with (fail)
       go_cut [88] (fun v88 wc => ∃ (kq : Nat) (cn : Bool), v88 = .bool cn ∧ Aside0 (laws_sameLoop.j2 kq ab cn ak a0_1 af ah ap a1_1 ag aj = some r) ∧ Aside0 (kq ≤ k2) ∧ Aside0 (wc.heap[ad]? = some (.cells #[(.slice aM ak.length aN), .int .i64 a0_1, (.slice a8 af.length a1), (.slice a9 ah.length a2)] 28 (0, 0))) ∧ Aside0 (wc.heap[ai]? = some (.cells #[(.slice bi ap.length bj), .int .i64 a1_1, (.slice bK ag.length bE), (.slice bL aj.length bF)] 28 (0, 0))) ∧ Aside0 (Below w.heap.size w wc))
       case first =>
        have H := dI.out; clear dI
        by_cases c27 : 0 ≤ ab
        ·rw [if_pos c27] at H
         have dF : decide (0 ≤ ab) = true := decide_eq_true c27
         clear c27
         (first | rw [dF] | (simp only [i64_w, i32_w]; rw [dF]) | skip)
         by_cases c28 : ab < (ag.length : Int)
         ·rw [if_pos c28] at H
          have c28b0 : decide (ab < (ag.length : Int)) = true := decide_eq_true c28
          clear c28
          by_cases dJ : ((rd_T69 af ab).f0) = ((rd_T69 ag ab).f0)
          ·rw [if_pos dJ] at H
           have d6 : (((rd_T69 af ab).f0) == ((rd_T69 ag ab).f0)) = true := beq_iff_eq.mpr dJ
           have d7 : (((rd_T69 af ab).f0) != ((rd_T69 ag ab).f0)) = false := bne_eq_false_iff_eq.mpr dJ
           clear dJ
           by_cases dK : ((rd_T69 af ab).f1) = ((rd_T69 ag ab).f1)
           ·rw [if_pos dK] at H
            have d8 : (((rd_T69 af ab).f1) == ((rd_T69 ag ab).f1)) = true := beq_iff_eq.mpr dK
            have d9 : (((rd_T69 af ab).f1) != ((rd_T69 ag ab).f1)) = false := bne_eq_false_iff_eq.mpr dK
            clear dK; replace H := Option.bind_eq_some_iff.mp H
            obtain ⟨dL, ea, H⟩ := H
            replace H : (laws_sameLoop.j2 k2 ab (!dL) ak a0_1 af ah ap a1_1 ag aj) = some r := H
            have A31 := zK ea; clear ea; have H' := zK H; clear H
            try go_wp2
            have ca := zK (zD aa.out)
            have cb := zK (zD ac.out)
            have cc := zK (zE HB.out)
            clear aa ac HB; have aa := ca; have ac := cb; have HB := cc; clear ca cb cc
            have cd : 0 ≤ (ab : Int) := zd
            have ce : ab < (af.length : Int) := zd
            obtain ⟨al, bm, bn, cX, au, av, an, ba, bb⟩ := at_T69 cl.out ab cd ce
            have aV := an; have aW := av; have aX := au
            cases cX
            replace au := (HB.out.cell (World.block_lt_of_cell? w _ au)).trans au
            replace av := (HB.out.cell (World.block_lt_of_cell? w _ av)).trans av
            replace an := (HB.out.cell (World.block_lt_of_cell? w _ an)).trans an
            have bM := zK bb; have cM := zK ba; clear bb ba; replace cd := eq_true cd; replace ce := eq_true ce
            have cf : 0 ≤ (ab : Int) := zd
            have cg : ab < (ag.length : Int) := zd
            obtain ⟨am, bo, bp, cY, aw, ax, ao, bc, bd⟩ := at_T69 cm.out ab cf cg
            have aY := ao; have aZ := ax; have a0 := aw
            cases cY
            replace aw := (HB.out.cell (World.block_lt_of_cell? w _ aw)).trans aw
            replace ax := (HB.out.cell (World.block_lt_of_cell? w _ ax)).trans ax
            replace ao := (HB.out.cell (World.block_lt_of_cell? w _ ao)).trans ao
            have bN := zK bd; have cN := zK bc; clear bd bc; replace cf := eq_true cf; replace cg := eq_true cg
            have cz : 0 ≤ (ab : Int) := zd
            have cA : ab < (af.length : Int) := zd
            obtain ⟨cZ, dM, dN, dO, aP, aQ, aC, bO, bP⟩ := at_T69 cl.out ab cz cA
            have bq := aC; have br := aQ; have bs := aP
            obtain rfl : al = cZ := (by injection dO)
            replace aP := (HB.out.cell (World.block_lt_of_cell? w _ aP)).trans aP
            replace aQ := (HB.out.cell (World.block_lt_of_cell? w _ aQ)).trans aQ
            replace aC := (HB.out.cell (World.block_lt_of_cell? w _ aC)).trans aC
            have co := zK bP; have dk := zK bO; clear bP bO; replace cz := eq_true cz; replace cA := eq_true cA
            have ea_ := Option.some.inj (an.symm.trans aC)
            injection ea_ with ea_ en_ ec_
            subst ea_; subst ec_; clear en_
            have cB : 0 ≤ (ab : Int) := zd
            have cC : ab < (ag.length : Int) := zd
            obtain ⟨c0, dP, dQ, dR, aR, aS, aD, bQ, bR⟩ := at_T69 cm.out ab cB cC
            have bu := aD; have bv := aS; have bw := aR
            obtain rfl : am = c0 := (by injection dR)
            replace aR := (HB.out.cell (World.block_lt_of_cell? w _ aR)).trans aR
            replace aS := (HB.out.cell (World.block_lt_of_cell? w _ aS)).trans aS
            replace aD := (HB.out.cell (World.block_lt_of_cell? w _ aD)).trans aD
            have cp := zK bR; have dl := zK bQ; clear bR bQ; replace cB := eq_true cB; replace cC := eq_true cC
            have ea_ := Option.some.inj (ao.symm.trans aD)
            injection ea_ with ea_ en_ ec_
            subst ea_; subst ec_; clear en_
            have dS : 0 ≤ (ab : Int) := zd
            have dT : ab < (af.length : Int) := zd
            obtain ⟨eb, A467_2, c467_2, e467, bS, bT, bI, cO, cP⟩ := at_T69 cl.out ab dS dT
            have b4 := bI; have b5 := bT; have b6 := bS
            obtain rfl : al = eb := (by injection e467)
            replace bS := (HB.out.cell (World.block_lt_of_cell? w _ bS)).trans bS
            replace bT := (HB.out.cell (World.block_lt_of_cell? w _ bT)).trans bT
            replace bI := (HB.out.cell (World.block_lt_of_cell? w _ bI)).trans bI
            have cQ := zK cP; have dm := zK cO; clear cP cO; replace dS := eq_true dS; replace dT := eq_true dT
            have ea_ := Option.some.inj (an.symm.trans bI)
            injection ea_ with ea_ en_ ec_
            subst ea_; subst ec_; clear en_
            have dU : 0 ≤ (ab : Int) := zd
            have dV : ab < (ag.length : Int) := zd
            obtain ⟨ec, A468_2, c468_2, e468, bU, bV, bJ, cR, cS⟩ := at_T69 cm.out ab dU dV
            have b7 := bJ; have b8 := bV; have b9 := bU
            obtain rfl : am = ec := (by injection e468)
            replace bU := (HB.out.cell (World.block_lt_of_cell? w _ bU)).trans bU
            replace bV := (HB.out.cell (World.block_lt_of_cell? w _ bV)).trans bV
            replace bJ := (HB.out.cell (World.block_lt_of_cell? w _ bJ)).trans bJ
            have cT := zK cS; have dn := zK cR; clear cS cR; replace dU := eq_true dU; replace dV := eq_true dV
            have ea_ := Option.some.inj (ao.symm.trans bJ)
            injection ea_ with ea_ en_ ec_
            subst ea_; subst ec_; clear en_
            refine start_ (n := 44) (S := fun w' => w'.cell? ⟨ad, 0, none⟩ = some (.slice aM ak.length aN) ∧ w'.cell? ⟨ad, 1, none⟩ = some (.int .i64 a0_1) ∧ w'.cell? ⟨ad, 2, none⟩ = some (.slice (some al) af.length a1) ∧ w'.cell? ⟨ad, 3, none⟩ = some (.slice a9 ah.length a2) ∧ w'.cell? ⟨ai, 0, none⟩ = some (.slice bi ap.length bj) ∧ w'.cell? ⟨ai, 1, none⟩ = some (.int .i64 a1_1) ∧ w'.cell? ⟨ai, 2, none⟩ = some (.slice (some am) ag.length bE) ∧ w'.cell? ⟨ai, 3, none⟩ = some (.slice bL aj.length bF) ∧ w'.cell? (al.add ((ab).toNat * 3)) = some (.int .i64 ((rd_T69 af ab).f0)) ∧ w'.cell? ⟨(al.add ((ab).toNat * 3)).block, (al.add ((ab).toNat * 3)).off + 1, none⟩ = some (.int .i64 ((rd_T69 af ab).f1)) ∧ w'.cell? ⟨(al.add ((ab).toNat * 3)).block, (al.add ((ab).toNat * 3)).off + 2, none⟩ = some (.slice bm ((rd_T69 af ab).f2).length bn) ∧ w'.cell? (am.add ((ab).toNat * 3)) = some (.int .i64 ((rd_T69 ag ab).f0)) ∧ w'.cell? ⟨(am.add ((ab).toNat * 3)).block, (am.add ((ab).toNat * 3)).off + 1, none⟩ = some (.int .i64 ((rd_T69 ag ab).f1)) ∧ w'.cell? ⟨(am.add ((ab).toNat * 3)).block, (am.add ((ab).toNat * 3)).off + 2, none⟩ = some (.slice bo ((rd_T69 ag ab).f2).length bp) ∧ w'.cell? (al.add ((ab).toNat * 3)) = some (.int .i64 ((rd_T69 af ab).f0)) ∧ w'.cell? ⟨(al.add ((ab).toNat * 3)).block, (al.add ((ab).toNat * 3)).off + 1, none⟩ = some (.int .i64 ((rd_T69 af ab).f1)) ∧ w'.cell? ⟨(al.add ((ab).toNat * 3)).block, (al.add ((ab).toNat * 3)).off + 2, none⟩ = some (.slice bm ((rd_T69 af ab).f2).length bn) ∧ w'.cell? (am.add ((ab).toNat * 3)) = some (.int .i64 ((rd_T69 ag ab).f0)) ∧ w'.cell? ⟨(am.add ((ab).toNat * 3)).block, (am.add ((ab).toNat * 3)).off + 1, none⟩ = some (.int .i64 ((rd_T69 ag ab).f1)) ∧ w'.cell? ⟨(am.add ((ab).toNat * 3)).block, (am.add ((ab).toNat * 3)).off + 2, none⟩ = some (.slice bo ((rd_T69 ag ab).f2).length bp) ∧ w'.cell? (al.add ((ab).toNat * 3)) = some (.int .i64 ((rd_T69 af ab).f0)) ∧ w'.cell? ⟨(al.add ((ab).toNat * 3)).block, (al.add ((ab).toNat * 3)).off + 1, none⟩ = some (.int .i64 ((rd_T69 af ab).f1)) ∧ w'.cell? ⟨(al.add ((ab).toNat * 3)).block, (al.add ((ab).toNat * 3)).off + 2, none⟩ = some (.slice bm ((rd_T69 af ab).f2).length bn) ∧ w'.cell? (am.add ((ab).toNat * 3)) = some (.int .i64 ((rd_T69 ag ab).f0)) ∧ w'.cell? ⟨(am.add ((ab).toNat * 3)).block, (am.add ((ab).toNat * 3)).off + 1, none⟩ = some (.int .i64 ((rd_T69 ag ab).f1)) ∧ w'.cell? ⟨(am.add ((ab).toNat * 3)).block, (am.add ((ab).toNat * 3)).off + 2, none⟩ = some (.slice bo ((rd_T69 ag ab).f2).length bp)) (ds := []) #[ff, ff, ff, ff, ff, ff, ff, ff, ff, ff, ff, ff, ff, ff, ff, ff, ff, ff, ff, ff, ff, ff, ff, ff, ff, ff, ff, ff, ff, ff, ff, ff, ff, ff, ff, ff, ff, ff, ff, ff, ff, ff, ff, ff] (by kernel_rfl) rfl rfl ⟨(blk_cell aa.out 0).trans rfl, (blk_cell aa.out 1).trans rfl, (blk_cell aa.out 2).trans rfl, (blk_cell aa.out 3).trans rfl, (blk_cell ac.out 0).trans rfl, (blk_cell ac.out 1).trans rfl, (blk_cell ac.out 2).trans rfl, (blk_cell ac.out 3).trans rfl, ((HB.out.cell (World.block_lt_of_cell? w _ aX)).trans aX), ((HB.out.cell (World.block_lt_of_cell? w _ aW)).trans aW), ((HB.out.cell (World.block_lt_of_cell? w _ aV)).trans aV), ((HB.out.cell (World.block_lt_of_cell? w _ a0)).trans a0), ((HB.out.cell (World.block_lt_of_cell? w _ aZ)).trans aZ), ((HB.out.cell (World.block_lt_of_cell? w _ aY)).trans aY), ((HB.out.cell (World.block_lt_of_cell? w _ bs)).trans bs), ((HB.out.cell (World.block_lt_of_cell? w _ br)).trans br), ((HB.out.cell (World.block_lt_of_cell? w _ bq)).trans bq), ((HB.out.cell (World.block_lt_of_cell? w _ bw)).trans bw), ((HB.out.cell (World.block_lt_of_cell? w _ bv)).trans bv), ((HB.out.cell (World.block_lt_of_cell? w _ bu)).trans bu), ((HB.out.cell (World.block_lt_of_cell? w _ b6)).trans b6), ((HB.out.cell (World.block_lt_of_cell? w _ b5)).trans b5), ((HB.out.cell (World.block_lt_of_cell? w _ b4)).trans b4), ((HB.out.cell (World.block_lt_of_cell? w _ b9)).trans b9), ((HB.out.cell (World.block_lt_of_cell? w _ b8)).trans b8), ((HB.out.cell (World.block_lt_of_cell? w _ b7)).trans b7)⟩ (fun hHeld => ?_); refine with_tabW laws_sameLoop.tab6 laws_sameLoop.bits6 (fun HT_ HW_ => ?_)
            generalize wr.drew = w32 at aa ac HB bM bN co cp cQ cT au av an aw ax ao aP aQ aC aR aS aD bS bT bI bU bV bJ hHeld ⊢
            refine zu 0 (some 45) #[tt, ff, ff, ff, ff, ff, ff, ff, ff, ff, ff, ff, ff, ff, ff, ff, ff, ff, ff, ff, ff, ff, ff, ff, ff, ff, ff, ff, ff, ff, ff, ff, ff, ff, ff, ff, ff, ff, ff, ff, ff, ff, ff, ff] (any_of HT_.out (by kernel_rfl)) ?_
            refine zu 2 (some 47) #[tt, ff, tt, ff, ff, ff, ff, ff, ff, ff, ff, ff, ff, ff, ff, ff, ff, ff, ff, ff, ff, ff, ff, ff, ff, ff, ff, ff, ff, ff, ff, ff, ff, ff, ff, ff, ff, ff, ff, ff, ff, ff, ff, ff] (any_of HT_.out (by kernel_rfl)) ?_
            refine zu 6 (some 51) #[tt, ff, tt, ff, ff, ff, tt, ff, ff, ff, ff, ff, ff, ff, ff, ff, ff, ff, ff, ff, ff, ff, ff, ff, ff, ff, ff, ff, ff, ff, ff, ff, ff, ff, ff, ff, ff, ff, ff, ff, ff, ff, ff, ff] (any_of HT_.out (by kernel_rfl)) ?_
            refine zu 8 (some 53) #[tt, ff, tt, ff, ff, ff, tt, ff, tt, ff, ff, ff, ff, ff, ff, ff, ff, ff, ff, ff, ff, ff, ff, ff, ff, ff, ff, ff, ff, ff, ff, ff, ff, ff, ff, ff, ff, ff, ff, ff, ff, ff, ff, ff] (any_of HT_.out (by kernel_rfl)) ?_
            refine zt 1 (some 46) #[tt, tt, tt, ff, ff, ff, tt, ff, tt, ff, ff, ff, ff, ff, ff, ff, ff, ff, ff, ff, ff, ff, ff, ff, ff, ff, ff, ff, ff, ff, ff, ff, ff, ff, ff, ff, ff, ff, ff, ff, ff, ff, ff, ff] (take_ofW HT_.out HW_.out (by kernel_rfl)) hHeld ?_
            refine zu 3 (some 48) #[tt, tt, tt, tt, ff, ff, tt, ff, tt, ff, ff, ff, ff, ff, ff, ff, ff, ff, ff, ff, ff, ff, ff, ff, ff, ff, ff, ff, ff, ff, ff, ff, ff, ff, ff, ff, ff, ff, ff, ff, ff, ff, ff, ff] (any_of HT_.out (by kernel_rfl)) ?_
            refine zu 4 (some 49) #[tt, tt, tt, tt, tt, ff, tt, ff, tt, ff, ff, ff, ff, ff, ff, ff, ff, ff, ff, ff, ff, ff, ff, ff, ff, ff, ff, ff, ff, ff, ff, ff, ff, ff, ff, ff, ff, ff, ff, ff, ff, ff, ff, ff] (any_of HT_.out (by kernel_rfl)) ?_
            refine zt 5 (some 50) #[tt, tt, tt, tt, tt, tt, tt, ff, tt, ff, ff, ff, ff, ff, ff, ff, ff, ff, ff, ff, ff, ff, ff, ff, ff, ff, ff, ff, ff, ff, ff, ff, ff, ff, ff, ff, ff, ff, ff, ff, ff, ff, ff, ff] (take_ofW HT_.out HW_.out (by kernel_rfl)) hHeld ?_
            refine zt 7 (some 52) #[tt, tt, tt, tt, tt, tt, tt, tt, tt, ff, ff, ff, ff, ff, ff, ff, ff, ff, ff, ff, ff, ff, ff, ff, ff, ff, ff, ff, ff, ff, ff, ff, ff, ff, ff, ff, ff, ff, ff, ff, ff, ff, ff, ff] (take_ofW HT_.out HW_.out (by kernel_rfl)) hHeld ?_
            refine zu 9 (some 54) #[tt, tt, tt, tt, tt, tt, tt, tt, tt, tt, ff, ff, ff, ff, ff, ff, ff, ff, ff, ff, ff, ff, ff, ff, ff, ff, ff, ff, ff, ff, ff, ff, ff, ff, ff, ff, ff, ff, ff, ff, ff, ff, ff, ff] (any_of HT_.out (by kernel_rfl)) ?_
            refine zu 10 (some 55) #[tt, tt, tt, tt, tt, tt, tt, tt, tt, tt, tt, ff, ff, ff, ff, ff, ff, ff, ff, ff, ff, ff, ff, ff, ff, ff, ff, ff, ff, ff, ff, ff, ff, ff, ff, ff, ff, ff, ff, ff, ff, ff, ff, ff] (any_of HT_.out (by kernel_rfl)) ?_
            refine zt 11 (some 56) #[tt, tt, tt, tt, tt, tt, tt, tt, tt, tt, tt, tt, ff, ff, ff, ff, ff, ff, ff, ff, ff, ff, ff, ff, ff, ff, ff, ff, ff, ff, ff, ff, ff, ff, ff, ff, ff, ff, ff, ff, ff, ff, ff, ff] (take_ofW HT_.out HW_.out (by kernel_rfl)) hHeld ?_
            refine zu 12 (some 57) #[tt, tt, tt, tt, tt, tt, tt, tt, tt, tt, tt, tt, tt, ff, ff, ff, ff, ff, ff, ff, ff, ff, ff, ff, ff, ff, ff, ff, ff, ff, ff, ff, ff, ff, ff, ff, ff, ff, ff, ff, ff, ff, ff, ff] (any_of HT_.out (by kernel_rfl)) ?_
            refine zu 13 (some 58) #[tt, tt, tt, tt, tt, tt, tt, tt, tt, tt, tt, tt, tt, tt, ff, ff, ff, ff, ff, ff, ff, ff, ff, ff, ff, ff, ff, ff, ff, ff, ff, ff, ff, ff, ff, ff, ff, ff, ff, ff, ff, ff, ff, ff] (any_of HT_.out (by kernel_rfl)) ?_
            refine zu 14 (some 59) #[tt, tt, tt, tt, tt, tt, tt, tt, tt, tt, tt, tt, tt, tt, tt, ff, ff, ff, ff, ff, ff, ff, ff, ff, ff, ff, ff, ff, ff, ff, ff, ff, ff, ff, ff, ff, ff, ff, ff, ff, ff, ff, ff, ff] (any_of HT_.out (by kernel_rfl)) ?_
            refine zu 16 (some 61) #[tt, tt, tt, tt, tt, tt, tt, tt, tt, tt, tt, tt, tt, tt, tt, ff, tt, ff, ff, ff, ff, ff, ff, ff, ff, ff, ff, ff, ff, ff, ff, ff, ff, ff, ff, ff, ff, ff, ff, ff, ff, ff, ff, ff] (any_of HT_.out (by kernel_rfl)) ?_
            refine zu 20 (some 65) #[tt, tt, tt, tt, tt, tt, tt, tt, tt, tt, tt, tt, tt, tt, tt, ff, tt, ff, ff, ff, tt, ff, ff, ff, ff, ff, ff, ff, ff, ff, ff, ff, ff, ff, ff, ff, ff, ff, ff, ff, ff, ff, ff, ff] (any_of HT_.out (by kernel_rfl)) ?_
            refine zu 22 (some 67) #[tt, tt, tt, tt, tt, tt, tt, tt, tt, tt, tt, tt, tt, tt, tt, ff, tt, ff, ff, ff, tt, ff, tt, ff, ff, ff, ff, ff, ff, ff, ff, ff, ff, ff, ff, ff, ff, ff, ff, ff, ff, ff, ff, ff] (any_of HT_.out (by kernel_rfl)) ?_
            refine zt 15 (some 60) #[tt, tt, tt, tt, tt, tt, tt, tt, tt, tt, tt, tt, tt, tt, tt, tt, tt, ff, ff, ff, tt, ff, tt, ff, ff, ff, ff, ff, ff, ff, ff, ff, ff, ff, ff, ff, ff, ff, ff, ff, ff, ff, ff, ff] (take_ofW HT_.out HW_.out (by kernel_rfl)) hHeld ?_
            refine zu 17 (some 62) #[tt, tt, tt, tt, tt, tt, tt, tt, tt, tt, tt, tt, tt, tt, tt, tt, tt, tt, ff, ff, tt, ff, tt, ff, ff, ff, ff, ff, ff, ff, ff, ff, ff, ff, ff, ff, ff, ff, ff, ff, ff, ff, ff, ff] (any_of HT_.out (by kernel_rfl)) ?_
            refine zu 18 (some 63) #[tt, tt, tt, tt, tt, tt, tt, tt, tt, tt, tt, tt, tt, tt, tt, tt, tt, tt, tt, ff, tt, ff, tt, ff, ff, ff, ff, ff, ff, ff, ff, ff, ff, ff, ff, ff, ff, ff, ff, ff, ff, ff, ff, ff] (any_of HT_.out (by kernel_rfl)) ?_
            refine zt 19 (some 64) #[tt, tt, tt, tt, tt, tt, tt, tt, tt, tt, tt, tt, tt, tt, tt, tt, tt, tt, tt, tt, tt, ff, tt, ff, ff, ff, ff, ff, ff, ff, ff, ff, ff, ff, ff, ff, ff, ff, ff, ff, ff, ff, ff, ff] (take_ofW HT_.out HW_.out (by kernel_rfl)) hHeld ?_
            refine zt 21 (some 66) #[tt, tt, tt, tt, tt, tt, tt, tt, tt, tt, tt, tt, tt, tt, tt, tt, tt, tt, tt, tt, tt, tt, tt, ff, ff, ff, ff, ff, ff, ff, ff, ff, ff, ff, ff, ff, ff, ff, ff, ff, ff, ff, ff, ff] (take_ofW HT_.out HW_.out (by kernel_rfl)) hHeld ?_
            refine zu 23 (some 68) #[tt, tt, tt, tt, tt, tt, tt, tt, tt, tt, tt, tt, tt, tt, tt, tt, tt, tt, tt, tt, tt, tt, tt, tt, ff, ff, ff, ff, ff, ff, ff, ff, ff, ff, ff, ff, ff, ff, ff, ff, ff, ff, ff, ff] (any_of HT_.out (by kernel_rfl)) ?_
            refine zu 24 (some 69) #[tt, tt, tt, tt, tt, tt, tt, tt, tt, tt, tt, tt, tt, tt, tt, tt, tt, tt, tt, tt, tt, tt, tt, tt, tt, ff, ff, ff, ff, ff, ff, ff, ff, ff, ff, ff, ff, ff, ff, ff, ff, ff, ff, ff] (any_of HT_.out (by kernel_rfl)) ?_
            refine zt 25 (some 70) #[tt, tt, tt, tt, tt, tt, tt, tt, tt, tt, tt, tt, tt, tt, tt, tt, tt, tt, tt, tt, tt, tt, tt, tt, tt, tt, ff, ff, ff, ff, ff, ff, ff, ff, ff, ff, ff, ff, ff, ff, ff, ff, ff, ff] (take_ofW HT_.out HW_.out (by kernel_rfl)) hHeld ?_
            refine zu 26 (some 71) #[tt, tt, tt, tt, tt, tt, tt, tt, tt, tt, tt, tt, tt, tt, tt, tt, tt, tt, tt, tt, tt, tt, tt, tt, tt, tt, tt, ff, ff, ff, ff, ff, ff, ff, ff, ff, ff, ff, ff, ff, ff, ff, ff, ff] (any_of HT_.out (by kernel_rfl)) ?_
            refine zu 27 (some 72) #[tt, tt, tt, tt, tt, tt, tt, tt, tt, tt, tt, tt, tt, tt, tt, tt, tt, tt, tt, tt, tt, tt, tt, tt, tt, tt, tt, tt, ff, ff, ff, ff, ff, ff, ff, ff, ff, ff, ff, ff, ff, ff, ff, ff] (any_of HT_.out (by kernel_rfl)) ?_
            refine zu 28 (some 73) #[tt, tt, tt, tt, tt, tt, tt, tt, tt, tt, tt, tt, tt, tt, tt, tt, tt, tt, tt, tt, tt, tt, tt, tt, tt, tt, tt, tt, tt, ff, ff, ff, ff, ff, ff, ff, ff, ff, ff, ff, ff, ff, ff, ff] (any_of HT_.out (by kernel_rfl)) ?_
            refine zu 29 (some 74) #[tt, tt, tt, tt, tt, tt, tt, tt, tt, tt, tt, tt, tt, tt, tt, tt, tt, tt, tt, tt, tt, tt, tt, tt, tt, tt, tt, tt, tt, tt, ff, ff, ff, ff, ff, ff, ff, ff, ff, ff, ff, ff, ff, ff] (any_of HT_.out (by kernel_rfl)) ?_
            refine zu 31 (some 76) #[tt, tt, tt, tt, tt, tt, tt, tt, tt, tt, tt, tt, tt, tt, tt, tt, tt, tt, tt, tt, tt, tt, tt, tt, tt, tt, tt, tt, tt, tt, ff, tt, ff, ff, ff, ff, ff, ff, ff, ff, ff, ff, ff, ff] (any_of HT_.out (by kernel_rfl)) ?_
            refine zu 35 (some 80) #[tt, tt, tt, tt, tt, tt, tt, tt, tt, tt, tt, tt, tt, tt, tt, tt, tt, tt, tt, tt, tt, tt, tt, tt, tt, tt, tt, tt, tt, tt, ff, tt, ff, ff, ff, tt, ff, ff, ff, ff, ff, ff, ff, ff] (any_of HT_.out (by kernel_rfl)) ?_
            refine zu 37 (some 82) #[tt, tt, tt, tt, tt, tt, tt, tt, tt, tt, tt, tt, tt, tt, tt, tt, tt, tt, tt, tt, tt, tt, tt, tt, tt, tt, tt, tt, tt, tt, ff, tt, ff, ff, ff, tt, ff, tt, ff, ff, ff, ff, ff, ff] (any_of HT_.out (by kernel_rfl)) ?_
            refine zt 30 (some 75) #[tt, tt, tt, tt, tt, tt, tt, tt, tt, tt, tt, tt, tt, tt, tt, tt, tt, tt, tt, tt, tt, tt, tt, tt, tt, tt, tt, tt, tt, tt, tt, tt, ff, ff, ff, tt, ff, tt, ff, ff, ff, ff, ff, ff] (take_ofW HT_.out HW_.out (by kernel_rfl)) hHeld ?_
            refine zu 32 (some 77) #[tt, tt, tt, tt, tt, tt, tt, tt, tt, tt, tt, tt, tt, tt, tt, tt, tt, tt, tt, tt, tt, tt, tt, tt, tt, tt, tt, tt, tt, tt, tt, tt, tt, ff, ff, tt, ff, tt, ff, ff, ff, ff, ff, ff] (any_of HT_.out (by kernel_rfl)) ?_
            refine zu 33 (some 78) #[tt, tt, tt, tt, tt, tt, tt, tt, tt, tt, tt, tt, tt, tt, tt, tt, tt, tt, tt, tt, tt, tt, tt, tt, tt, tt, tt, tt, tt, tt, tt, tt, tt, tt, ff, tt, ff, tt, ff, ff, ff, ff, ff, ff] (any_of HT_.out (by kernel_rfl)) ?_
            refine zt 34 (some 79) #[tt, tt, tt, tt, tt, tt, tt, tt, tt, tt, tt, tt, tt, tt, tt, tt, tt, tt, tt, tt, tt, tt, tt, tt, tt, tt, tt, tt, tt, tt, tt, tt, tt, tt, tt, tt, ff, tt, ff, ff, ff, ff, ff, ff] (take_ofW HT_.out HW_.out (by kernel_rfl)) hHeld ?_
            refine zt 36 (some 81) #[tt, tt, tt, tt, tt, tt, tt, tt, tt, tt, tt, tt, tt, tt, tt, tt, tt, tt, tt, tt, tt, tt, tt, tt, tt, tt, tt, tt, tt, tt, tt, tt, tt, tt, tt, tt, tt, tt, ff, ff, ff, ff, ff, ff] (take_ofW HT_.out HW_.out (by kernel_rfl)) hHeld ?_
            refine zu 38 (some 83) #[tt, tt, tt, tt, tt, tt, tt, tt, tt, tt, tt, tt, tt, tt, tt, tt, tt, tt, tt, tt, tt, tt, tt, tt, tt, tt, tt, tt, tt, tt, tt, tt, tt, tt, tt, tt, tt, tt, tt, ff, ff, ff, ff, ff] (any_of HT_.out (by kernel_rfl)) ?_
            refine zu 39 (some 84) #[tt, tt, tt, tt, tt, tt, tt, tt, tt, tt, tt, tt, tt, tt, tt, tt, tt, tt, tt, tt, tt, tt, tt, tt, tt, tt, tt, tt, tt, tt, tt, tt, tt, tt, tt, tt, tt, tt, tt, tt, ff, ff, ff, ff] (any_of HT_.out (by kernel_rfl)) ?_
            refine zt 40 (some 85) #[tt, tt, tt, tt, tt, tt, tt, tt, tt, tt, tt, tt, tt, tt, tt, tt, tt, tt, tt, tt, tt, tt, tt, tt, tt, tt, tt, tt, tt, tt, tt, tt, tt, tt, tt, tt, tt, tt, tt, tt, tt, ff, ff, ff] (take_ofW HT_.out HW_.out (by kernel_rfl)) hHeld ?_
            refine one_ (i := 41) (N := some 86) #[tt, tt, tt, tt, tt, tt, tt, tt, tt, tt, tt, tt, tt, tt, tt, tt, tt, tt, tt, tt, tt, tt, tt, tt, tt, tt, tt, tt, tt, tt, tt, tt, tt, tt, tt, tt, tt, tt, tt, tt, tt, tt, ff, ff] rfl rfl (one_of HT_.out (by kernel_rfl)) (by decide) (fun K hK => ?_)
            refine goes_ Try.func27 (by kernel_rfl) rfl #[.slice bm ((rd_T69 af ab).f2).length bn, .slice bo ((rd_T69 ag ab).f2).length bp] (by rfl) rfl rfl zg ?_
            with_reducible refine (laws_sameInts.calls k2 _ _ ((rd_T69 af ab).f2) _ _ ((rd_T69 ag ab).f2) dL _ ?side1 ?side2 ?side3 ?side4 A31.out).mono ?_
            (case side1 => exact zs (Kd.C_below cQ.out HB.out))
            (case side2 => exact dm.out)
            (case side3 => exact zs (Kd.C_below cT.out HB.out))
            (case side4 => exact dn.out)
            rintro e w' ⟨rfl, ⟨nd, rfl⟩⟩
            refine ⟨_, rfl, ?_⟩
            refine hK.out _ _ ⟨(blk_cell aa.out 0).trans rfl, (blk_cell aa.out 1).trans rfl, (blk_cell aa.out 2).trans rfl, (blk_cell aa.out 3).trans rfl, (blk_cell ac.out 0).trans rfl, (blk_cell ac.out 1).trans rfl, (blk_cell ac.out 2).trans rfl, (blk_cell ac.out 3).trans rfl, ((HB.out.cell (World.block_lt_of_cell? w _ aX)).trans aX), ((HB.out.cell (World.block_lt_of_cell? w _ aW)).trans aW), ((HB.out.cell (World.block_lt_of_cell? w _ aV)).trans aV), ((HB.out.cell (World.block_lt_of_cell? w _ a0)).trans a0), ((HB.out.cell (World.block_lt_of_cell? w _ aZ)).trans aZ), ((HB.out.cell (World.block_lt_of_cell? w _ aY)).trans aY), ((HB.out.cell (World.block_lt_of_cell? w _ bs)).trans bs), ((HB.out.cell (World.block_lt_of_cell? w _ br)).trans br), ((HB.out.cell (World.block_lt_of_cell? w _ bq)).trans bq), ((HB.out.cell (World.block_lt_of_cell? w _ bw)).trans bw), ((HB.out.cell (World.block_lt_of_cell? w _ bv)).trans bv), ((HB.out.cell (World.block_lt_of_cell? w _ bu)).trans bu), ((HB.out.cell (World.block_lt_of_cell? w _ b6)).trans b6), ((HB.out.cell (World.block_lt_of_cell? w _ b5)).trans b5), ((HB.out.cell (World.block_lt_of_cell? w _ b4)).trans b4), ((HB.out.cell (World.block_lt_of_cell? w _ b9)).trans b9), ((HB.out.cell (World.block_lt_of_cell? w _ b8)).trans b8), ((HB.out.cell (World.block_lt_of_cell? w _ b7)).trans b7)⟩ (fun hHeld => ?_)
            clear hK K
            refine norm_ (a' := ?_) ?_ ?_
            rotate_left
            ·show Act.put _ (some 86) _ = _
             simp only [Act.put, zp, zq, zr, i64_w, i32_w]
             rfl
            refine zu 42 (some 87) #[tt, tt, tt, tt, tt, tt, tt, tt, tt, tt, tt, tt, tt, tt, tt, tt, tt, tt, tt, tt, tt, tt, tt, tt, tt, tt, tt, tt, tt, tt, tt, tt, tt, tt, tt, tt, tt, tt, tt, tt, tt, tt, tt, ff] (any_of HT_.out (by kernel_rfl)) ?_
            refine zu 43 (some 88) #[tt, tt, tt, tt, tt, tt, tt, tt, tt, tt, tt, tt, tt, tt, tt, tt, tt, tt, tt, tt, tt, tt, tt, tt, tt, tt, tt, tt, tt, tt, tt, tt, tt, tt, tt, tt, tt, tt, tt, tt, tt, tt, tt, tt] (any_of HT_.out (by kernel_rfl)) ?_
            refine done_ (done_of HT_.out (by kernel_rfl)) ?_
            try go_wp2
            go_meet
            case rel => exact ⟨_, (!dL), zf, H', ⟨by have := dG.out; have := dH.out; first | omega | exact Nat.le_refl _⟩, ⟨zk aa⟩, ⟨zk ac⟩, ⟨zb HB⟩⟩
           ·rw [if_neg dK] at H
            have d8 : (((rd_T69 af ab).f1) == ((rd_T69 ag ab).f1)) = false := beq_eq_false_iff_ne.mpr dK
            have d9 : (((rd_T69 af ab).f1) != ((rd_T69 ag ab).f1)) = true := bne_iff_ne.mpr dK
            have H' := zK H; clear H
            try go_wp2
            have ca := zK (zD aa.out)
            have cb := zK (zD ac.out)
            have cc := zK (zE HB.out)
            clear aa ac HB; have aa := ca; have ac := cb; have HB := cc; clear ca cb cc
            have cd : 0 ≤ (ab : Int) := zd
            have ce : ab < (af.length : Int) := zd
            obtain ⟨al, bm, bn, cX, au, av, an, ba, bb⟩ := at_T69 cl.out ab cd ce
            have aV := an; have aW := av; have aX := au
            cases cX
            replace au := (HB.out.cell (World.block_lt_of_cell? w _ au)).trans au
            replace av := (HB.out.cell (World.block_lt_of_cell? w _ av)).trans av
            replace an := (HB.out.cell (World.block_lt_of_cell? w _ an)).trans an
            have bM := zK bb; have cM := zK ba; clear bb ba; replace cd := eq_true cd; replace ce := eq_true ce
            have cf : 0 ≤ (ab : Int) := zd
            have cg : ab < (ag.length : Int) := zd
            obtain ⟨am, bo, bp, cY, aw, ax, ao, bc, bd⟩ := at_T69 cm.out ab cf cg
            have aY := ao; have aZ := ax; have a0 := aw
            cases cY
            replace aw := (HB.out.cell (World.block_lt_of_cell? w _ aw)).trans aw
            replace ax := (HB.out.cell (World.block_lt_of_cell? w _ ax)).trans ax
            replace ao := (HB.out.cell (World.block_lt_of_cell? w _ ao)).trans ao
            have bN := zK bd; have cN := zK bc; clear bd bc; replace cf := eq_true cf; replace cg := eq_true cg
            have cz : 0 ≤ (ab : Int) := zd
            have cA : ab < (af.length : Int) := zd
            obtain ⟨cZ, dM, dN, dO, aP, aQ, aC, bO, bP⟩ := at_T69 cl.out ab cz cA
            have bq := aC; have br := aQ; have bs := aP
            obtain rfl : al = cZ := (by injection dO)
            replace aP := (HB.out.cell (World.block_lt_of_cell? w _ aP)).trans aP
            replace aQ := (HB.out.cell (World.block_lt_of_cell? w _ aQ)).trans aQ
            replace aC := (HB.out.cell (World.block_lt_of_cell? w _ aC)).trans aC
            have co := zK bP; have dk := zK bO; clear bP bO; replace cz := eq_true cz; replace cA := eq_true cA
            have ea_ := Option.some.inj (an.symm.trans aC)
            injection ea_ with ea_ en_ ec_
            subst ea_; subst ec_; clear en_
            have cB : 0 ≤ (ab : Int) := zd
            have cC : ab < (ag.length : Int) := zd
            obtain ⟨c0, dP, dQ, dR, aR, aS, aD, bQ, bR⟩ := at_T69 cm.out ab cB cC
            have bu := aD; have bv := aS; have bw := aR
            obtain rfl : am = c0 := (by injection dR)
            replace aR := (HB.out.cell (World.block_lt_of_cell? w _ aR)).trans aR
            replace aS := (HB.out.cell (World.block_lt_of_cell? w _ aS)).trans aS
            replace aD := (HB.out.cell (World.block_lt_of_cell? w _ aD)).trans aD
            have cp := zK bR; have dl := zK bQ; clear bR bQ; replace cB := eq_true cB; replace cC := eq_true cC
            have ea_ := Option.some.inj (ao.symm.trans aD)
            injection ea_ with ea_ en_ ec_
            subst ea_; subst ec_; clear en_
            refine start_ (n := 44) (S := fun w' => w'.cell? ⟨ad, 0, none⟩ = some (.slice aM ak.length aN) ∧ w'.cell? ⟨ad, 1, none⟩ = some (.int .i64 a0_1) ∧ w'.cell? ⟨ad, 2, none⟩ = some (.slice (some al) af.length a1) ∧ w'.cell? ⟨ad, 3, none⟩ = some (.slice a9 ah.length a2) ∧ w'.cell? ⟨ai, 0, none⟩ = some (.slice bi ap.length bj) ∧ w'.cell? ⟨ai, 1, none⟩ = some (.int .i64 a1_1) ∧ w'.cell? ⟨ai, 2, none⟩ = some (.slice (some am) ag.length bE) ∧ w'.cell? ⟨ai, 3, none⟩ = some (.slice bL aj.length bF) ∧ w'.cell? (al.add ((ab).toNat * 3)) = some (.int .i64 ((rd_T69 af ab).f0)) ∧ w'.cell? ⟨(al.add ((ab).toNat * 3)).block, (al.add ((ab).toNat * 3)).off + 1, none⟩ = some (.int .i64 ((rd_T69 af ab).f1)) ∧ w'.cell? ⟨(al.add ((ab).toNat * 3)).block, (al.add ((ab).toNat * 3)).off + 2, none⟩ = some (.slice bm ((rd_T69 af ab).f2).length bn) ∧ w'.cell? (am.add ((ab).toNat * 3)) = some (.int .i64 ((rd_T69 ag ab).f0)) ∧ w'.cell? ⟨(am.add ((ab).toNat * 3)).block, (am.add ((ab).toNat * 3)).off + 1, none⟩ = some (.int .i64 ((rd_T69 ag ab).f1)) ∧ w'.cell? ⟨(am.add ((ab).toNat * 3)).block, (am.add ((ab).toNat * 3)).off + 2, none⟩ = some (.slice bo ((rd_T69 ag ab).f2).length bp) ∧ w'.cell? (al.add ((ab).toNat * 3)) = some (.int .i64 ((rd_T69 af ab).f0)) ∧ w'.cell? ⟨(al.add ((ab).toNat * 3)).block, (al.add ((ab).toNat * 3)).off + 1, none⟩ = some (.int .i64 ((rd_T69 af ab).f1)) ∧ w'.cell? ⟨(al.add ((ab).toNat * 3)).block, (al.add ((ab).toNat * 3)).off + 2, none⟩ = some (.slice bm ((rd_T69 af ab).f2).length bn) ∧ w'.cell? (am.add ((ab).toNat * 3)) = some (.int .i64 ((rd_T69 ag ab).f0)) ∧ w'.cell? ⟨(am.add ((ab).toNat * 3)).block, (am.add ((ab).toNat * 3)).off + 1, none⟩ = some (.int .i64 ((rd_T69 ag ab).f1)) ∧ w'.cell? ⟨(am.add ((ab).toNat * 3)).block, (am.add ((ab).toNat * 3)).off + 2, none⟩ = some (.slice bo ((rd_T69 ag ab).f2).length bp)) (ds := []) #[ff, ff, ff, ff, ff, ff, ff, ff, ff, ff, ff, ff, ff, ff, ff, ff, ff, ff, ff, ff, ff, ff, ff, ff, ff, ff, ff, ff, ff, ff, ff, ff, ff, ff, ff, ff, ff, ff, ff, ff, ff, ff, ff, ff] (by kernel_rfl) rfl rfl ⟨(blk_cell aa.out 0).trans rfl, (blk_cell aa.out 1).trans rfl, (blk_cell aa.out 2).trans rfl, (blk_cell aa.out 3).trans rfl, (blk_cell ac.out 0).trans rfl, (blk_cell ac.out 1).trans rfl, (blk_cell ac.out 2).trans rfl, (blk_cell ac.out 3).trans rfl, ((HB.out.cell (World.block_lt_of_cell? w _ aX)).trans aX), ((HB.out.cell (World.block_lt_of_cell? w _ aW)).trans aW), ((HB.out.cell (World.block_lt_of_cell? w _ aV)).trans aV), ((HB.out.cell (World.block_lt_of_cell? w _ a0)).trans a0), ((HB.out.cell (World.block_lt_of_cell? w _ aZ)).trans aZ), ((HB.out.cell (World.block_lt_of_cell? w _ aY)).trans aY), ((HB.out.cell (World.block_lt_of_cell? w _ bs)).trans bs), ((HB.out.cell (World.block_lt_of_cell? w _ br)).trans br), ((HB.out.cell (World.block_lt_of_cell? w _ bq)).trans bq), ((HB.out.cell (World.block_lt_of_cell? w _ bw)).trans bw), ((HB.out.cell (World.block_lt_of_cell? w _ bv)).trans bv), ((HB.out.cell (World.block_lt_of_cell? w _ bu)).trans bu)⟩ (fun hHeld => ?_); refine with_tabW laws_sameLoop.tab6 laws_sameLoop.bits6 (fun HT_ HW_ => ?_)
            generalize wr.drew = w33 at aa ac HB bM bN co cp au av an aw ax ao aP aQ aC aR aS aD hHeld ⊢
            refine zu 0 (some 45) #[tt, ff, ff, ff, ff, ff, ff, ff, ff, ff, ff, ff, ff, ff, ff, ff, ff, ff, ff, ff, ff, ff, ff, ff, ff, ff, ff, ff, ff, ff, ff, ff, ff, ff, ff, ff, ff, ff, ff, ff, ff, ff, ff, ff] (any_of HT_.out (by kernel_rfl)) ?_
            refine zu 2 (some 47) #[tt, ff, tt, ff, ff, ff, ff, ff, ff, ff, ff, ff, ff, ff, ff, ff, ff, ff, ff, ff, ff, ff, ff, ff, ff, ff, ff, ff, ff, ff, ff, ff, ff, ff, ff, ff, ff, ff, ff, ff, ff, ff, ff, ff] (any_of HT_.out (by kernel_rfl)) ?_
            refine zu 6 (some 51) #[tt, ff, tt, ff, ff, ff, tt, ff, ff, ff, ff, ff, ff, ff, ff, ff, ff, ff, ff, ff, ff, ff, ff, ff, ff, ff, ff, ff, ff, ff, ff, ff, ff, ff, ff, ff, ff, ff, ff, ff, ff, ff, ff, ff] (any_of HT_.out (by kernel_rfl)) ?_
            refine zu 8 (some 53) #[tt, ff, tt, ff, ff, ff, tt, ff, tt, ff, ff, ff, ff, ff, ff, ff, ff, ff, ff, ff, ff, ff, ff, ff, ff, ff, ff, ff, ff, ff, ff, ff, ff, ff, ff, ff, ff, ff, ff, ff, ff, ff, ff, ff] (any_of HT_.out (by kernel_rfl)) ?_
            refine zt 1 (some 46) #[tt, tt, tt, ff, ff, ff, tt, ff, tt, ff, ff, ff, ff, ff, ff, ff, ff, ff, ff, ff, ff, ff, ff, ff, ff, ff, ff, ff, ff, ff, ff, ff, ff, ff, ff, ff, ff, ff, ff, ff, ff, ff, ff, ff] (take_ofW HT_.out HW_.out (by kernel_rfl)) hHeld ?_
            refine zu 3 (some 48) #[tt, tt, tt, tt, ff, ff, tt, ff, tt, ff, ff, ff, ff, ff, ff, ff, ff, ff, ff, ff, ff, ff, ff, ff, ff, ff, ff, ff, ff, ff, ff, ff, ff, ff, ff, ff, ff, ff, ff, ff, ff, ff, ff, ff] (any_of HT_.out (by kernel_rfl)) ?_
            refine zu 4 (some 49) #[tt, tt, tt, tt, tt, ff, tt, ff, tt, ff, ff, ff, ff, ff, ff, ff, ff, ff, ff, ff, ff, ff, ff, ff, ff, ff, ff, ff, ff, ff, ff, ff, ff, ff, ff, ff, ff, ff, ff, ff, ff, ff, ff, ff] (any_of HT_.out (by kernel_rfl)) ?_
            refine zt 5 (some 50) #[tt, tt, tt, tt, tt, tt, tt, ff, tt, ff, ff, ff, ff, ff, ff, ff, ff, ff, ff, ff, ff, ff, ff, ff, ff, ff, ff, ff, ff, ff, ff, ff, ff, ff, ff, ff, ff, ff, ff, ff, ff, ff, ff, ff] (take_ofW HT_.out HW_.out (by kernel_rfl)) hHeld ?_
            refine zt 7 (some 52) #[tt, tt, tt, tt, tt, tt, tt, tt, tt, ff, ff, ff, ff, ff, ff, ff, ff, ff, ff, ff, ff, ff, ff, ff, ff, ff, ff, ff, ff, ff, ff, ff, ff, ff, ff, ff, ff, ff, ff, ff, ff, ff, ff, ff] (take_ofW HT_.out HW_.out (by kernel_rfl)) hHeld ?_
            refine zu 9 (some 54) #[tt, tt, tt, tt, tt, tt, tt, tt, tt, tt, ff, ff, ff, ff, ff, ff, ff, ff, ff, ff, ff, ff, ff, ff, ff, ff, ff, ff, ff, ff, ff, ff, ff, ff, ff, ff, ff, ff, ff, ff, ff, ff, ff, ff] (any_of HT_.out (by kernel_rfl)) ?_
            refine zu 10 (some 55) #[tt, tt, tt, tt, tt, tt, tt, tt, tt, tt, tt, ff, ff, ff, ff, ff, ff, ff, ff, ff, ff, ff, ff, ff, ff, ff, ff, ff, ff, ff, ff, ff, ff, ff, ff, ff, ff, ff, ff, ff, ff, ff, ff, ff] (any_of HT_.out (by kernel_rfl)) ?_
            refine zt 11 (some 56) #[tt, tt, tt, tt, tt, tt, tt, tt, tt, tt, tt, tt, ff, ff, ff, ff, ff, ff, ff, ff, ff, ff, ff, ff, ff, ff, ff, ff, ff, ff, ff, ff, ff, ff, ff, ff, ff, ff, ff, ff, ff, ff, ff, ff] (take_ofW HT_.out HW_.out (by kernel_rfl)) hHeld ?_
            refine zu 12 (some 57) #[tt, tt, tt, tt, tt, tt, tt, tt, tt, tt, tt, tt, tt, ff, ff, ff, ff, ff, ff, ff, ff, ff, ff, ff, ff, ff, ff, ff, ff, ff, ff, ff, ff, ff, ff, ff, ff, ff, ff, ff, ff, ff, ff, ff] (any_of HT_.out (by kernel_rfl)) ?_
            refine zu 13 (some 58) #[tt, tt, tt, tt, tt, tt, tt, tt, tt, tt, tt, tt, tt, tt, ff, ff, ff, ff, ff, ff, ff, ff, ff, ff, ff, ff, ff, ff, ff, ff, ff, ff, ff, ff, ff, ff, ff, ff, ff, ff, ff, ff, ff, ff] (any_of HT_.out (by kernel_rfl)) ?_
            refine zu 14 (some 59) #[tt, tt, tt, tt, tt, tt, tt, tt, tt, tt, tt, tt, tt, tt, tt, ff, ff, ff, ff, ff, ff, ff, ff, ff, ff, ff, ff, ff, ff, ff, ff, ff, ff, ff, ff, ff, ff, ff, ff, ff, ff, ff, ff, ff] (any_of HT_.out (by kernel_rfl)) ?_
            refine zu 16 (some 61) #[tt, tt, tt, tt, tt, tt, tt, tt, tt, tt, tt, tt, tt, tt, tt, ff, tt, ff, ff, ff, ff, ff, ff, ff, ff, ff, ff, ff, ff, ff, ff, ff, ff, ff, ff, ff, ff, ff, ff, ff, ff, ff, ff, ff] (any_of HT_.out (by kernel_rfl)) ?_
            refine zu 20 (some 65) #[tt, tt, tt, tt, tt, tt, tt, tt, tt, tt, tt, tt, tt, tt, tt, ff, tt, ff, ff, ff, tt, ff, ff, ff, ff, ff, ff, ff, ff, ff, ff, ff, ff, ff, ff, ff, ff, ff, ff, ff, ff, ff, ff, ff] (any_of HT_.out (by kernel_rfl)) ?_
            refine zu 22 (some 67) #[tt, tt, tt, tt, tt, tt, tt, tt, tt, tt, tt, tt, tt, tt, tt, ff, tt, ff, ff, ff, tt, ff, tt, ff, ff, ff, ff, ff, ff, ff, ff, ff, ff, ff, ff, ff, ff, ff, ff, ff, ff, ff, ff, ff] (any_of HT_.out (by kernel_rfl)) ?_
            refine zt 15 (some 60) #[tt, tt, tt, tt, tt, tt, tt, tt, tt, tt, tt, tt, tt, tt, tt, tt, tt, ff, ff, ff, tt, ff, tt, ff, ff, ff, ff, ff, ff, ff, ff, ff, ff, ff, ff, ff, ff, ff, ff, ff, ff, ff, ff, ff] (take_ofW HT_.out HW_.out (by kernel_rfl)) hHeld ?_
            refine zu 17 (some 62) #[tt, tt, tt, tt, tt, tt, tt, tt, tt, tt, tt, tt, tt, tt, tt, tt, tt, tt, ff, ff, tt, ff, tt, ff, ff, ff, ff, ff, ff, ff, ff, ff, ff, ff, ff, ff, ff, ff, ff, ff, ff, ff, ff, ff] (any_of HT_.out (by kernel_rfl)) ?_
            refine zu 18 (some 63) #[tt, tt, tt, tt, tt, tt, tt, tt, tt, tt, tt, tt, tt, tt, tt, tt, tt, tt, tt, ff, tt, ff, tt, ff, ff, ff, ff, ff, ff, ff, ff, ff, ff, ff, ff, ff, ff, ff, ff, ff, ff, ff, ff, ff] (any_of HT_.out (by kernel_rfl)) ?_
            refine zt 19 (some 64) #[tt, tt, tt, tt, tt, tt, tt, tt, tt, tt, tt, tt, tt, tt, tt, tt, tt, tt, tt, tt, tt, ff, tt, ff, ff, ff, ff, ff, ff, ff, ff, ff, ff, ff, ff, ff, ff, ff, ff, ff, ff, ff, ff, ff] (take_ofW HT_.out HW_.out (by kernel_rfl)) hHeld ?_
            refine zt 21 (some 66) #[tt, tt, tt, tt, tt, tt, tt, tt, tt, tt, tt, tt, tt, tt, tt, tt, tt, tt, tt, tt, tt, tt, tt, ff, ff, ff, ff, ff, ff, ff, ff, ff, ff, ff, ff, ff, ff, ff, ff, ff, ff, ff, ff, ff] (take_ofW HT_.out HW_.out (by kernel_rfl)) hHeld ?_
            refine zu 23 (some 68) #[tt, tt, tt, tt, tt, tt, tt, tt, tt, tt, tt, tt, tt, tt, tt, tt, tt, tt, tt, tt, tt, tt, tt, tt, ff, ff, ff, ff, ff, ff, ff, ff, ff, ff, ff, ff, ff, ff, ff, ff, ff, ff, ff, ff] (any_of HT_.out (by kernel_rfl)) ?_
            refine zu 24 (some 69) #[tt, tt, tt, tt, tt, tt, tt, tt, tt, tt, tt, tt, tt, tt, tt, tt, tt, tt, tt, tt, tt, tt, tt, tt, tt, ff, ff, ff, ff, ff, ff, ff, ff, ff, ff, ff, ff, ff, ff, ff, ff, ff, ff, ff] (any_of HT_.out (by kernel_rfl)) ?_
            refine zt 25 (some 70) #[tt, tt, tt, tt, tt, tt, tt, tt, tt, tt, tt, tt, tt, tt, tt, tt, tt, tt, tt, tt, tt, tt, tt, tt, tt, tt, ff, ff, ff, ff, ff, ff, ff, ff, ff, ff, ff, ff, ff, ff, ff, ff, ff, ff] (take_ofW HT_.out HW_.out (by kernel_rfl)) hHeld ?_
            refine zu 26 (some 71) #[tt, tt, tt, tt, tt, tt, tt, tt, tt, tt, tt, tt, tt, tt, tt, tt, tt, tt, tt, tt, tt, tt, tt, tt, tt, tt, tt, ff, ff, ff, ff, ff, ff, ff, ff, ff, ff, ff, ff, ff, ff, ff, ff, ff] (any_of HT_.out (by kernel_rfl)) ?_
            refine zu 27 (some 72) #[tt, tt, tt, tt, tt, tt, tt, tt, tt, tt, tt, tt, tt, tt, tt, tt, tt, tt, tt, tt, tt, tt, tt, tt, tt, tt, tt, tt, ff, ff, ff, ff, ff, ff, ff, ff, ff, ff, ff, ff, ff, ff, ff, ff] (any_of HT_.out (by kernel_rfl)) ?_
            refine zu 28 (some 73) #[tt, tt, tt, tt, tt, tt, tt, tt, tt, tt, tt, tt, tt, tt, tt, tt, tt, tt, tt, tt, tt, tt, tt, tt, tt, tt, tt, tt, tt, ff, ff, ff, ff, ff, ff, ff, ff, ff, ff, ff, ff, ff, ff, ff] (any_of HT_.out (by kernel_rfl)) ?_
            refine pure_ (i := 29) (N := some 74) (v := undef) (a' := ?_) #[tt, tt, tt, tt, tt, tt, tt, tt, tt, tt, tt, tt, tt, tt, tt, tt, tt, tt, tt, tt, tt, tt, tt, tt, tt, tt, tt, tt, tt, tt, ff, ff, ff, ff, ff, ff, ff, ff, ff, ff, ff, ff, ff, ff] rfl rfl (any_of HT_.out (by kernel_rfl)) (fun _ _ _ h => h) (Or.inr ⟨by rfl, rfl⟩) ?_ ?_
            rotate_left
            ·simp only [Act.put, zp, zq, zr, i64_w, i32_w]
             rfl
            refine pure_ (i := 30) (N := some 75) (v := undef) (a' := ?_) #[tt, tt, tt, tt, tt, tt, tt, tt, tt, tt, tt, tt, tt, tt, tt, tt, tt, tt, tt, tt, tt, tt, tt, tt, tt, tt, tt, tt, tt, tt, tt, ff, ff, ff, ff, ff, ff, ff, ff, ff, ff, ff, ff, ff] rfl rfl (any_of HT_.out (by kernel_rfl)) (fun _ _ _ h => h) (Or.inr ⟨by rfl, rfl⟩) ?_ ?_
            rotate_left
            ·simp only [Act.put, zp, zq, zr, i64_w, i32_w]
             rfl
            refine pure_ (i := 31) (N := some 76) (v := undef) (a' := ?_) #[tt, tt, tt, tt, tt, tt, tt, tt, tt, tt, tt, tt, tt, tt, tt, tt, tt, tt, tt, tt, tt, tt, tt, tt, tt, tt, tt, tt, tt, tt, tt, tt, ff, ff, ff, ff, ff, ff, ff, ff, ff, ff, ff, ff] rfl rfl (any_of HT_.out (by kernel_rfl)) (fun _ _ _ h => h) (Or.inr ⟨by rfl, rfl⟩) ?_ ?_
            rotate_left
            ·simp only [Act.put, zp, zq, zr, i64_w, i32_w]
             rfl
            refine pure_ (i := 32) (N := some 77) (v := undef) (a' := ?_) #[tt, tt, tt, tt, tt, tt, tt, tt, tt, tt, tt, tt, tt, tt, tt, tt, tt, tt, tt, tt, tt, tt, tt, tt, tt, tt, tt, tt, tt, tt, tt, tt, tt, ff, ff, ff, ff, ff, ff, ff, ff, ff, ff, ff] rfl rfl (any_of HT_.out (by kernel_rfl)) (fun _ _ _ h => h) (Or.inr ⟨by rfl, rfl⟩) ?_ ?_
            rotate_left
            ·simp only [Act.put, zp, zq, zr, i64_w, i32_w]
             rfl
            refine pure_ (i := 33) (N := some 78) (v := undef) (a' := ?_) #[tt, tt, tt, tt, tt, tt, tt, tt, tt, tt, tt, tt, tt, tt, tt, tt, tt, tt, tt, tt, tt, tt, tt, tt, tt, tt, tt, tt, tt, tt, tt, tt, tt, tt, ff, ff, ff, ff, ff, ff, ff, ff, ff, ff] rfl rfl (any_of HT_.out (by kernel_rfl)) (fun _ _ _ h => h) (Or.inr ⟨by rfl, rfl⟩) ?_ ?_
            rotate_left
            ·simp only [Act.put, zp, zq, zr, i64_w, i32_w]
             rfl
            refine pure_ (i := 34) (N := some 79) (v := undef) (a' := ?_) #[tt, tt, tt, tt, tt, tt, tt, tt, tt, tt, tt, tt, tt, tt, tt, tt, tt, tt, tt, tt, tt, tt, tt, tt, tt, tt, tt, tt, tt, tt, tt, tt, tt, tt, tt, ff, ff, ff, ff, ff, ff, ff, ff, ff] rfl rfl (any_of HT_.out (by kernel_rfl)) (fun _ _ _ h => h) (Or.inr ⟨by rfl, rfl⟩) ?_ ?_
            rotate_left
            ·simp only [Act.put, zp, zq, zr, i64_w, i32_w]
             rfl
            refine pure_ (i := 35) (N := some 80) (v := undef) (a' := ?_) #[tt, tt, tt, tt, tt, tt, tt, tt, tt, tt, tt, tt, tt, tt, tt, tt, tt, tt, tt, tt, tt, tt, tt, tt, tt, tt, tt, tt, tt, tt, tt, tt, tt, tt, tt, tt, ff, ff, ff, ff, ff, ff, ff, ff] rfl rfl (any_of HT_.out (by kernel_rfl)) (fun _ _ _ h => h) (Or.inr ⟨by rfl, rfl⟩) ?_ ?_
            rotate_left
            ·simp only [Act.put, zp, zq, zr, i64_w, i32_w]
             rfl
            refine pure_ (i := 36) (N := some 81) (v := undef) (a' := ?_) #[tt, tt, tt, tt, tt, tt, tt, tt, tt, tt, tt, tt, tt, tt, tt, tt, tt, tt, tt, tt, tt, tt, tt, tt, tt, tt, tt, tt, tt, tt, tt, tt, tt, tt, tt, tt, tt, ff, ff, ff, ff, ff, ff, ff] rfl rfl (any_of HT_.out (by kernel_rfl)) (fun _ _ _ h => h) (Or.inr ⟨by rfl, rfl⟩) ?_ ?_
            rotate_left
            ·simp only [Act.put, zp, zq, zr, i64_w, i32_w]
             rfl
            refine pure_ (i := 37) (N := some 82) (v := undef) (a' := ?_) #[tt, tt, tt, tt, tt, tt, tt, tt, tt, tt, tt, tt, tt, tt, tt, tt, tt, tt, tt, tt, tt, tt, tt, tt, tt, tt, tt, tt, tt, tt, tt, tt, tt, tt, tt, tt, tt, tt, ff, ff, ff, ff, ff, ff] rfl rfl (any_of HT_.out (by kernel_rfl)) (fun _ _ _ h => h) (Or.inr ⟨by rfl, rfl⟩) ?_ ?_
            rotate_left
            ·simp only [Act.put, zp, zq, zr, i64_w, i32_w]
             rfl
            refine pure_ (i := 38) (N := some 83) (v := undef) (a' := ?_) #[tt, tt, tt, tt, tt, tt, tt, tt, tt, tt, tt, tt, tt, tt, tt, tt, tt, tt, tt, tt, tt, tt, tt, tt, tt, tt, tt, tt, tt, tt, tt, tt, tt, tt, tt, tt, tt, tt, tt, ff, ff, ff, ff, ff] rfl rfl (any_of HT_.out (by kernel_rfl)) (fun _ _ _ h => h) (Or.inr ⟨by rfl, rfl⟩) ?_ ?_
            rotate_left
            ·simp only [Act.put, zp, zq, zr, i64_w, i32_w]
             rfl
            refine pure_ (i := 39) (N := some 84) (v := undef) (a' := ?_) #[tt, tt, tt, tt, tt, tt, tt, tt, tt, tt, tt, tt, tt, tt, tt, tt, tt, tt, tt, tt, tt, tt, tt, tt, tt, tt, tt, tt, tt, tt, tt, tt, tt, tt, tt, tt, tt, tt, tt, tt, ff, ff, ff, ff] rfl rfl (any_of HT_.out (by kernel_rfl)) (fun _ _ _ h => h) (Or.inr ⟨by rfl, rfl⟩) ?_ ?_
            rotate_left
            ·simp only [Act.put, zp, zq, zr, i64_w, i32_w]
             rfl
            refine pure_ (i := 40) (N := some 85) (v := undef) (a' := ?_) #[tt, tt, tt, tt, tt, tt, tt, tt, tt, tt, tt, tt, tt, tt, tt, tt, tt, tt, tt, tt, tt, tt, tt, tt, tt, tt, tt, tt, tt, tt, tt, tt, tt, tt, tt, tt, tt, tt, tt, tt, tt, ff, ff, ff] rfl rfl (any_of HT_.out (by kernel_rfl)) (fun _ _ _ h => h) (Or.inr ⟨by rfl, rfl⟩) ?_ ?_
            rotate_left
            ·simp only [Act.put, zp, zq, zr, i64_w, i32_w]
             rfl
            refine pure_ (i := 41) (N := some 86) (v := undef) (a' := ?_) #[tt, tt, tt, tt, tt, tt, tt, tt, tt, tt, tt, tt, tt, tt, tt, tt, tt, tt, tt, tt, tt, tt, tt, tt, tt, tt, tt, tt, tt, tt, tt, tt, tt, tt, tt, tt, tt, tt, tt, tt, tt, tt, ff, ff] rfl rfl (any_of HT_.out (by kernel_rfl)) (fun _ _ _ h => h) (Or.inr ⟨by rfl, rfl⟩) ?_ ?_
            rotate_left
            ·simp only [Act.put, zp, zq, zr, i64_w, i32_w]
             rfl
            refine pure_ (i := 42) (N := some 87) (v := undef) (a' := ?_) #[tt, tt, tt, tt, tt, tt, tt, tt, tt, tt, tt, tt, tt, tt, tt, tt, tt, tt, tt, tt, tt, tt, tt, tt, tt, tt, tt, tt, tt, tt, tt, tt, tt, tt, tt, tt, tt, tt, tt, tt, tt, tt, tt, ff] rfl rfl (any_of HT_.out (by kernel_rfl)) (fun _ _ _ h => h) (Or.inr ⟨by rfl, rfl⟩) ?_ ?_
            rotate_left
            ·simp only [Act.put, zp, zq, zr, i64_w, i32_w]
             rfl
            refine zu 43 (some 88) #[tt, tt, tt, tt, tt, tt, tt, tt, tt, tt, tt, tt, tt, tt, tt, tt, tt, tt, tt, tt, tt, tt, tt, tt, tt, tt, tt, tt, tt, tt, tt, tt, tt, tt, tt, tt, tt, tt, tt, tt, tt, tt, tt, tt] (any_of HT_.out (by kernel_rfl)) ?_
            refine done_ (done_of HT_.out (by kernel_rfl)) ?_
            try go_wp2
            go_meet
            case rel => exact ⟨_, (true), zf, H', ⟨by have := dG.out; have := dH.out; first | omega | exact Nat.le_refl _⟩, ⟨zk aa⟩, ⟨zk ac⟩, ⟨zb HB⟩⟩
          ·rw [if_neg dJ] at H
           have d6 : (((rd_T69 af ab).f0) == ((rd_T69 ag ab).f0)) = false := beq_eq_false_iff_ne.mpr dJ
           have d7 : (((rd_T69 af ab).f0) != ((rd_T69 ag ab).f0)) = true := bne_iff_ne.mpr dJ
           have H' := zK H; clear H
           try go_wp2
           have ca := zK (zD aa.out)
           have cb := zK (zD ac.out)
           have cc := zK (zE HB.out)
           clear aa ac HB; have aa := ca; have ac := cb; have HB := cc; clear ca cb cc
           have cd : 0 ≤ (ab : Int) := zd
           have ce : ab < (af.length : Int) := zd
           obtain ⟨al, bm, bn, cX, au, av, an, ba, bb⟩ := at_T69 cl.out ab cd ce
           have aV := an; have aW := av; have aX := au
           cases cX
           replace au := (HB.out.cell (World.block_lt_of_cell? w _ au)).trans au
           replace av := (HB.out.cell (World.block_lt_of_cell? w _ av)).trans av
           replace an := (HB.out.cell (World.block_lt_of_cell? w _ an)).trans an
           have bM := zK bb; have cM := zK ba; clear bb ba; replace cd := eq_true cd; replace ce := eq_true ce
           have cf : 0 ≤ (ab : Int) := zd
           have cg : ab < (ag.length : Int) := zd
           obtain ⟨am, bo, bp, cY, aw, ax, ao, bc, bd⟩ := at_T69 cm.out ab cf cg
           have aY := ao; have aZ := ax; have a0 := aw
           cases cY
           replace aw := (HB.out.cell (World.block_lt_of_cell? w _ aw)).trans aw
           replace ax := (HB.out.cell (World.block_lt_of_cell? w _ ax)).trans ax
           replace ao := (HB.out.cell (World.block_lt_of_cell? w _ ao)).trans ao
           have bN := zK bd; have cN := zK bc; clear bd bc; replace cf := eq_true cf; replace cg := eq_true cg
           refine start_ (n := 44) (S := fun w' => w'.cell? ⟨ad, 0, none⟩ = some (.slice aM ak.length aN) ∧ w'.cell? ⟨ad, 1, none⟩ = some (.int .i64 a0_1) ∧ w'.cell? ⟨ad, 2, none⟩ = some (.slice (some al) af.length a1) ∧ w'.cell? ⟨ad, 3, none⟩ = some (.slice a9 ah.length a2) ∧ w'.cell? ⟨ai, 0, none⟩ = some (.slice bi ap.length bj) ∧ w'.cell? ⟨ai, 1, none⟩ = some (.int .i64 a1_1) ∧ w'.cell? ⟨ai, 2, none⟩ = some (.slice (some am) ag.length bE) ∧ w'.cell? ⟨ai, 3, none⟩ = some (.slice bL aj.length bF) ∧ w'.cell? (al.add ((ab).toNat * 3)) = some (.int .i64 ((rd_T69 af ab).f0)) ∧ w'.cell? ⟨(al.add ((ab).toNat * 3)).block, (al.add ((ab).toNat * 3)).off + 1, none⟩ = some (.int .i64 ((rd_T69 af ab).f1)) ∧ w'.cell? ⟨(al.add ((ab).toNat * 3)).block, (al.add ((ab).toNat * 3)).off + 2, none⟩ = some (.slice bm ((rd_T69 af ab).f2).length bn) ∧ w'.cell? (am.add ((ab).toNat * 3)) = some (.int .i64 ((rd_T69 ag ab).f0)) ∧ w'.cell? ⟨(am.add ((ab).toNat * 3)).block, (am.add ((ab).toNat * 3)).off + 1, none⟩ = some (.int .i64 ((rd_T69 ag ab).f1)) ∧ w'.cell? ⟨(am.add ((ab).toNat * 3)).block, (am.add ((ab).toNat * 3)).off + 2, none⟩ = some (.slice bo ((rd_T69 ag ab).f2).length bp)) (ds := []) #[ff, ff, ff, ff, ff, ff, ff, ff, ff, ff, ff, ff, ff, ff, ff, ff, ff, ff, ff, ff, ff, ff, ff, ff, ff, ff, ff, ff, ff, ff, ff, ff, ff, ff, ff, ff, ff, ff, ff, ff, ff, ff, ff, ff] (by kernel_rfl) rfl rfl ⟨(blk_cell aa.out 0).trans rfl, (blk_cell aa.out 1).trans rfl, (blk_cell aa.out 2).trans rfl, (blk_cell aa.out 3).trans rfl, (blk_cell ac.out 0).trans rfl, (blk_cell ac.out 1).trans rfl, (blk_cell ac.out 2).trans rfl, (blk_cell ac.out 3).trans rfl, ((HB.out.cell (World.block_lt_of_cell? w _ aX)).trans aX), ((HB.out.cell (World.block_lt_of_cell? w _ aW)).trans aW), ((HB.out.cell (World.block_lt_of_cell? w _ aV)).trans aV), ((HB.out.cell (World.block_lt_of_cell? w _ a0)).trans a0), ((HB.out.cell (World.block_lt_of_cell? w _ aZ)).trans aZ), ((HB.out.cell (World.block_lt_of_cell? w _ aY)).trans aY)⟩ (fun hHeld => ?_); refine with_tabW laws_sameLoop.tab6 laws_sameLoop.bits6 (fun HT_ HW_ => ?_)
           generalize wr.drew = w34 at aa ac HB bM bN au av an aw ax ao hHeld ⊢
           refine zu 0 (some 45) #[tt, ff, ff, ff, ff, ff, ff, ff, ff, ff, ff, ff, ff, ff, ff, ff, ff, ff, ff, ff, ff, ff, ff, ff, ff, ff, ff, ff, ff, ff, ff, ff, ff, ff, ff, ff, ff, ff, ff, ff, ff, ff, ff, ff] (any_of HT_.out (by kernel_rfl)) ?_
           refine zu 2 (some 47) #[tt, ff, tt, ff, ff, ff, ff, ff, ff, ff, ff, ff, ff, ff, ff, ff, ff, ff, ff, ff, ff, ff, ff, ff, ff, ff, ff, ff, ff, ff, ff, ff, ff, ff, ff, ff, ff, ff, ff, ff, ff, ff, ff, ff] (any_of HT_.out (by kernel_rfl)) ?_
           refine zu 6 (some 51) #[tt, ff, tt, ff, ff, ff, tt, ff, ff, ff, ff, ff, ff, ff, ff, ff, ff, ff, ff, ff, ff, ff, ff, ff, ff, ff, ff, ff, ff, ff, ff, ff, ff, ff, ff, ff, ff, ff, ff, ff, ff, ff, ff, ff] (any_of HT_.out (by kernel_rfl)) ?_
           refine zu 8 (some 53) #[tt, ff, tt, ff, ff, ff, tt, ff, tt, ff, ff, ff, ff, ff, ff, ff, ff, ff, ff, ff, ff, ff, ff, ff, ff, ff, ff, ff, ff, ff, ff, ff, ff, ff, ff, ff, ff, ff, ff, ff, ff, ff, ff, ff] (any_of HT_.out (by kernel_rfl)) ?_
           refine zt 1 (some 46) #[tt, tt, tt, ff, ff, ff, tt, ff, tt, ff, ff, ff, ff, ff, ff, ff, ff, ff, ff, ff, ff, ff, ff, ff, ff, ff, ff, ff, ff, ff, ff, ff, ff, ff, ff, ff, ff, ff, ff, ff, ff, ff, ff, ff] (take_ofW HT_.out HW_.out (by kernel_rfl)) hHeld ?_
           refine zu 3 (some 48) #[tt, tt, tt, tt, ff, ff, tt, ff, tt, ff, ff, ff, ff, ff, ff, ff, ff, ff, ff, ff, ff, ff, ff, ff, ff, ff, ff, ff, ff, ff, ff, ff, ff, ff, ff, ff, ff, ff, ff, ff, ff, ff, ff, ff] (any_of HT_.out (by kernel_rfl)) ?_
           refine zu 4 (some 49) #[tt, tt, tt, tt, tt, ff, tt, ff, tt, ff, ff, ff, ff, ff, ff, ff, ff, ff, ff, ff, ff, ff, ff, ff, ff, ff, ff, ff, ff, ff, ff, ff, ff, ff, ff, ff, ff, ff, ff, ff, ff, ff, ff, ff] (any_of HT_.out (by kernel_rfl)) ?_
           refine zt 5 (some 50) #[tt, tt, tt, tt, tt, tt, tt, ff, tt, ff, ff, ff, ff, ff, ff, ff, ff, ff, ff, ff, ff, ff, ff, ff, ff, ff, ff, ff, ff, ff, ff, ff, ff, ff, ff, ff, ff, ff, ff, ff, ff, ff, ff, ff] (take_ofW HT_.out HW_.out (by kernel_rfl)) hHeld ?_
           refine zt 7 (some 52) #[tt, tt, tt, tt, tt, tt, tt, tt, tt, ff, ff, ff, ff, ff, ff, ff, ff, ff, ff, ff, ff, ff, ff, ff, ff, ff, ff, ff, ff, ff, ff, ff, ff, ff, ff, ff, ff, ff, ff, ff, ff, ff, ff, ff] (take_ofW HT_.out HW_.out (by kernel_rfl)) hHeld ?_
           refine zu 9 (some 54) #[tt, tt, tt, tt, tt, tt, tt, tt, tt, tt, ff, ff, ff, ff, ff, ff, ff, ff, ff, ff, ff, ff, ff, ff, ff, ff, ff, ff, ff, ff, ff, ff, ff, ff, ff, ff, ff, ff, ff, ff, ff, ff, ff, ff] (any_of HT_.out (by kernel_rfl)) ?_
           refine zu 10 (some 55) #[tt, tt, tt, tt, tt, tt, tt, tt, tt, tt, tt, ff, ff, ff, ff, ff, ff, ff, ff, ff, ff, ff, ff, ff, ff, ff, ff, ff, ff, ff, ff, ff, ff, ff, ff, ff, ff, ff, ff, ff, ff, ff, ff, ff] (any_of HT_.out (by kernel_rfl)) ?_
           refine zt 11 (some 56) #[tt, tt, tt, tt, tt, tt, tt, tt, tt, tt, tt, tt, ff, ff, ff, ff, ff, ff, ff, ff, ff, ff, ff, ff, ff, ff, ff, ff, ff, ff, ff, ff, ff, ff, ff, ff, ff, ff, ff, ff, ff, ff, ff, ff] (take_ofW HT_.out HW_.out (by kernel_rfl)) hHeld ?_
           refine zu 12 (some 57) #[tt, tt, tt, tt, tt, tt, tt, tt, tt, tt, tt, tt, tt, ff, ff, ff, ff, ff, ff, ff, ff, ff, ff, ff, ff, ff, ff, ff, ff, ff, ff, ff, ff, ff, ff, ff, ff, ff, ff, ff, ff, ff, ff, ff] (any_of HT_.out (by kernel_rfl)) ?_
           refine zu 13 (some 58) #[tt, tt, tt, tt, tt, tt, tt, tt, tt, tt, tt, tt, tt, tt, ff, ff, ff, ff, ff, ff, ff, ff, ff, ff, ff, ff, ff, ff, ff, ff, ff, ff, ff, ff, ff, ff, ff, ff, ff, ff, ff, ff, ff, ff] (any_of HT_.out (by kernel_rfl)) ?_
           refine pure_ (i := 14) (N := some 59) (v := undef) (a' := ?_) #[tt, tt, tt, tt, tt, tt, tt, tt, tt, tt, tt, tt, tt, tt, tt, ff, ff, ff, ff, ff, ff, ff, ff, ff, ff, ff, ff, ff, ff, ff, ff, ff, ff, ff, ff, ff, ff, ff, ff, ff, ff, ff, ff, ff] rfl rfl (any_of HT_.out (by kernel_rfl)) (fun _ _ _ h => h) (Or.inr ⟨by rfl, rfl⟩) ?_ ?_
           rotate_left
           ·simp only [Act.put, zp, zq, zr, i64_w, i32_w]
            rfl
           refine pure_ (i := 15) (N := some 60) (v := undef) (a' := ?_) #[tt, tt, tt, tt, tt, tt, tt, tt, tt, tt, tt, tt, tt, tt, tt, tt, ff, ff, ff, ff, ff, ff, ff, ff, ff, ff, ff, ff, ff, ff, ff, ff, ff, ff, ff, ff, ff, ff, ff, ff, ff, ff, ff, ff] rfl rfl (any_of HT_.out (by kernel_rfl)) (fun _ _ _ h => h) (Or.inr ⟨by rfl, rfl⟩) ?_ ?_
           rotate_left
           ·simp only [Act.put, zp, zq, zr, i64_w, i32_w]
            rfl
           refine pure_ (i := 16) (N := some 61) (v := undef) (a' := ?_) #[tt, tt, tt, tt, tt, tt, tt, tt, tt, tt, tt, tt, tt, tt, tt, tt, tt, ff, ff, ff, ff, ff, ff, ff, ff, ff, ff, ff, ff, ff, ff, ff, ff, ff, ff, ff, ff, ff, ff, ff, ff, ff, ff, ff] rfl rfl (any_of HT_.out (by kernel_rfl)) (fun _ _ _ h => h) (Or.inr ⟨by rfl, rfl⟩) ?_ ?_
           rotate_left
           ·simp only [Act.put, zp, zq, zr, i64_w, i32_w]
            rfl
           refine pure_ (i := 17) (N := some 62) (v := undef) (a' := ?_) #[tt, tt, tt, tt, tt, tt, tt, tt, tt, tt, tt, tt, tt, tt, tt, tt, tt, tt, ff, ff, ff, ff, ff, ff, ff, ff, ff, ff, ff, ff, ff, ff, ff, ff, ff, ff, ff, ff, ff, ff, ff, ff, ff, ff] rfl rfl (any_of HT_.out (by kernel_rfl)) (fun _ _ _ h => h) (Or.inr ⟨by rfl, rfl⟩) ?_ ?_
           rotate_left
           ·simp only [Act.put, zp, zq, zr, i64_w, i32_w]
            rfl
           refine pure_ (i := 18) (N := some 63) (v := undef) (a' := ?_) #[tt, tt, tt, tt, tt, tt, tt, tt, tt, tt, tt, tt, tt, tt, tt, tt, tt, tt, tt, ff, ff, ff, ff, ff, ff, ff, ff, ff, ff, ff, ff, ff, ff, ff, ff, ff, ff, ff, ff, ff, ff, ff, ff, ff] rfl rfl (any_of HT_.out (by kernel_rfl)) (fun _ _ _ h => h) (Or.inr ⟨by rfl, rfl⟩) ?_ ?_
           rotate_left
           ·simp only [Act.put, zp, zq, zr, i64_w, i32_w]
            rfl
           refine pure_ (i := 19) (N := some 64) (v := undef) (a' := ?_) #[tt, tt, tt, tt, tt, tt, tt, tt, tt, tt, tt, tt, tt, tt, tt, tt, tt, tt, tt, tt, ff, ff, ff, ff, ff, ff, ff, ff, ff, ff, ff, ff, ff, ff, ff, ff, ff, ff, ff, ff, ff, ff, ff, ff] rfl rfl (any_of HT_.out (by kernel_rfl)) (fun _ _ _ h => h) (Or.inr ⟨by rfl, rfl⟩) ?_ ?_
           rotate_left
           ·simp only [Act.put, zp, zq, zr, i64_w, i32_w]
            rfl
           refine pure_ (i := 20) (N := some 65) (v := undef) (a' := ?_) #[tt, tt, tt, tt, tt, tt, tt, tt, tt, tt, tt, tt, tt, tt, tt, tt, tt, tt, tt, tt, tt, ff, ff, ff, ff, ff, ff, ff, ff, ff, ff, ff, ff, ff, ff, ff, ff, ff, ff, ff, ff, ff, ff, ff] rfl rfl (any_of HT_.out (by kernel_rfl)) (fun _ _ _ h => h) (Or.inr ⟨by rfl, rfl⟩) ?_ ?_
           rotate_left
           ·simp only [Act.put, zp, zq, zr, i64_w, i32_w]
            rfl
           refine pure_ (i := 21) (N := some 66) (v := undef) (a' := ?_) #[tt, tt, tt, tt, tt, tt, tt, tt, tt, tt, tt, tt, tt, tt, tt, tt, tt, tt, tt, tt, tt, tt, ff, ff, ff, ff, ff, ff, ff, ff, ff, ff, ff, ff, ff, ff, ff, ff, ff, ff, ff, ff, ff, ff] rfl rfl (any_of HT_.out (by kernel_rfl)) (fun _ _ _ h => h) (Or.inr ⟨by rfl, rfl⟩) ?_ ?_
           rotate_left
           ·simp only [Act.put, zp, zq, zr, i64_w, i32_w]
            rfl
           refine pure_ (i := 22) (N := some 67) (v := undef) (a' := ?_) #[tt, tt, tt, tt, tt, tt, tt, tt, tt, tt, tt, tt, tt, tt, tt, tt, tt, tt, tt, tt, tt, tt, tt, ff, ff, ff, ff, ff, ff, ff, ff, ff, ff, ff, ff, ff, ff, ff, ff, ff, ff, ff, ff, ff] rfl rfl (any_of HT_.out (by kernel_rfl)) (fun _ _ _ h => h) (Or.inr ⟨by rfl, rfl⟩) ?_ ?_
           rotate_left
           ·simp only [Act.put, zp, zq, zr, i64_w, i32_w]
            rfl
           refine pure_ (i := 23) (N := some 68) (v := undef) (a' := ?_) #[tt, tt, tt, tt, tt, tt, tt, tt, tt, tt, tt, tt, tt, tt, tt, tt, tt, tt, tt, tt, tt, tt, tt, tt, ff, ff, ff, ff, ff, ff, ff, ff, ff, ff, ff, ff, ff, ff, ff, ff, ff, ff, ff, ff] rfl rfl (any_of HT_.out (by kernel_rfl)) (fun _ _ _ h => h) (Or.inr ⟨by rfl, rfl⟩) ?_ ?_
           rotate_left
           ·simp only [Act.put, zp, zq, zr, i64_w, i32_w]
            rfl
           refine pure_ (i := 24) (N := some 69) (v := undef) (a' := ?_) #[tt, tt, tt, tt, tt, tt, tt, tt, tt, tt, tt, tt, tt, tt, tt, tt, tt, tt, tt, tt, tt, tt, tt, tt, tt, ff, ff, ff, ff, ff, ff, ff, ff, ff, ff, ff, ff, ff, ff, ff, ff, ff, ff, ff] rfl rfl (any_of HT_.out (by kernel_rfl)) (fun _ _ _ h => h) (Or.inr ⟨by rfl, rfl⟩) ?_ ?_
           rotate_left
           ·simp only [Act.put, zp, zq, zr, i64_w, i32_w]
            rfl
           refine pure_ (i := 25) (N := some 70) (v := undef) (a' := ?_) #[tt, tt, tt, tt, tt, tt, tt, tt, tt, tt, tt, tt, tt, tt, tt, tt, tt, tt, tt, tt, tt, tt, tt, tt, tt, tt, ff, ff, ff, ff, ff, ff, ff, ff, ff, ff, ff, ff, ff, ff, ff, ff, ff, ff] rfl rfl (any_of HT_.out (by kernel_rfl)) (fun _ _ _ h => h) (Or.inr ⟨by rfl, rfl⟩) ?_ ?_
           rotate_left
           ·simp only [Act.put, zp, zq, zr, i64_w, i32_w]
            rfl
           refine pure_ (i := 26) (N := some 71) (v := undef) (a' := ?_) #[tt, tt, tt, tt, tt, tt, tt, tt, tt, tt, tt, tt, tt, tt, tt, tt, tt, tt, tt, tt, tt, tt, tt, tt, tt, tt, tt, ff, ff, ff, ff, ff, ff, ff, ff, ff, ff, ff, ff, ff, ff, ff, ff, ff] rfl rfl (any_of HT_.out (by kernel_rfl)) (fun _ _ _ h => h) (Or.inr ⟨by rfl, rfl⟩) ?_ ?_
           rotate_left
           ·simp only [Act.put, zp, zq, zr, i64_w, i32_w]
            rfl
           refine zu 27 (some 72) #[tt, tt, tt, tt, tt, tt, tt, tt, tt, tt, tt, tt, tt, tt, tt, tt, tt, tt, tt, tt, tt, tt, tt, tt, tt, tt, tt, tt, ff, ff, ff, ff, ff, ff, ff, ff, ff, ff, ff, ff, ff, ff, ff, ff] (any_of HT_.out (by kernel_rfl)) ?_
           refine zu 28 (some 73) #[tt, tt, tt, tt, tt, tt, tt, tt, tt, tt, tt, tt, tt, tt, tt, tt, tt, tt, tt, tt, tt, tt, tt, tt, tt, tt, tt, tt, tt, ff, ff, ff, ff, ff, ff, ff, ff, ff, ff, ff, ff, ff, ff, ff] (any_of HT_.out (by kernel_rfl)) ?_
           refine pure_ (i := 29) (N := some 74) (v := undef) (a' := ?_) #[tt, tt, tt, tt, tt, tt, tt, tt, tt, tt, tt, tt, tt, tt, tt, tt, tt, tt, tt, tt, tt, tt, tt, tt, tt, tt, tt, tt, tt, tt, ff, ff, ff, ff, ff, ff, ff, ff, ff, ff, ff, ff, ff, ff] rfl rfl (any_of HT_.out (by kernel_rfl)) (fun _ _ _ h => h) (Or.inr ⟨by rfl, rfl⟩) ?_ ?_
           rotate_left
           ·simp only [Act.put, zp, zq, zr, i64_w, i32_w]
            rfl
           refine pure_ (i := 30) (N := some 75) (v := undef) (a' := ?_) #[tt, tt, tt, tt, tt, tt, tt, tt, tt, tt, tt, tt, tt, tt, tt, tt, tt, tt, tt, tt, tt, tt, tt, tt, tt, tt, tt, tt, tt, tt, tt, ff, ff, ff, ff, ff, ff, ff, ff, ff, ff, ff, ff, ff] rfl rfl (any_of HT_.out (by kernel_rfl)) (fun _ _ _ h => h) (Or.inr ⟨by rfl, rfl⟩) ?_ ?_
           rotate_left
           ·simp only [Act.put, zp, zq, zr, i64_w, i32_w]
            rfl
           refine pure_ (i := 31) (N := some 76) (v := undef) (a' := ?_) #[tt, tt, tt, tt, tt, tt, tt, tt, tt, tt, tt, tt, tt, tt, tt, tt, tt, tt, tt, tt, tt, tt, tt, tt, tt, tt, tt, tt, tt, tt, tt, tt, ff, ff, ff, ff, ff, ff, ff, ff, ff, ff, ff, ff] rfl rfl (any_of HT_.out (by kernel_rfl)) (fun _ _ _ h => h) (Or.inr ⟨by rfl, rfl⟩) ?_ ?_
           rotate_left
           ·simp only [Act.put, zp, zq, zr, i64_w, i32_w]
            rfl
           refine pure_ (i := 32) (N := some 77) (v := undef) (a' := ?_) #[tt, tt, tt, tt, tt, tt, tt, tt, tt, tt, tt, tt, tt, tt, tt, tt, tt, tt, tt, tt, tt, tt, tt, tt, tt, tt, tt, tt, tt, tt, tt, tt, tt, ff, ff, ff, ff, ff, ff, ff, ff, ff, ff, ff] rfl rfl (any_of HT_.out (by kernel_rfl)) (fun _ _ _ h => h) (Or.inr ⟨by rfl, rfl⟩) ?_ ?_
           rotate_left
           ·simp only [Act.put, zp, zq, zr, i64_w, i32_w]
            rfl
           refine pure_ (i := 33) (N := some 78) (v := undef) (a' := ?_) #[tt, tt, tt, tt, tt, tt, tt, tt, tt, tt, tt, tt, tt, tt, tt, tt, tt, tt, tt, tt, tt, tt, tt, tt, tt, tt, tt, tt, tt, tt, tt, tt, tt, tt, ff, ff, ff, ff, ff, ff, ff, ff, ff, ff] rfl rfl (any_of HT_.out (by kernel_rfl)) (fun _ _ _ h => h) (Or.inr ⟨by rfl, rfl⟩) ?_ ?_
           rotate_left
           ·simp only [Act.put, zp, zq, zr, i64_w, i32_w]
            rfl
           refine pure_ (i := 34) (N := some 79) (v := undef) (a' := ?_) #[tt, tt, tt, tt, tt, tt, tt, tt, tt, tt, tt, tt, tt, tt, tt, tt, tt, tt, tt, tt, tt, tt, tt, tt, tt, tt, tt, tt, tt, tt, tt, tt, tt, tt, tt, ff, ff, ff, ff, ff, ff, ff, ff, ff] rfl rfl (any_of HT_.out (by kernel_rfl)) (fun _ _ _ h => h) (Or.inr ⟨by rfl, rfl⟩) ?_ ?_
           rotate_left
           ·simp only [Act.put, zp, zq, zr, i64_w, i32_w]
            rfl
           refine pure_ (i := 35) (N := some 80) (v := undef) (a' := ?_) #[tt, tt, tt, tt, tt, tt, tt, tt, tt, tt, tt, tt, tt, tt, tt, tt, tt, tt, tt, tt, tt, tt, tt, tt, tt, tt, tt, tt, tt, tt, tt, tt, tt, tt, tt, tt, ff, ff, ff, ff, ff, ff, ff, ff] rfl rfl (any_of HT_.out (by kernel_rfl)) (fun _ _ _ h => h) (Or.inr ⟨by rfl, rfl⟩) ?_ ?_
           rotate_left
           ·simp only [Act.put, zp, zq, zr, i64_w, i32_w]
            rfl
           refine pure_ (i := 36) (N := some 81) (v := undef) (a' := ?_) #[tt, tt, tt, tt, tt, tt, tt, tt, tt, tt, tt, tt, tt, tt, tt, tt, tt, tt, tt, tt, tt, tt, tt, tt, tt, tt, tt, tt, tt, tt, tt, tt, tt, tt, tt, tt, tt, ff, ff, ff, ff, ff, ff, ff] rfl rfl (any_of HT_.out (by kernel_rfl)) (fun _ _ _ h => h) (Or.inr ⟨by rfl, rfl⟩) ?_ ?_
           rotate_left
           ·simp only [Act.put, zp, zq, zr, i64_w, i32_w]
            rfl
           refine pure_ (i := 37) (N := some 82) (v := undef) (a' := ?_) #[tt, tt, tt, tt, tt, tt, tt, tt, tt, tt, tt, tt, tt, tt, tt, tt, tt, tt, tt, tt, tt, tt, tt, tt, tt, tt, tt, tt, tt, tt, tt, tt, tt, tt, tt, tt, tt, tt, ff, ff, ff, ff, ff, ff] rfl rfl (any_of HT_.out (by kernel_rfl)) (fun _ _ _ h => h) (Or.inr ⟨by rfl, rfl⟩) ?_ ?_
           rotate_left
           ·simp only [Act.put, zp, zq, zr, i64_w, i32_w]
            rfl
           refine pure_ (i := 38) (N := some 83) (v := undef) (a' := ?_) #[tt, tt, tt, tt, tt, tt, tt, tt, tt, tt, tt, tt, tt, tt, tt, tt, tt, tt, tt, tt, tt, tt, tt, tt, tt, tt, tt, tt, tt, tt, tt, tt, tt, tt, tt, tt, tt, tt, tt, ff, ff, ff, ff, ff] rfl rfl (any_of HT_.out (by kernel_rfl)) (fun _ _ _ h => h) (Or.inr ⟨by rfl, rfl⟩) ?_ ?_
           rotate_left
           ·simp only [Act.put, zp, zq, zr, i64_w, i32_w]
            rfl
           refine pure_ (i := 39) (N := some 84) (v := undef) (a' := ?_) #[tt, tt, tt, tt, tt, tt, tt, tt, tt, tt, tt, tt, tt, tt, tt, tt, tt, tt, tt, tt, tt, tt, tt, tt, tt, tt, tt, tt, tt, tt, tt, tt, tt, tt, tt, tt, tt, tt, tt, tt, ff, ff, ff, ff] rfl rfl (any_of HT_.out (by kernel_rfl)) (fun _ _ _ h => h) (Or.inr ⟨by rfl, rfl⟩) ?_ ?_
           rotate_left
           ·simp only [Act.put, zp, zq, zr, i64_w, i32_w]
            rfl
           refine pure_ (i := 40) (N := some 85) (v := undef) (a' := ?_) #[tt, tt, tt, tt, tt, tt, tt, tt, tt, tt, tt, tt, tt, tt, tt, tt, tt, tt, tt, tt, tt, tt, tt, tt, tt, tt, tt, tt, tt, tt, tt, tt, tt, tt, tt, tt, tt, tt, tt, tt, tt, ff, ff, ff] rfl rfl (any_of HT_.out (by kernel_rfl)) (fun _ _ _ h => h) (Or.inr ⟨by rfl, rfl⟩) ?_ ?_
           rotate_left
           ·simp only [Act.put, zp, zq, zr, i64_w, i32_w]
            rfl
           refine pure_ (i := 41) (N := some 86) (v := undef) (a' := ?_) #[tt, tt, tt, tt, tt, tt, tt, tt, tt, tt, tt, tt, tt, tt, tt, tt, tt, tt, tt, tt, tt, tt, tt, tt, tt, tt, tt, tt, tt, tt, tt, tt, tt, tt, tt, tt, tt, tt, tt, tt, tt, tt, ff, ff] rfl rfl (any_of HT_.out (by kernel_rfl)) (fun _ _ _ h => h) (Or.inr ⟨by rfl, rfl⟩) ?_ ?_
           rotate_left
           ·simp only [Act.put, zp, zq, zr, i64_w, i32_w]
            rfl
           refine pure_ (i := 42) (N := some 87) (v := undef) (a' := ?_) #[tt, tt, tt, tt, tt, tt, tt, tt, tt, tt, tt, tt, tt, tt, tt, tt, tt, tt, tt, tt, tt, tt, tt, tt, tt, tt, tt, tt, tt, tt, tt, tt, tt, tt, tt, tt, tt, tt, tt, tt, tt, tt, tt, ff] rfl rfl (any_of HT_.out (by kernel_rfl)) (fun _ _ _ h => h) (Or.inr ⟨by rfl, rfl⟩) ?_ ?_
           rotate_left
           ·simp only [Act.put, zp, zq, zr, i64_w, i32_w]
            rfl
           refine zu 43 (some 88) #[tt, tt, tt, tt, tt, tt, tt, tt, tt, tt, tt, tt, tt, tt, tt, tt, tt, tt, tt, tt, tt, tt, tt, tt, tt, tt, tt, tt, tt, tt, tt, tt, tt, tt, tt, tt, tt, tt, tt, tt, tt, tt, tt, tt] (any_of HT_.out (by kernel_rfl)) ?_
           refine done_ (done_of HT_.out (by kernel_rfl)) ?_
           try go_wp2
           go_meet
           case rel => exact ⟨_, (true), zf, H', ⟨by have := dG.out; have := dH.out; first | omega | exact Nat.le_refl _⟩, ⟨zk aa⟩, ⟨zk ac⟩, ⟨zb HB⟩⟩
         ·rw [if_neg c28] at H
          exact absurd H (by simp)
        ·rw [if_neg c27] at H
         exact absurd H (by simp)
       case rest =>
        clear dI
        obtain ⟨kq, cn, rfl, HA, ed, aa, ac, HB⟩ := hcut
        cases kq with
        | zero => exact absurd HA.out (by simp [laws_sameLoop.j2])
        | succ kj23 =>
         have H := HA.out; clear HA
         simp only [laws_sameLoop.j2] at H
         by_cases c35 : cn = true
         ·subst c35
          have H1 : (some false) = some r := by rw [if_pos rfl] at H; exact H
          clear H; have H := H1; clear H1; obtain rfl := Option.some.inj H
          go_wp2
          go_ret
          exact ⟨ze, zb HB⟩
         ·replace c35 := Bool.eq_false_iff.mpr c35
          subst c35
          have H1 : (laws_sameLoop.l0 kj23 (wrap64 (ab + 1)) ak a0_1 af ah ap a1_1 ag aj) = some r := by rw [if_neg (show ¬ (false = true) by decide)] at H; exact H
          clear H; have H := H1; clear H1; have H' := zK H; clear H
          go_wp2
          go_roundg kj23
          case measure => have := dG.out; have := dH.out; have := ed.out; omega
          case rel => exact ⟨(wrap64 (ab + 1)), zf, H', ⟨by have := dG.out; have := dH.out; have := ed.out; omega⟩, ⟨zk aa⟩, ⟨zk ac⟩, ⟨zb HB⟩⟩
      ·rw [if_neg d3] at H
       have dE : decide (ab < (af.length : Int)) = false := decide_eq_false d3
       clear d3; have H' := zK H; clear H; have hnb36 := aA.out; have hnc36 := aB.out
       have dp : wr.cell? ⟨ad, 0, none⟩ = some (.slice aM ak.length aN) := (blk_cell aa.out 0).trans rfl
       have dq : wr.cell? ⟨ad, 1, none⟩ = some (.int .i64 a0_1) := (blk_cell aa.out 1).trans rfl
       have dr : wr.cell? ⟨ad, 2, none⟩ = some (.slice a8 af.length a1) := (blk_cell aa.out 2).trans rfl
       have dt : wr.cell? ⟨ad, 3, none⟩ = some (.slice a9 ah.length a2) := (blk_cell aa.out 3).trans rfl
       have du := blk_frozen aa.out 0; have dv := blk_frozen aa.out 1; have dw := blk_frozen aa.out 2; have dx := blk_frozen aa.out 3
       go_wp2
       go_loopg [6] k2 (fun kq v6 w' => ∃ (ae : Int), v6 = .int .i64 ae ∧ Aside0 (laws_sameLoop.l1 kq ae ak a0_1 af ah ap a1_1 ag aj = some r) ∧ Aside0 (kq ≤ k2) ∧ Aside0 (w'.heap[ad]? = some (.cells #[(.slice aM ak.length aN), .int .i64 a0_1, (.slice a8 af.length a1), (.slice a9 ah.length a2)] 28 (0, 0))) ∧ Aside0 (w'.heap[ai]? = some (.cells #[(.slice bi ap.length bj), .int .i64 a1_1, (.slice bK ag.length bE), (.slice bL aj.length bF)] 28 (0, 0))) ∧ Aside0 (Below w.heap.size w w'))
       case atStart => exact ⟨(0), zf, H', ⟨Nat.le_refl _⟩, ⟨zk aa⟩, ⟨zk ac⟩, ⟨zb HB⟩⟩
       case round =>
        clear H' dE dp dq dr dt du dv dw dx
        obtain ⟨ae, rfl, HA, HK3, aa, ac, HB⟩ := hrel
        cases gk with
        | zero => exact absurd HA.out (by simp [laws_sameLoop.l1])
        | succ k3 =>
         have H := HA.out; clear HA
         simp only [laws_sameLoop.l1] at H
         by_cases d4 : ae < (ah.length : Int)
         ·rw [if_pos d4] at H
          have ee : decide (ae < (ah.length : Int)) = true := decide_eq_true d4
          clear d4
          by_cases c39 : 0 ≤ ae
          ·rw [if_pos c39] at H
           have c39b0 : decide (0 ≤ ae) = true := decide_eq_true c39
           clear c39
           by_cases c40 : ae < (aj.length : Int)
           ·rw [if_pos c40] at H
            have c40b0 : decide (ae < (aj.length : Int)) = true := decide_eq_true c40
            clear c40
            by_cases dW : ((rd_T74 ah ae).f0) = ((rd_T74 aj ae).f0)
            ·rw [if_pos dW] at H
             have ef : (((rd_T74 ah ae).f0) == ((rd_T74 aj ae).f0)) = true := beq_iff_eq.mpr dW
             have eg : (((rd_T74 ah ae).f0) != ((rd_T74 aj ae).f0)) = false := bne_eq_false_iff_eq.mpr dW
             clear dW; replace H := Option.bind_eq_some_iff.mp H
             obtain ⟨eh, ei, H⟩ := H
             replace H : (if eh = true then (laws_sameLoop.l1 k3 (wrap64 (ae + 1)) ak a0_1 af ah ap a1_1 ag aj) else (some false)) = some r := H
             have A42 := zK ei; clear ei
             by_cases c43 : eh = true
             ·subst c43
              have H1 : (laws_sameLoop.l1 k3 (wrap64 (ae + 1)) ak a0_1 af ah ap a1_1 ag aj) = some r := by rw [if_pos rfl] at H; exact H
              clear H; have H := H1; clear H1; have H' := zK H; clear H; have hnb44 := aA.out; have hnc44 := aB.out
              have hcz45_0 : wr.cell? ⟨ad, 0, none⟩ = some (.slice aM ak.length aN) := (blk_cell aa.out 0).trans rfl
              have hcz45_1 : wr.cell? ⟨ad, 1, none⟩ = some (.int .i64 a0_1) := (blk_cell aa.out 1).trans rfl
              have hcz45_2 : wr.cell? ⟨ad, 2, none⟩ = some (.slice a8 af.length a1) := (blk_cell aa.out 2).trans rfl
              have hcz45_3 : wr.cell? ⟨ad, 3, none⟩ = some (.slice a9 ah.length a2) := (blk_cell aa.out 3).trans rfl
              have hfz45_0 := blk_frozen aa.out 0; have hfz45_1 := blk_frozen aa.out 1; have hfz45_2 := blk_frozen aa.out 2; have hfz45_3 := blk_frozen aa.out 3
              try go_wp2
              have ca := zK (zD aa.out)
              have cb := zK (zD ac.out)
              have cc := zK (zE HB.out)
              clear aa ac HB; have aa := ca; have ac := cb; have HB := cc; clear ca cb cc
              have ch : 0 ≤ (ae : Int) := zd
              have ci : ae < (ah.length : Int) := zd
              obtain ⟨aG, bA, bB, df, ay, aq, be, bf⟩ := at_T74 cx.out ae ch ci
              have aI := aq; have aJ := ay
              cases df
              replace ay := (HB.out.cell (World.block_lt_of_cell? w _ ay)).trans ay
              replace aq := (HB.out.cell (World.block_lt_of_cell? w _ aq)).trans aq
              have bW := zK bf; have cU := zK be; clear bf be; replace ch := eq_true ch; replace ci := eq_true ci
              have cj : 0 ≤ (ae : Int) := zd
              have ck : ae < (aj.length : Int) := zd
              obtain ⟨aH, bC, bD, dg, az, ar, bg, bh⟩ := at_T74 cy.out ae cj ck
              have aK := ar; have aL := az
              cases dg
              replace az := (HB.out.cell (World.block_lt_of_cell? w _ az)).trans az
              replace ar := (HB.out.cell (World.block_lt_of_cell? w _ ar)).trans ar
              have bX := zK bh; have cV := zK bg; clear bh bg; replace cj := eq_true cj; replace ck := eq_true ck
              have cD : 0 ≤ (ae : Int) := zd
              have cE : ae < (ah.length : Int) := zd
              obtain ⟨dh, dX, dY, dZ, aT, aE, bY, bZ⟩ := at_T74 cx.out ae cD cE
              have a4 := aE; have a5 := aT
              obtain rfl : aG = dh := (by injection dZ)
              replace aT := (HB.out.cell (World.block_lt_of_cell? w _ aT)).trans aT
              replace aE := (HB.out.cell (World.block_lt_of_cell? w _ aE)).trans aE
              have b0 := zK bZ; have cv := zK bY; clear bZ bY; replace cD := eq_true cD; replace cE := eq_true cE
              have ea_ := Option.some.inj (aq.symm.trans aE)
              injection ea_ with ea_ en_ ec_
              subst ea_; subst ec_; clear en_
              have cF : 0 ≤ (ae : Int) := zd
              have cG : ae < (aj.length : Int) := zd
              obtain ⟨di, d0, d1, d2, aU, aF, b1, b2⟩ := at_T74 cy.out ae cF cG
              have a6 := aF; have a7 := aU
              obtain rfl : aH = di := (by injection d2)
              replace aU := (HB.out.cell (World.block_lt_of_cell? w _ aU)).trans aU
              replace aF := (HB.out.cell (World.block_lt_of_cell? w _ aF)).trans aF
              have b3 := zK b2; have cw := zK b1; clear b2 b1; replace cF := eq_true cF; replace cG := eq_true cG
              have ea_ := Option.some.inj (ar.symm.trans aF)
              injection ea_ with ea_ en_ ec_
              subst ea_; subst ec_; clear en_
              refine start_ (n := 29) (S := fun w' => w'.cell? ⟨ad, 0, none⟩ = some (.slice aM ak.length aN) ∧ w'.cell? ⟨ad, 1, none⟩ = some (.int .i64 a0_1) ∧ w'.cell? ⟨ad, 2, none⟩ = some (.slice a8 af.length a1) ∧ w'.cell? ⟨ad, 3, none⟩ = some (.slice (some aG) ah.length a2) ∧ w'.cell? ⟨ai, 0, none⟩ = some (.slice bi ap.length bj) ∧ w'.cell? ⟨ai, 1, none⟩ = some (.int .i64 a1_1) ∧ w'.cell? ⟨ai, 2, none⟩ = some (.slice bK ag.length bE) ∧ w'.cell? ⟨ai, 3, none⟩ = some (.slice (some aH) aj.length bF) ∧ w'.cell? (aG.add ((ae).toNat * 2)) = some (.int .i64 ((rd_T74 ah ae).f0)) ∧ w'.cell? ⟨(aG.add ((ae).toNat * 2)).block, (aG.add ((ae).toNat * 2)).off + 1, none⟩ = some (.slice bA ((rd_T74 ah ae).f1).length bB) ∧ w'.cell? (aH.add ((ae).toNat * 2)) = some (.int .i64 ((rd_T74 aj ae).f0)) ∧ w'.cell? ⟨(aH.add ((ae).toNat * 2)).block, (aH.add ((ae).toNat * 2)).off + 1, none⟩ = some (.slice bC ((rd_T74 aj ae).f1).length bD) ∧ w'.cell? (aG.add ((ae).toNat * 2)) = some (.int .i64 ((rd_T74 ah ae).f0)) ∧ w'.cell? ⟨(aG.add ((ae).toNat * 2)).block, (aG.add ((ae).toNat * 2)).off + 1, none⟩ = some (.slice bA ((rd_T74 ah ae).f1).length bB) ∧ w'.cell? (aH.add ((ae).toNat * 2)) = some (.int .i64 ((rd_T74 aj ae).f0)) ∧ w'.cell? ⟨(aH.add ((ae).toNat * 2)).block, (aH.add ((ae).toNat * 2)).off + 1, none⟩ = some (.slice bC ((rd_T74 aj ae).f1).length bD)) (ds := []) #[ff, ff, ff, ff, ff, ff, ff, ff, ff, ff, ff, ff, ff, ff, ff, ff, ff, ff, ff, ff, ff, ff, ff, ff, ff, ff, ff, ff, ff] (by kernel_rfl) rfl rfl ⟨(blk_cell aa.out 0).trans rfl, (blk_cell aa.out 1).trans rfl, (blk_cell aa.out 2).trans rfl, (blk_cell aa.out 3).trans rfl, (blk_cell ac.out 0).trans rfl, (blk_cell ac.out 1).trans rfl, (blk_cell ac.out 2).trans rfl, (blk_cell ac.out 3).trans rfl, ((HB.out.cell (World.block_lt_of_cell? w _ aJ)).trans aJ), ((HB.out.cell (World.block_lt_of_cell? w _ aI)).trans aI), ((HB.out.cell (World.block_lt_of_cell? w _ aL)).trans aL), ((HB.out.cell (World.block_lt_of_cell? w _ aK)).trans aK), ((HB.out.cell (World.block_lt_of_cell? w _ a5)).trans a5), ((HB.out.cell (World.block_lt_of_cell? w _ a4)).trans a4), ((HB.out.cell (World.block_lt_of_cell? w _ a7)).trans a7), ((HB.out.cell (World.block_lt_of_cell? w _ a6)).trans a6)⟩ (fun hHeld => ?_); refine with_tabW laws_sameLoop.tab11 laws_sameLoop.bits11 (fun HT_ HW_ => ?_)
              generalize wr.drew = w46 at aa ac HB bW bX b0 b3 ay aq az ar aT aE aU aF hHeld ⊢
              refine zu 0 (some 96) #[tt, ff, ff, ff, ff, ff, ff, ff, ff, ff, ff, ff, ff, ff, ff, ff, ff, ff, ff, ff, ff, ff, ff, ff, ff, ff, ff, ff, ff] (any_of HT_.out (by kernel_rfl)) ?_
              refine zu 2 (some 98) #[tt, ff, tt, ff, ff, ff, ff, ff, ff, ff, ff, ff, ff, ff, ff, ff, ff, ff, ff, ff, ff, ff, ff, ff, ff, ff, ff, ff, ff] (any_of HT_.out (by kernel_rfl)) ?_
              refine zu 6 (some 102) #[tt, ff, tt, ff, ff, ff, tt, ff, ff, ff, ff, ff, ff, ff, ff, ff, ff, ff, ff, ff, ff, ff, ff, ff, ff, ff, ff, ff, ff] (any_of HT_.out (by kernel_rfl)) ?_
              refine zu 8 (some 104) #[tt, ff, tt, ff, ff, ff, tt, ff, tt, ff, ff, ff, ff, ff, ff, ff, ff, ff, ff, ff, ff, ff, ff, ff, ff, ff, ff, ff, ff] (any_of HT_.out (by kernel_rfl)) ?_
              refine zt 1 (some 97) #[tt, tt, tt, ff, ff, ff, tt, ff, tt, ff, ff, ff, ff, ff, ff, ff, ff, ff, ff, ff, ff, ff, ff, ff, ff, ff, ff, ff, ff] (take_ofW HT_.out HW_.out (by kernel_rfl)) hHeld ?_
              refine zu 3 (some 99) #[tt, tt, tt, tt, ff, ff, tt, ff, tt, ff, ff, ff, ff, ff, ff, ff, ff, ff, ff, ff, ff, ff, ff, ff, ff, ff, ff, ff, ff] (any_of HT_.out (by kernel_rfl)) ?_
              refine zu 4 (some 100) #[tt, tt, tt, tt, tt, ff, tt, ff, tt, ff, ff, ff, ff, ff, ff, ff, ff, ff, ff, ff, ff, ff, ff, ff, ff, ff, ff, ff, ff] (any_of HT_.out (by kernel_rfl)) ?_
              refine zt 5 (some 101) #[tt, tt, tt, tt, tt, tt, tt, ff, tt, ff, ff, ff, ff, ff, ff, ff, ff, ff, ff, ff, ff, ff, ff, ff, ff, ff, ff, ff, ff] (take_ofW HT_.out HW_.out (by kernel_rfl)) hHeld ?_
              refine zt 7 (some 103) #[tt, tt, tt, tt, tt, tt, tt, tt, tt, ff, ff, ff, ff, ff, ff, ff, ff, ff, ff, ff, ff, ff, ff, ff, ff, ff, ff, ff, ff] (take_ofW HT_.out HW_.out (by kernel_rfl)) hHeld ?_
              refine zu 9 (some 105) #[tt, tt, tt, tt, tt, tt, tt, tt, tt, tt, ff, ff, ff, ff, ff, ff, ff, ff, ff, ff, ff, ff, ff, ff, ff, ff, ff, ff, ff] (any_of HT_.out (by kernel_rfl)) ?_
              refine zu 10 (some 106) #[tt, tt, tt, tt, tt, tt, tt, tt, tt, tt, tt, ff, ff, ff, ff, ff, ff, ff, ff, ff, ff, ff, ff, ff, ff, ff, ff, ff, ff] (any_of HT_.out (by kernel_rfl)) ?_
              refine zt 11 (some 107) #[tt, tt, tt, tt, tt, tt, tt, tt, tt, tt, tt, tt, ff, ff, ff, ff, ff, ff, ff, ff, ff, ff, ff, ff, ff, ff, ff, ff, ff] (take_ofW HT_.out HW_.out (by kernel_rfl)) hHeld ?_
              refine zu 12 (some 108) #[tt, tt, tt, tt, tt, tt, tt, tt, tt, tt, tt, tt, tt, ff, ff, ff, ff, ff, ff, ff, ff, ff, ff, ff, ff, ff, ff, ff, ff] (any_of HT_.out (by kernel_rfl)) ?_
              refine zu 13 (some 109) #[tt, tt, tt, tt, tt, tt, tt, tt, tt, tt, tt, tt, tt, tt, ff, ff, ff, ff, ff, ff, ff, ff, ff, ff, ff, ff, ff, ff, ff] (any_of HT_.out (by kernel_rfl)) ?_
              refine zu 14 (some 110) #[tt, tt, tt, tt, tt, tt, tt, tt, tt, tt, tt, tt, tt, tt, tt, ff, ff, ff, ff, ff, ff, ff, ff, ff, ff, ff, ff, ff, ff] (any_of HT_.out (by kernel_rfl)) ?_
              refine zu 16 (some 112) #[tt, tt, tt, tt, tt, tt, tt, tt, tt, tt, tt, tt, tt, tt, tt, ff, tt, ff, ff, ff, ff, ff, ff, ff, ff, ff, ff, ff, ff] (any_of HT_.out (by kernel_rfl)) ?_
              refine zu 20 (some 116) #[tt, tt, tt, tt, tt, tt, tt, tt, tt, tt, tt, tt, tt, tt, tt, ff, tt, ff, ff, ff, tt, ff, ff, ff, ff, ff, ff, ff, ff] (any_of HT_.out (by kernel_rfl)) ?_
              refine zu 22 (some 118) #[tt, tt, tt, tt, tt, tt, tt, tt, tt, tt, tt, tt, tt, tt, tt, ff, tt, ff, ff, ff, tt, ff, tt, ff, ff, ff, ff, ff, ff] (any_of HT_.out (by kernel_rfl)) ?_
              refine zt 15 (some 111) #[tt, tt, tt, tt, tt, tt, tt, tt, tt, tt, tt, tt, tt, tt, tt, tt, tt, ff, ff, ff, tt, ff, tt, ff, ff, ff, ff, ff, ff] (take_ofW HT_.out HW_.out (by kernel_rfl)) hHeld ?_
              refine zu 17 (some 113) #[tt, tt, tt, tt, tt, tt, tt, tt, tt, tt, tt, tt, tt, tt, tt, tt, tt, tt, ff, ff, tt, ff, tt, ff, ff, ff, ff, ff, ff] (any_of HT_.out (by kernel_rfl)) ?_
              refine zu 18 (some 114) #[tt, tt, tt, tt, tt, tt, tt, tt, tt, tt, tt, tt, tt, tt, tt, tt, tt, tt, tt, ff, tt, ff, tt, ff, ff, ff, ff, ff, ff] (any_of HT_.out (by kernel_rfl)) ?_
              refine zt 19 (some 115) #[tt, tt, tt, tt, tt, tt, tt, tt, tt, tt, tt, tt, tt, tt, tt, tt, tt, tt, tt, tt, tt, ff, tt, ff, ff, ff, ff, ff, ff] (take_ofW HT_.out HW_.out (by kernel_rfl)) hHeld ?_
              refine zt 21 (some 117) #[tt, tt, tt, tt, tt, tt, tt, tt, tt, tt, tt, tt, tt, tt, tt, tt, tt, tt, tt, tt, tt, tt, tt, ff, ff, ff, ff, ff, ff] (take_ofW HT_.out HW_.out (by kernel_rfl)) hHeld ?_
              refine zu 23 (some 119) #[tt, tt, tt, tt, tt, tt, tt, tt, tt, tt, tt, tt, tt, tt, tt, tt, tt, tt, tt, tt, tt, tt, tt, tt, ff, ff, ff, ff, ff] (any_of HT_.out (by kernel_rfl)) ?_
              refine zu 24 (some 120) #[tt, tt, tt, tt, tt, tt, tt, tt, tt, tt, tt, tt, tt, tt, tt, tt, tt, tt, tt, tt, tt, tt, tt, tt, tt, ff, ff, ff, ff] (any_of HT_.out (by kernel_rfl)) ?_
              refine zt 25 (some 121) #[tt, tt, tt, tt, tt, tt, tt, tt, tt, tt, tt, tt, tt, tt, tt, tt, tt, tt, tt, tt, tt, tt, tt, tt, tt, tt, ff, ff, ff] (take_ofW HT_.out HW_.out (by kernel_rfl)) hHeld ?_
              refine one_ (i := 26) (N := some 122) #[tt, tt, tt, tt, tt, tt, tt, tt, tt, tt, tt, tt, tt, tt, tt, tt, tt, tt, tt, tt, tt, tt, tt, tt, tt, tt, tt, ff, ff] rfl rfl (one_of HT_.out (by kernel_rfl)) (by decide) (fun K hK => ?_)
              refine goes_ Try.func27 (by kernel_rfl) rfl #[.slice bA ((rd_T74 ah ae).f1).length bB, .slice bC ((rd_T74 aj ae).f1).length bD] (by rfl) rfl rfl zg ?_
              with_reducible refine (laws_sameInts.calls k3 _ _ ((rd_T74 ah ae).f1) _ _ ((rd_T74 aj ae).f1) true _ ?side1 ?side2 ?side3 ?side4 A42.out).mono ?_
              (case side1 => exact zs (Kd.C_below b0.out HB.out))
              (case side2 => exact cv.out)
              (case side3 => exact zs (Kd.C_below b3.out HB.out))
              (case side4 => exact cw.out)
              rintro e w' ⟨rfl, ⟨nd, rfl⟩⟩
              refine ⟨_, rfl, ?_⟩
              refine hK.out _ _ ⟨(blk_cell aa.out 0).trans rfl, (blk_cell aa.out 1).trans rfl, (blk_cell aa.out 2).trans rfl, (blk_cell aa.out 3).trans rfl, (blk_cell ac.out 0).trans rfl, (blk_cell ac.out 1).trans rfl, (blk_cell ac.out 2).trans rfl, (blk_cell ac.out 3).trans rfl, ((HB.out.cell (World.block_lt_of_cell? w _ aJ)).trans aJ), ((HB.out.cell (World.block_lt_of_cell? w _ aI)).trans aI), ((HB.out.cell (World.block_lt_of_cell? w _ aL)).trans aL), ((HB.out.cell (World.block_lt_of_cell? w _ aK)).trans aK), ((HB.out.cell (World.block_lt_of_cell? w _ a5)).trans a5), ((HB.out.cell (World.block_lt_of_cell? w _ a4)).trans a4), ((HB.out.cell (World.block_lt_of_cell? w _ a7)).trans a7), ((HB.out.cell (World.block_lt_of_cell? w _ a6)).trans a6)⟩ (fun hHeld => ?_)
              clear hK K
              refine norm_ (a' := ?_) ?_ ?_
              rotate_left
              ·show Act.put _ (some 122) _ = _
               simp only [Act.put, zp, zq, zr, i64_w, i32_w]
               rfl
              refine zu 27 (some 123) #[tt, tt, tt, tt, tt, tt, tt, tt, tt, tt, tt, tt, tt, tt, tt, tt, tt, tt, tt, tt, tt, tt, tt, tt, tt, tt, tt, tt, ff] (any_of HT_.out (by kernel_rfl)) ?_
              refine zu 28 (some 124) #[tt, tt, tt, tt, tt, tt, tt, tt, tt, tt, tt, tt, tt, tt, tt, tt, tt, tt, tt, tt, tt, tt, tt, tt, tt, tt, tt, tt, tt] (any_of HT_.out (by kernel_rfl)) ?_
              refine done_ (done_of HT_.out (by kernel_rfl)) ?_
              try go_wp2
              go_roundg k3
              case measure => have := dG.out; have := dH.out; have := HK3.out; omega
              case rel => exact ⟨(wrap64 (ae + 1)), zf, H', ⟨by have := dG.out; have := dH.out; have := HK3.out; omega⟩, ⟨zk aa⟩, ⟨zk ac⟩, ⟨zb HB⟩⟩
             ·replace c43 := Bool.eq_false_iff.mpr c43
              subst c43
              have H1 : (some false) = some r := by rw [if_neg (show ¬ (false = true) by decide)] at H; exact H
              clear H; have H := H1; clear H1; obtain rfl := Option.some.inj H; have hnb47 := aA.out; have hnc47 := aB.out
              have hcz48_0 : wr.cell? ⟨ad, 0, none⟩ = some (.slice aM ak.length aN) := (blk_cell aa.out 0).trans rfl
              have hcz48_1 : wr.cell? ⟨ad, 1, none⟩ = some (.int .i64 a0_1) := (blk_cell aa.out 1).trans rfl
              have hcz48_2 : wr.cell? ⟨ad, 2, none⟩ = some (.slice a8 af.length a1) := (blk_cell aa.out 2).trans rfl
              have hcz48_3 : wr.cell? ⟨ad, 3, none⟩ = some (.slice a9 ah.length a2) := (blk_cell aa.out 3).trans rfl
              have hfz48_0 := blk_frozen aa.out 0; have hfz48_1 := blk_frozen aa.out 1; have hfz48_2 := blk_frozen aa.out 2; have hfz48_3 := blk_frozen aa.out 3
              try go_wp2
              have ca := zK (zD aa.out)
              have cb := zK (zD ac.out)
              have cc := zK (zE HB.out)
              clear aa ac HB; have aa := ca; have ac := cb; have HB := cc; clear ca cb cc
              have ch : 0 ≤ (ae : Int) := zd
              have ci : ae < (ah.length : Int) := zd
              obtain ⟨aG, bA, bB, df, ay, aq, be, bf⟩ := at_T74 cx.out ae ch ci
              have aI := aq; have aJ := ay
              cases df
              replace ay := (HB.out.cell (World.block_lt_of_cell? w _ ay)).trans ay
              replace aq := (HB.out.cell (World.block_lt_of_cell? w _ aq)).trans aq
              have bW := zK bf; have cU := zK be; clear bf be; replace ch := eq_true ch; replace ci := eq_true ci
              have cj : 0 ≤ (ae : Int) := zd
              have ck : ae < (aj.length : Int) := zd
              obtain ⟨aH, bC, bD, dg, az, ar, bg, bh⟩ := at_T74 cy.out ae cj ck
              have aK := ar; have aL := az
              cases dg
              replace az := (HB.out.cell (World.block_lt_of_cell? w _ az)).trans az
              replace ar := (HB.out.cell (World.block_lt_of_cell? w _ ar)).trans ar
              have bX := zK bh; have cV := zK bg; clear bh bg; replace cj := eq_true cj; replace ck := eq_true ck
              have cD : 0 ≤ (ae : Int) := zd
              have cE : ae < (ah.length : Int) := zd
              obtain ⟨dh, dX, dY, dZ, aT, aE, bY, bZ⟩ := at_T74 cx.out ae cD cE
              have a4 := aE; have a5 := aT
              obtain rfl : aG = dh := (by injection dZ)
              replace aT := (HB.out.cell (World.block_lt_of_cell? w _ aT)).trans aT
              replace aE := (HB.out.cell (World.block_lt_of_cell? w _ aE)).trans aE
              have b0 := zK bZ; have cv := zK bY; clear bZ bY; replace cD := eq_true cD; replace cE := eq_true cE
              have ea_ := Option.some.inj (aq.symm.trans aE)
              injection ea_ with ea_ en_ ec_
              subst ea_; subst ec_; clear en_
              have cF : 0 ≤ (ae : Int) := zd
              have cG : ae < (aj.length : Int) := zd
              obtain ⟨di, d0, d1, d2, aU, aF, b1, b2⟩ := at_T74 cy.out ae cF cG
              have a6 := aF; have a7 := aU
              obtain rfl : aH = di := (by injection d2)
              replace aU := (HB.out.cell (World.block_lt_of_cell? w _ aU)).trans aU
              replace aF := (HB.out.cell (World.block_lt_of_cell? w _ aF)).trans aF
              have b3 := zK b2; have cw := zK b1; clear b2 b1; replace cF := eq_true cF; replace cG := eq_true cG
              have ea_ := Option.some.inj (ar.symm.trans aF)
              injection ea_ with ea_ en_ ec_
              subst ea_; subst ec_; clear en_
              refine start_ (n := 29) (S := fun w' => w'.cell? ⟨ad, 0, none⟩ = some (.slice aM ak.length aN) ∧ w'.cell? ⟨ad, 1, none⟩ = some (.int .i64 a0_1) ∧ w'.cell? ⟨ad, 2, none⟩ = some (.slice a8 af.length a1) ∧ w'.cell? ⟨ad, 3, none⟩ = some (.slice (some aG) ah.length a2) ∧ w'.cell? ⟨ai, 0, none⟩ = some (.slice bi ap.length bj) ∧ w'.cell? ⟨ai, 1, none⟩ = some (.int .i64 a1_1) ∧ w'.cell? ⟨ai, 2, none⟩ = some (.slice bK ag.length bE) ∧ w'.cell? ⟨ai, 3, none⟩ = some (.slice (some aH) aj.length bF) ∧ w'.cell? (aG.add ((ae).toNat * 2)) = some (.int .i64 ((rd_T74 ah ae).f0)) ∧ w'.cell? ⟨(aG.add ((ae).toNat * 2)).block, (aG.add ((ae).toNat * 2)).off + 1, none⟩ = some (.slice bA ((rd_T74 ah ae).f1).length bB) ∧ w'.cell? (aH.add ((ae).toNat * 2)) = some (.int .i64 ((rd_T74 aj ae).f0)) ∧ w'.cell? ⟨(aH.add ((ae).toNat * 2)).block, (aH.add ((ae).toNat * 2)).off + 1, none⟩ = some (.slice bC ((rd_T74 aj ae).f1).length bD) ∧ w'.cell? (aG.add ((ae).toNat * 2)) = some (.int .i64 ((rd_T74 ah ae).f0)) ∧ w'.cell? ⟨(aG.add ((ae).toNat * 2)).block, (aG.add ((ae).toNat * 2)).off + 1, none⟩ = some (.slice bA ((rd_T74 ah ae).f1).length bB) ∧ w'.cell? (aH.add ((ae).toNat * 2)) = some (.int .i64 ((rd_T74 aj ae).f0)) ∧ w'.cell? ⟨(aH.add ((ae).toNat * 2)).block, (aH.add ((ae).toNat * 2)).off + 1, none⟩ = some (.slice bC ((rd_T74 aj ae).f1).length bD)) (ds := []) #[ff, ff, ff, ff, ff, ff, ff, ff, ff, ff, ff, ff, ff, ff, ff, ff, ff, ff, ff, ff, ff, ff, ff, ff, ff, ff, ff, ff, ff] (by kernel_rfl) rfl rfl ⟨(blk_cell aa.out 0).trans rfl, (blk_cell aa.out 1).trans rfl, (blk_cell aa.out 2).trans rfl, (blk_cell aa.out 3).trans rfl, (blk_cell ac.out 0).trans rfl, (blk_cell ac.out 1).trans rfl, (blk_cell ac.out 2).trans rfl, (blk_cell ac.out 3).trans rfl, ((HB.out.cell (World.block_lt_of_cell? w _ aJ)).trans aJ), ((HB.out.cell (World.block_lt_of_cell? w _ aI)).trans aI), ((HB.out.cell (World.block_lt_of_cell? w _ aL)).trans aL), ((HB.out.cell (World.block_lt_of_cell? w _ aK)).trans aK), ((HB.out.cell (World.block_lt_of_cell? w _ a5)).trans a5), ((HB.out.cell (World.block_lt_of_cell? w _ a4)).trans a4), ((HB.out.cell (World.block_lt_of_cell? w _ a7)).trans a7), ((HB.out.cell (World.block_lt_of_cell? w _ a6)).trans a6)⟩ (fun hHeld => ?_); refine with_tabW laws_sameLoop.tab11 laws_sameLoop.bits11 (fun HT_ HW_ => ?_)
              generalize wr.drew = w49 at aa ac HB bW bX b0 b3 ay aq az ar aT aE aU aF hHeld ⊢
              refine zu 0 (some 96) #[tt, ff, ff, ff, ff, ff, ff, ff, ff, ff, ff, ff, ff, ff, ff, ff, ff, ff, ff, ff, ff, ff, ff, ff, ff, ff, ff, ff, ff] (any_of HT_.out (by kernel_rfl)) ?_
              refine zu 2 (some 98) #[tt, ff, tt, ff, ff, ff, ff, ff, ff, ff, ff, ff, ff, ff, ff, ff, ff, ff, ff, ff, ff, ff, ff, ff, ff, ff, ff, ff, ff] (any_of HT_.out (by kernel_rfl)) ?_
              refine zu 6 (some 102) #[tt, ff, tt, ff, ff, ff, tt, ff, ff, ff, ff, ff, ff, ff, ff, ff, ff, ff, ff, ff, ff, ff, ff, ff, ff, ff, ff, ff, ff] (any_of HT_.out (by kernel_rfl)) ?_
              refine zu 8 (some 104) #[tt, ff, tt, ff, ff, ff, tt, ff, tt, ff, ff, ff, ff, ff, ff, ff, ff, ff, ff, ff, ff, ff, ff, ff, ff, ff, ff, ff, ff] (any_of HT_.out (by kernel_rfl)) ?_
              refine zt 1 (some 97) #[tt, tt, tt, ff, ff, ff, tt, ff, tt, ff, ff, ff, ff, ff, ff, ff, ff, ff, ff, ff, ff, ff, ff, ff, ff, ff, ff, ff, ff] (take_ofW HT_.out HW_.out (by kernel_rfl)) hHeld ?_
              refine zu 3 (some 99) #[tt, tt, tt, tt, ff, ff, tt, ff, tt, ff, ff, ff, ff, ff, ff, ff, ff, ff, ff, ff, ff, ff, ff, ff, ff, ff, ff, ff, ff] (any_of HT_.out (by kernel_rfl)) ?_
              refine zu 4 (some 100) #[tt, tt, tt, tt, tt, ff, tt, ff, tt, ff, ff, ff, ff, ff, ff, ff, ff, ff, ff, ff, ff, ff, ff, ff, ff, ff, ff, ff, ff] (any_of HT_.out (by kernel_rfl)) ?_
              refine zt 5 (some 101) #[tt, tt, tt, tt, tt, tt, tt, ff, tt, ff, ff, ff, ff, ff, ff, ff, ff, ff, ff, ff, ff, ff, ff, ff, ff, ff, ff, ff, ff] (take_ofW HT_.out HW_.out (by kernel_rfl)) hHeld ?_
              refine zt 7 (some 103) #[tt, tt, tt, tt, tt, tt, tt, tt, tt, ff, ff, ff, ff, ff, ff, ff, ff, ff, ff, ff, ff, ff, ff, ff, ff, ff, ff, ff, ff] (take_ofW HT_.out HW_.out (by kernel_rfl)) hHeld ?_
              refine zu 9 (some 105) #[tt, tt, tt, tt, tt, tt, tt, tt, tt, tt, ff, ff, ff, ff, ff, ff, ff, ff, ff, ff, ff, ff, ff, ff, ff, ff, ff, ff, ff] (any_of HT_.out (by kernel_rfl)) ?_
              refine zu 10 (some 106) #[tt, tt, tt, tt, tt, tt, tt, tt, tt, tt, tt, ff, ff, ff, ff, ff, ff, ff, ff, ff, ff, ff, ff, ff, ff, ff, ff, ff, ff] (any_of HT_.out (by kernel_rfl)) ?_
              refine zt 11 (some 107) #[tt, tt, tt, tt, tt, tt, tt, tt, tt, tt, tt, tt, ff, ff, ff, ff, ff, ff, ff, ff, ff, ff, ff, ff, ff, ff, ff, ff, ff] (take_ofW HT_.out HW_.out (by kernel_rfl)) hHeld ?_
              refine zu 12 (some 108) #[tt, tt, tt, tt, tt, tt, tt, tt, tt, tt, tt, tt, tt, ff, ff, ff, ff, ff, ff, ff, ff, ff, ff, ff, ff, ff, ff, ff, ff] (any_of HT_.out (by kernel_rfl)) ?_
              refine zu 13 (some 109) #[tt, tt, tt, tt, tt, tt, tt, tt, tt, tt, tt, tt, tt, tt, ff, ff, ff, ff, ff, ff, ff, ff, ff, ff, ff, ff, ff, ff, ff] (any_of HT_.out (by kernel_rfl)) ?_
              refine zu 14 (some 110) #[tt, tt, tt, tt, tt, tt, tt, tt, tt, tt, tt, tt, tt, tt, tt, ff, ff, ff, ff, ff, ff, ff, ff, ff, ff, ff, ff, ff, ff] (any_of HT_.out (by kernel_rfl)) ?_
              refine zu 16 (some 112) #[tt, tt, tt, tt, tt, tt, tt, tt, tt, tt, tt, tt, tt, tt, tt, ff, tt, ff, ff, ff, ff, ff, ff, ff, ff, ff, ff, ff, ff] (any_of HT_.out (by kernel_rfl)) ?_
              refine zu 20 (some 116) #[tt, tt, tt, tt, tt, tt, tt, tt, tt, tt, tt, tt, tt, tt, tt, ff, tt, ff, ff, ff, tt, ff, ff, ff, ff, ff, ff, ff, ff] (any_of HT_.out (by kernel_rfl)) ?_
              refine zu 22 (some 118) #[tt, tt, tt, tt, tt, tt, tt, tt, tt, tt, tt, tt, tt, tt, tt, ff, tt, ff, ff, ff, tt, ff, tt, ff, ff, ff, ff, ff, ff] (any_of HT_.out (by kernel_rfl)) ?_
              refine zt 15 (some 111) #[tt, tt, tt, tt, tt, tt, tt, tt, tt, tt, tt, tt, tt, tt, tt, tt, tt, ff, ff, ff, tt, ff, tt, ff, ff, ff, ff, ff, ff] (take_ofW HT_.out HW_.out (by kernel_rfl)) hHeld ?_
              refine zu 17 (some 113) #[tt, tt, tt, tt, tt, tt, tt, tt, tt, tt, tt, tt, tt, tt, tt, tt, tt, tt, ff, ff, tt, ff, tt, ff, ff, ff, ff, ff, ff] (any_of HT_.out (by kernel_rfl)) ?_
              refine zu 18 (some 114) #[tt, tt, tt, tt, tt, tt, tt, tt, tt, tt, tt, tt, tt, tt, tt, tt, tt, tt, tt, ff, tt, ff, tt, ff, ff, ff, ff, ff, ff] (any_of HT_.out (by kernel_rfl)) ?_
              refine zt 19 (some 115) #[tt, tt, tt, tt, tt, tt, tt, tt, tt, tt, tt, tt, tt, tt, tt, tt, tt, tt, tt, tt, tt, ff, tt, ff, ff, ff, ff, ff, ff] (take_ofW HT_.out HW_.out (by kernel_rfl)) hHeld ?_
              refine zt 21 (some 117) #[tt, tt, tt, tt, tt, tt, tt, tt, tt, tt, tt, tt, tt, tt, tt, tt, tt, tt, tt, tt, tt, tt, tt, ff, ff, ff, ff, ff, ff] (take_ofW HT_.out HW_.out (by kernel_rfl)) hHeld ?_
              refine zu 23 (some 119) #[tt, tt, tt, tt, tt, tt, tt, tt, tt, tt, tt, tt, tt, tt, tt, tt, tt, tt, tt, tt, tt, tt, tt, tt, ff, ff, ff, ff, ff] (any_of HT_.out (by kernel_rfl)) ?_
              refine zu 24 (some 120) #[tt, tt, tt, tt, tt, tt, tt, tt, tt, tt, tt, tt, tt, tt, tt, tt, tt, tt, tt, tt, tt, tt, tt, tt, tt, ff, ff, ff, ff] (any_of HT_.out (by kernel_rfl)) ?_
              refine zt 25 (some 121) #[tt, tt, tt, tt, tt, tt, tt, tt, tt, tt, tt, tt, tt, tt, tt, tt, tt, tt, tt, tt, tt, tt, tt, tt, tt, tt, ff, ff, ff] (take_ofW HT_.out HW_.out (by kernel_rfl)) hHeld ?_
              refine one_ (i := 26) (N := some 122) #[tt, tt, tt, tt, tt, tt, tt, tt, tt, tt, tt, tt, tt, tt, tt, tt, tt, tt, tt, tt, tt, tt, tt, tt, tt, tt, tt, ff, ff] rfl rfl (one_of HT_.out (by kernel_rfl)) (by decide) (fun K hK => ?_)
              refine goes_ Try.func27 (by kernel_rfl) rfl #[.slice bA ((rd_T74 ah ae).f1).length bB, .slice bC ((rd_T74 aj ae).f1).length bD] (by rfl) rfl rfl zg ?_
              with_reducible refine (laws_sameInts.calls k3 _ _ ((rd_T74 ah ae).f1) _ _ ((rd_T74 aj ae).f1) false _ ?side1 ?side2 ?side3 ?side4 A42.out).mono ?_
              (case side1 => exact zs (Kd.C_below b0.out HB.out))
              (case side2 => exact cv.out)
              (case side3 => exact zs (Kd.C_below b3.out HB.out))
              (case side4 => exact cw.out)
              rintro e w' ⟨rfl, ⟨nd, rfl⟩⟩
              refine ⟨_, rfl, ?_⟩
              refine hK.out _ _ ⟨(blk_cell aa.out 0).trans rfl, (blk_cell aa.out 1).trans rfl, (blk_cell aa.out 2).trans rfl, (blk_cell aa.out 3).trans rfl, (blk_cell ac.out 0).trans rfl, (blk_cell ac.out 1).trans rfl, (blk_cell ac.out 2).trans rfl, (blk_cell ac.out 3).trans rfl, ((HB.out.cell (World.block_lt_of_cell? w _ aJ)).trans aJ), ((HB.out.cell (World.block_lt_of_cell? w _ aI)).trans aI), ((HB.out.cell (World.block_lt_of_cell? w _ aL)).trans aL), ((HB.out.cell (World.block_lt_of_cell? w _ aK)).trans aK), ((HB.out.cell (World.block_lt_of_cell? w _ a5)).trans a5), ((HB.out.cell (World.block_lt_of_cell? w _ a4)).trans a4), ((HB.out.cell (World.block_lt_of_cell? w _ a7)).trans a7), ((HB.out.cell (World.block_lt_of_cell? w _ a6)).trans a6)⟩ (fun hHeld => ?_)
              clear hK K
              refine norm_ (a' := ?_) ?_ ?_
              rotate_left
              ·show Act.put _ (some 122) _ = _
               simp only [Act.put, zp, zq, zr, i64_w, i32_w]
               rfl
              refine zu 27 (some 123) #[tt, tt, tt, tt, tt, tt, tt, tt, tt, tt, tt, tt, tt, tt, tt, tt, tt, tt, tt, tt, tt, tt, tt, tt, tt, tt, tt, tt, ff] (any_of HT_.out (by kernel_rfl)) ?_
              refine zu 28 (some 124) #[tt, tt, tt, tt, tt, tt, tt, tt, tt, tt, tt, tt, tt, tt, tt, tt, tt, tt, tt, tt, tt, tt, tt, tt, tt, tt, tt, tt, tt] (any_of HT_.out (by kernel_rfl)) ?_
              refine done_ (done_of HT_.out (by kernel_rfl)) ?_
              try go_wp2
              go_ret
              exact ⟨ze, zb HB⟩
            ·rw [if_neg dW] at H
             have ef : (((rd_T74 ah ae).f0) == ((rd_T74 aj ae).f0)) = false := beq_eq_false_iff_ne.mpr dW
             have eg : (((rd_T74 ah ae).f0) != ((rd_T74 aj ae).f0)) = true := bne_iff_ne.mpr dW
             obtain rfl := Option.some.inj H; have hnb50 := aA.out; have hnc50 := aB.out
             have hcz51_0 : wr.cell? ⟨ad, 0, none⟩ = some (.slice aM ak.length aN) := (blk_cell aa.out 0).trans rfl
             have hcz51_1 : wr.cell? ⟨ad, 1, none⟩ = some (.int .i64 a0_1) := (blk_cell aa.out 1).trans rfl
             have hcz51_2 : wr.cell? ⟨ad, 2, none⟩ = some (.slice a8 af.length a1) := (blk_cell aa.out 2).trans rfl
             have hcz51_3 : wr.cell? ⟨ad, 3, none⟩ = some (.slice a9 ah.length a2) := (blk_cell aa.out 3).trans rfl
             have hfz51_0 := blk_frozen aa.out 0; have hfz51_1 := blk_frozen aa.out 1; have hfz51_2 := blk_frozen aa.out 2; have hfz51_3 := blk_frozen aa.out 3
             try go_wp2
             have ca := zK (zD aa.out)
             have cb := zK (zD ac.out)
             have cc := zK (zE HB.out)
             clear aa ac HB; have aa := ca; have ac := cb; have HB := cc; clear ca cb cc
             have ch : 0 ≤ (ae : Int) := zd
             have ci : ae < (ah.length : Int) := zd
             obtain ⟨aG, bA, bB, df, ay, aq, be, bf⟩ := at_T74 cx.out ae ch ci
             have aI := aq; have aJ := ay
             cases df
             replace ay := (HB.out.cell (World.block_lt_of_cell? w _ ay)).trans ay
             replace aq := (HB.out.cell (World.block_lt_of_cell? w _ aq)).trans aq
             have bW := zK bf; have cU := zK be; clear bf be; replace ch := eq_true ch; replace ci := eq_true ci
             have cj : 0 ≤ (ae : Int) := zd
             have ck : ae < (aj.length : Int) := zd
             obtain ⟨aH, bC, bD, dg, az, ar, bg, bh⟩ := at_T74 cy.out ae cj ck
             have aK := ar; have aL := az
             cases dg
             replace az := (HB.out.cell (World.block_lt_of_cell? w _ az)).trans az
             replace ar := (HB.out.cell (World.block_lt_of_cell? w _ ar)).trans ar
             have bX := zK bh; have cV := zK bg; clear bh bg; replace cj := eq_true cj; replace ck := eq_true ck
             refine start_ (n := 29) (S := fun w' => w'.cell? ⟨ad, 0, none⟩ = some (.slice aM ak.length aN) ∧ w'.cell? ⟨ad, 1, none⟩ = some (.int .i64 a0_1) ∧ w'.cell? ⟨ad, 2, none⟩ = some (.slice a8 af.length a1) ∧ w'.cell? ⟨ad, 3, none⟩ = some (.slice (some aG) ah.length a2) ∧ w'.cell? ⟨ai, 0, none⟩ = some (.slice bi ap.length bj) ∧ w'.cell? ⟨ai, 1, none⟩ = some (.int .i64 a1_1) ∧ w'.cell? ⟨ai, 2, none⟩ = some (.slice bK ag.length bE) ∧ w'.cell? ⟨ai, 3, none⟩ = some (.slice (some aH) aj.length bF) ∧ w'.cell? (aG.add ((ae).toNat * 2)) = some (.int .i64 ((rd_T74 ah ae).f0)) ∧ w'.cell? ⟨(aG.add ((ae).toNat * 2)).block, (aG.add ((ae).toNat * 2)).off + 1, none⟩ = some (.slice bA ((rd_T74 ah ae).f1).length bB) ∧ w'.cell? (aH.add ((ae).toNat * 2)) = some (.int .i64 ((rd_T74 aj ae).f0)) ∧ w'.cell? ⟨(aH.add ((ae).toNat * 2)).block, (aH.add ((ae).toNat * 2)).off + 1, none⟩ = some (.slice bC ((rd_T74 aj ae).f1).length bD)) (ds := []) #[ff, ff, ff, ff, ff, ff, ff, ff, ff, ff, ff, ff, ff, ff, ff, ff, ff, ff, ff, ff, ff, ff, ff, ff, ff, ff, ff, ff, ff] (by kernel_rfl) rfl rfl ⟨(blk_cell aa.out 0).trans rfl, (blk_cell aa.out 1).trans rfl, (blk_cell aa.out 2).trans rfl, (blk_cell aa.out 3).trans rfl, (blk_cell ac.out 0).trans rfl, (blk_cell ac.out 1).trans rfl, (blk_cell ac.out 2).trans rfl, (blk_cell ac.out 3).trans rfl, ((HB.out.cell (World.block_lt_of_cell? w _ aJ)).trans aJ), ((HB.out.cell (World.block_lt_of_cell? w _ aI)).trans aI), ((HB.out.cell (World.block_lt_of_cell? w _ aL)).trans aL), ((HB.out.cell (World.block_lt_of_cell? w _ aK)).trans aK)⟩ (fun hHeld => ?_); refine with_tabW laws_sameLoop.tab11 laws_sameLoop.bits11 (fun HT_ HW_ => ?_)
             generalize wr.drew = w52 at aa ac HB bW bX ay aq az ar hHeld ⊢
             refine zu 0 (some 96) #[tt, ff, ff, ff, ff, ff, ff, ff, ff, ff, ff, ff, ff, ff, ff, ff, ff, ff, ff, ff, ff, ff, ff, ff, ff, ff, ff, ff, ff] (any_of HT_.out (by kernel_rfl)) ?_
             refine zu 2 (some 98) #[tt, ff, tt, ff, ff, ff, ff, ff, ff, ff, ff, ff, ff, ff, ff, ff, ff, ff, ff, ff, ff, ff, ff, ff, ff, ff, ff, ff, ff] (any_of HT_.out (by kernel_rfl)) ?_
             refine zu 6 (some 102) #[tt, ff, tt, ff, ff, ff, tt, ff, ff, ff, ff, ff, ff, ff, ff, ff, ff, ff, ff, ff, ff, ff, ff, ff, ff, ff, ff, ff, ff] (any_of HT_.out (by kernel_rfl)) ?_
             refine zu 8 (some 104) #[tt, ff, tt, ff, ff, ff, tt, ff, tt, ff, ff, ff, ff, ff, ff, ff, ff, ff, ff, ff, ff, ff, ff, ff, ff, ff, ff, ff, ff] (any_of HT_.out (by kernel_rfl)) ?_
             refine zt 1 (some 97) #[tt, tt, tt, ff, ff, ff, tt, ff, tt, ff, ff, ff, ff, ff, ff, ff, ff, ff, ff, ff, ff, ff, ff, ff, ff, ff, ff, ff, ff] (take_ofW HT_.out HW_.out (by kernel_rfl)) hHeld ?_
             refine zu 3 (some 99) #[tt, tt, tt, tt, ff, ff, tt, ff, tt, ff, ff, ff, ff, ff, ff, ff, ff, ff, ff, ff, ff, ff, ff, ff, ff, ff, ff, ff, ff] (any_of HT_.out (by kernel_rfl)) ?_
             refine zu 4 (some 100) #[tt, tt, tt, tt, tt, ff, tt, ff, tt, ff, ff, ff, ff, ff, ff, ff, ff, ff, ff, ff, ff, ff, ff, ff, ff, ff, ff, ff, ff] (any_of HT_.out (by kernel_rfl)) ?_
             refine zt 5 (some 101) #[tt, tt, tt, tt, tt, tt, tt, ff, tt, ff, ff, ff, ff, ff, ff, ff, ff, ff, ff, ff, ff, ff, ff, ff, ff, ff, ff, ff, ff] (take_ofW HT_.out HW_.out (by kernel_rfl)) hHeld ?_
             refine zt 7 (some 103) #[tt, tt, tt, tt, tt, tt, tt, tt, tt, ff, ff, ff, ff, ff, ff, ff, ff, ff, ff, ff, ff, ff, ff, ff, ff, ff, ff, ff, ff] (take_ofW HT_.out HW_.out (by kernel_rfl)) hHeld ?_
             refine zu 9 (some 105) #[tt, tt, tt, tt, tt, tt, tt, tt, tt, tt, ff, ff, ff, ff, ff, ff, ff, ff, ff, ff, ff, ff, ff, ff, ff, ff, ff, ff, ff] (any_of HT_.out (by kernel_rfl)) ?_
             refine zu 10 (some 106) #[tt, tt, tt, tt, tt, tt, tt, tt, tt, tt, tt, ff, ff, ff, ff, ff, ff, ff, ff, ff, ff, ff, ff, ff, ff, ff, ff, ff, ff] (any_of HT_.out (by kernel_rfl)) ?_
             refine zt 11 (some 107) #[tt, tt, tt, tt, tt, tt, tt, tt, tt, tt, tt, tt, ff, ff, ff, ff, ff, ff, ff, ff, ff, ff, ff, ff, ff, ff, ff, ff, ff] (take_ofW HT_.out HW_.out (by kernel_rfl)) hHeld ?_
             refine zu 12 (some 108) #[tt, tt, tt, tt, tt, tt, tt, tt, tt, tt, tt, tt, tt, ff, ff, ff, ff, ff, ff, ff, ff, ff, ff, ff, ff, ff, ff, ff, ff] (any_of HT_.out (by kernel_rfl)) ?_
             refine zu 13 (some 109) #[tt, tt, tt, tt, tt, tt, tt, tt, tt, tt, tt, tt, tt, tt, ff, ff, ff, ff, ff, ff, ff, ff, ff, ff, ff, ff, ff, ff, ff] (any_of HT_.out (by kernel_rfl)) ?_
             refine pure_ (i := 14) (N := some 110) (v := undef) (a' := ?_) #[tt, tt, tt, tt, tt, tt, tt, tt, tt, tt, tt, tt, tt, tt, tt, ff, ff, ff, ff, ff, ff, ff, ff, ff, ff, ff, ff, ff, ff] rfl rfl (any_of HT_.out (by kernel_rfl)) (fun _ _ _ h => h) (Or.inr ⟨by rfl, rfl⟩) ?_ ?_
             rotate_left
             ·simp only [Act.put, zp, zq, zr, i64_w, i32_w]
              rfl
             refine pure_ (i := 15) (N := some 111) (v := undef) (a' := ?_) #[tt, tt, tt, tt, tt, tt, tt, tt, tt, tt, tt, tt, tt, tt, tt, tt, ff, ff, ff, ff, ff, ff, ff, ff, ff, ff, ff, ff, ff] rfl rfl (any_of HT_.out (by kernel_rfl)) (fun _ _ _ h => h) (Or.inr ⟨by rfl, rfl⟩) ?_ ?_
             rotate_left
             ·simp only [Act.put, zp, zq, zr, i64_w, i32_w]
              rfl
             refine pure_ (i := 16) (N := some 112) (v := undef) (a' := ?_) #[tt, tt, tt, tt, tt, tt, tt, tt, tt, tt, tt, tt, tt, tt, tt, tt, tt, ff, ff, ff, ff, ff, ff, ff, ff, ff, ff, ff, ff] rfl rfl (any_of HT_.out (by kernel_rfl)) (fun _ _ _ h => h) (Or.inr ⟨by rfl, rfl⟩) ?_ ?_
             rotate_left
             ·simp only [Act.put, zp, zq, zr, i64_w, i32_w]
              rfl
             refine pure_ (i := 17) (N := some 113) (v := undef) (a' := ?_) #[tt, tt, tt, tt, tt, tt, tt, tt, tt, tt, tt, tt, tt, tt, tt, tt, tt, tt, ff, ff, ff, ff, ff, ff, ff, ff, ff, ff, ff] rfl rfl (any_of HT_.out (by kernel_rfl)) (fun _ _ _ h => h) (Or.inr ⟨by rfl, rfl⟩) ?_ ?_
             rotate_left
             ·simp only [Act.put, zp, zq, zr, i64_w, i32_w]
              rfl
             refine pure_ (i := 18) (N := some 114) (v := undef) (a' := ?_) #[tt, tt, tt, tt, tt, tt, tt, tt, tt, tt, tt, tt, tt, tt, tt, tt, tt, tt, tt, ff, ff, ff, ff, ff, ff, ff, ff, ff, ff] rfl rfl (any_of HT_.out (by kernel_rfl)) (fun _ _ _ h => h) (Or.inr ⟨by rfl, rfl⟩) ?_ ?_
             rotate_left
             ·simp only [Act.put, zp, zq, zr, i64_w, i32_w]
              rfl
             refine pure_ (i := 19) (N := some 115) (v := undef) (a' := ?_) #[tt, tt, tt, tt, tt, tt, tt, tt, tt, tt, tt, tt, tt, tt, tt, tt, tt, tt, tt, tt, ff, ff, ff, ff, ff, ff, ff, ff, ff] rfl rfl (any_of HT_.out (by kernel_rfl)) (fun _ _ _ h => h) (Or.inr ⟨by rfl, rfl⟩) ?_ ?_
             rotate_left
             ·simp only [Act.put, zp, zq, zr, i64_w, i32_w]
              rfl
             refine pure_ (i := 20) (N := some 116) (v := undef) (a' := ?_) #[tt, tt, tt, tt, tt, tt, tt, tt, tt, tt, tt, tt, tt, tt, tt, tt, tt, tt, tt, tt, tt, ff, ff, ff, ff, ff, ff, ff, ff] rfl rfl (any_of HT_.out (by kernel_rfl)) (fun _ _ _ h => h) (Or.inr ⟨by rfl, rfl⟩) ?_ ?_
             rotate_left
             ·simp only [Act.put, zp, zq, zr, i64_w, i32_w]
              rfl
             refine pure_ (i := 21) (N := some 117) (v := undef) (a' := ?_) #[tt, tt, tt, tt, tt, tt, tt, tt, tt, tt, tt, tt, tt, tt, tt, tt, tt, tt, tt, tt, tt, tt, ff, ff, ff, ff, ff, ff, ff] rfl rfl (any_of HT_.out (by kernel_rfl)) (fun _ _ _ h => h) (Or.inr ⟨by rfl, rfl⟩) ?_ ?_
             rotate_left
             ·simp only [Act.put, zp, zq, zr, i64_w, i32_w]
              rfl
             refine pure_ (i := 22) (N := some 118) (v := undef) (a' := ?_) #[tt, tt, tt, tt, tt, tt, tt, tt, tt, tt, tt, tt, tt, tt, tt, tt, tt, tt, tt, tt, tt, tt, tt, ff, ff, ff, ff, ff, ff] rfl rfl (any_of HT_.out (by kernel_rfl)) (fun _ _ _ h => h) (Or.inr ⟨by rfl, rfl⟩) ?_ ?_
             rotate_left
             ·simp only [Act.put, zp, zq, zr, i64_w, i32_w]
              rfl
             refine pure_ (i := 23) (N := some 119) (v := undef) (a' := ?_) #[tt, tt, tt, tt, tt, tt, tt, tt, tt, tt, tt, tt, tt, tt, tt, tt, tt, tt, tt, tt, tt, tt, tt, tt, ff, ff, ff, ff, ff] rfl rfl (any_of HT_.out (by kernel_rfl)) (fun _ _ _ h => h) (Or.inr ⟨by rfl, rfl⟩) ?_ ?_
             rotate_left
             ·simp only [Act.put, zp, zq, zr, i64_w, i32_w]
              rfl
             refine pure_ (i := 24) (N := some 120) (v := undef) (a' := ?_) #[tt, tt, tt, tt, tt, tt, tt, tt, tt, tt, tt, tt, tt, tt, tt, tt, tt, tt, tt, tt, tt, tt, tt, tt, tt, ff, ff, ff, ff] rfl rfl (any_of HT_.out (by kernel_rfl)) (fun _ _ _ h => h) (Or.inr ⟨by rfl, rfl⟩) ?_ ?_
             rotate_left
             ·simp only [Act.put, zp, zq, zr, i64_w, i32_w]
              rfl
             refine pure_ (i := 25) (N := some 121) (v := undef) (a' := ?_) #[tt, tt, tt, tt, tt, tt, tt, tt, tt, tt, tt, tt, tt, tt, tt, tt, tt, tt, tt, tt, tt, tt, tt, tt, tt, tt, ff, ff, ff] rfl rfl (any_of HT_.out (by kernel_rfl)) (fun _ _ _ h => h) (Or.inr ⟨by rfl, rfl⟩) ?_ ?_
             rotate_left
             ·simp only [Act.put, zp, zq, zr, i64_w, i32_w]
              rfl
             refine pure_ (i := 26) (N := some 122) (v := undef) (a' := ?_) #[tt, tt, tt, tt, tt, tt, tt, tt, tt, tt, tt, tt, tt, tt, tt, tt, tt, tt, tt, tt, tt, tt, tt, tt, tt, tt, tt, ff, ff] rfl rfl (any_of HT_.out (by kernel_rfl)) (fun _ _ _ h => h) (Or.inr ⟨by rfl, rfl⟩) ?_ ?_
             rotate_left
             ·simp only [Act.put, zp, zq, zr, i64_w, i32_w]
              rfl
             refine pure_ (i := 27) (N := some 123) (v := undef) (a' := ?_) #[tt, tt, tt, tt, tt, tt, tt, tt, tt, tt, tt, tt, tt, tt, tt, tt, tt, tt, tt, tt, tt, tt, tt, tt, tt, tt, tt, tt, ff] rfl rfl (any_of HT_.out (by kernel_rfl)) (fun _ _ _ h => h) (Or.inr ⟨by rfl, rfl⟩) ?_ ?_
             rotate_left
             ·simp only [Act.put, zp, zq, zr, i64_w, i32_w]
              rfl
             refine zu 28 (some 124) #[tt, tt, tt, tt, tt, tt, tt, tt, tt, tt, tt, tt, tt, tt, tt, tt, tt, tt, tt, tt, tt, tt, tt, tt, tt, tt, tt, tt, tt] (any_of HT_.out (by kernel_rfl)) ?_
             refine done_ (done_of HT_.out (by kernel_rfl)) ?_
             try go_wp2
             go_ret
             exact ⟨ze, zb HB⟩
           ·rw [if_neg c40] at H
            exact absurd H (by simp)
          ·rw [if_neg c39] at H
           exact absurd H (by simp)
         ·rw [if_neg d4] at H
          have ee : decide (ae < (ah.length : Int)) = false := decide_eq_false d4
          clear d4; obtain rfl := Option.some.inj H; have hnb53 := aA.out; have hnc53 := aB.out
          have hcz54_0 : wr.cell? ⟨ad, 0, none⟩ = some (.slice aM ak.length aN) := (blk_cell aa.out 0).trans rfl
          have hcz54_1 : wr.cell? ⟨ad, 1, none⟩ = some (.int .i64 a0_1) := (blk_cell aa.out 1).trans rfl
          have hcz54_2 : wr.cell? ⟨ad, 2, none⟩ = some (.slice a8 af.length a1) := (blk_cell aa.out 2).trans rfl
          have hcz54_3 : wr.cell? ⟨ad, 3, none⟩ = some (.slice a9 ah.length a2) := (blk_cell aa.out 3).trans rfl
          have hfz54_0 := blk_frozen aa.out 0; have hfz54_1 := blk_frozen aa.out 1; have hfz54_2 := blk_frozen aa.out 2; have hfz54_3 := blk_frozen aa.out 3
          go_wp2
          go_ret
          exact ⟨ze, zb HB⟩
end Go.Proofs.Ytmjhbdmicejppaa.Px
