import Derived.Test.YtheckjlldkkceaaZnPx0
namespace Go.Proofs.Ytheckjlldkkceaa.Px
open Go.RowKit Go.Proofs.YtheckjlldkkceaaW.PrintWords Go.Proofs.YtheckjlldkkceaaW.PrintLast Go.Proofs.YtheckjlldkkceaaW.PrintMore
attribute [local go_sem] max2_int min2_int max_two min_two max_three min_three max_four min_four   
set_option linter.unusedVariables false
set_option linter.unusedSimpArgs false
def spec_l01In.f (a0 : Int) (a1 : Int) (a2 : Int) : Option (Bool) := if a0 ≥ a1 then (some (decide (a0 ≤ a2))) else (some false)
set_option maxHeartbeats 8000000 in
set_option maxRecDepth 100000 in
theorem spec_l01In.calls (a0 : Int) (a1 : Int) (a2 : Int) (r : Bool) (w : World) (h : spec_l01In.f a0 a1 a2 = some r) :
  Calls Try.prog 48 #[.int .i64 a0, .int .i64 a1, .int .i64 a2] w fun e w' => e = .returned (.bool r) ∧ Drawn0 w w' := by
 have H : (if a0 ≥ a1 then (some (decide (a0 ≤ a2))) else (some false)) = some r := h
 clear h
 by_cases c4 : a0 ≥ a1
 ·rw [if_pos c4] at H
  have c4b0 : decide (a1 ≤ a0) = true := decide_eq_true c4
  clear c4; obtain rfl := Option.some.inj H
  go_enter Try.func48, Try.ntmps48
  go_wp2
  go_ret
  exact ⟨by first | rfl | (simp; done) | (simp [*]; done), by repeat (first | exact Drawn0.refl _ | apply Drawn0.step)⟩
 ·rw [if_neg c4] at H
  have c4b0 : decide (a1 ≤ a0) = false := decide_eq_false c4
  clear c4; obtain rfl := Option.some.inj H
  go_enter Try.func48, Try.ntmps48
  go_wp2
  go_ret
  exact ⟨by first | rfl | (simp; done) | (simp [*]; done), by repeat (first | exact Drawn0.refl _ | apply Drawn0.step)⟩
def spec_l03Has.l0 : Nat → List Int → Int → Int → Option (Bool)
 | 0, _, _, _ => none
 | k + 1, x0, x1, x5 => if x5 < (x0.length : Int) then (if 0 ≤ x5 then (if (rd x0 x5) = x1 then (some true) else (spec_l03Has.l0 k x0 x1 (wrap64 (x5 + 1)))) else (none)) else (some false)
def spec_l03Has.f (k : Nat) (l0 : List Int) (a1 : Int) : Option (Bool) := spec_l03Has.l0 k l0 a1 0
set_option maxHeartbeats 8000000 in
set_option maxRecDepth 100000 in
theorem spec_l03Has.calls (k : Nat) (A0 : Option Addr) (c0 : Nat) (l0 : List Int) (a1 : Int) (r : Bool) (w : World) (hr0 : Kd.C (Kd.int .i64) w A0 l0.length l0) (hc0 : l0.length ≤ c0) (h : spec_l03Has.f k l0 a1 = some r) :
  Calls Try.prog 49 #[.slice A0 l0.length c0, .int .i64 a1] w fun e w' => e = .returned (.bool r) ∧ Drawn0 w w' := by
 have HR0 := zK hr0; have HC0 := zK hc0; clear hr0 hc0
 have H : (spec_l03Has.l0 k l0 a1 0) = some r := h
 clear h; have H' := zK H; clear H
 go_enter Try.func49, Try.ntmps49
 go_wp2
 go_loopg [5] k (fun kq v5 w' => ∃ (aa : Int), v5 = .int .i64 aa ∧ Aside0 (spec_l03Has.l0 kq l0 a1 aa = some r) ∧ Aside0 (kq ≤ k) ∧ Drawn0 w w')
 case atStart => exact ⟨(0), (by first | rfl | (simp; done) | (simp [*]; done)), H', ⟨Nat.le_refl _⟩, by repeat (first | exact Drawn0.refl _ | apply Drawn0.step)⟩
 case round =>
  clear H'
  try clear p2
  obtain ⟨aa, rfl, HA, HK1, ⟨m1, rfl⟩⟩ := hrel
  cases gk with
  | zero => exact absurd HA.out (by simp [spec_l03Has.l0])
  | succ k1 =>
   have H := HA.out; clear HA
   simp only [spec_l03Has.l0] at H
   by_cases c3 : aa < (l0.length : Int)
   ·rw [if_pos c3] at H
    have c3b0 : decide (aa < (l0.length : Int)) = true := decide_eq_true c3
    clear c3
    by_cases c4 : 0 ≤ aa
    ·rw [if_pos c4] at H
     have c4b0 : decide (0 ≤ aa) = true := decide_eq_true c4
     clear c4
     by_cases c5 : (rd l0 aa) = a1
     ·rw [if_pos c5] at H
      have c5b0 : ((rd l0 aa) == a1) = true := beq_iff_eq.mpr c5
      have c5b1 : ((rd l0 aa) != a1) = false := bne_eq_false_iff_eq.mpr c5
      clear c5; obtain rfl := Option.some.inj H
      have ab : 0 ≤ (aa : Int) := zd
      have ac : aa < (l0.length : Int) := zd
      obtain ⟨af, ae, ad⟩ := Kd.at_int HR0.out aa ab ac
      cases ae
      replace ab := eq_true ab; replace ac := eq_true ac
      go_wp2
      go_ret
      exact ⟨by first | rfl | (simp; done) | (simp [*]; done), by repeat (first | exact Drawn0.refl _ | apply Drawn0.step)⟩
     ·rw [if_neg c5] at H
      have c5b0 : ((rd l0 aa) == a1) = false := beq_eq_false_iff_ne.mpr c5
      have c5b1 : ((rd l0 aa) != a1) = true := bne_iff_ne.mpr c5
      have H' := zK H; clear H
      have ab : 0 ≤ (aa : Int) := zd
      have ac : aa < (l0.length : Int) := zd
      obtain ⟨af, ae, ad⟩ := Kd.at_int HR0.out aa ab ac
      cases ae
      replace ab := eq_true ab; replace ac := eq_true ac
      go_wp2
      go_roundg k1
      case measure => have := HK1.out; omega
      case rel => exact ⟨(wrap64 (aa + 1)), (by first | rfl | (simp; done) | (simp [*]; done)), H', ⟨by have := HK1.out; omega⟩, by repeat (first | exact Drawn0.refl _ | apply Drawn0.step)⟩
    ·rw [if_neg c4] at H
     exact absurd H (by simp)
   ·rw [if_neg c3] at H
    have c3b0 : decide (aa < (l0.length : Int)) = false := decide_eq_false c3
    clear c3; obtain rfl := Option.some.inj H
    go_wp2
    go_ret
    exact ⟨by first | rfl | (simp; done) | (simp [*]; done), by repeat (first | exact Drawn0.refl _ | apply Drawn0.step)⟩
mutual
def spec_StoreOk.j0 : Nat → Bool → Int → List (List (S30)) → Option (Bool)
 | 0, _, _, _ => none
 | k + 1, x17, x103000, x103001 => if x17 = true then (some false) else (spec_StoreOk.l0 k (([] : List Int)) 0 x103000 x103001)
def spec_StoreOk.l0 : Nat → List Int → Int → Int → List (List (S30)) → Option (Bool)
 | 0, _, _, _, _ => none
 | k + 1, x3, x4, x103000, x103001 => if x4 < (x103001.length : Int) then (if 0 ≤ x4 then (if ((rd_L2 x103001 x4).length : Int) > x103000 then (some false) else (spec_StoreOk.l1 k x3 x4 0 x103000 x103001)) else (none)) else (some true)
def spec_StoreOk.l1 : Nat → List Int → Int → Int → Int → List (List (S30)) → Option (Bool)
 | 0, _, _, _, _, _ => none
 | k + 1, x3, x4, x5, x103000, x103001 => if 0 ≤ x4 then (if x4 < (x103001.length : Int) then (if x5 < ((rd_L2 x103001 x4).length : Int) then (if 0 ≤ x5 then (if ((rd_T30 (rd_L2 x103001 x4) x5).f0) < 1 then (spec_StoreOk.j3 k x3 x4 x5 true x103000 x103001 ((rd_T30 (rd_L2 x103001 x4) x5).f0) ((rd_T30 (rd_L2 x103001 x4) x5).f1)) else ((spec_l01In.f ((rd_T30 (rd_L2 x103001 x4) x5).f1) 0 100000).bind fun t113 => (if t113 = true then ((spec_l03Has.f k x3 ((rd_T30 (rd_L2 x103001 x4) x5).f0)).bind fun t114 => (spec_StoreOk.j3 k x3 x4 x5 t114 x103000 x103001 ((rd_T30 (rd_L2 x103001 x4) x5).f0) ((rd_T30 (rd_L2 x103001 x4) x5).f1))) else (spec_StoreOk.j3 k x3 x4 x5 true x103000 x103001 ((rd_T30 (rd_L2 x103001 x4) x5).f0) ((rd_T30 (rd_L2 x103001 x4) x5).f1))))) else (none)) else (spec_StoreOk.l0 k x3 (wrap64 (x4 + 1)) x103000 x103001)) else (none)) else (none)
def spec_StoreOk.j3 : Nat → List Int → Int → Int → Bool → Int → List (List (S30)) → Int → Int → Option (Bool)
 | 0, _, _, _, _, _, _, _, _ => none
 | k + 1, x3, x4, x5, x67, x103000, x103001, x113000, x113001 => if x67 = true then (some false) else (if x3.length < 17592186044416 then (spec_StoreOk.l1 k (x3 ++ [x113000]) x4 (wrap64 (x5 + 1)) x103000 x103001) else (none))
end
def spec_StoreOk.f (k : Nat) (a0_0 : Int) (l0_1 : List (List (S30))) : Option (Bool) := (spec_l01In.f a0_0 1 5).bind fun t103 => (if t103 = true then ((spec_l01In.f (l0_1.length : Int) 1 4).bind fun t104 => (spec_StoreOk.j0 k (!t104) a0_0 l0_1)) else (spec_StoreOk.j0 k true a0_0 l0_1))
set_option maxHeartbeats 8000000 in
set_option maxRecDepth 100000 in
theorem spec_StoreOk.calls (k : Nat) (a0_0 : Int) (aw : Option Addr) (al : Nat) (aa : List (List (S30))) (r : Bool) (w : World) (bV : Kd.C (Kd.slice 30 k30) w aw aa.length aa) (hc0_1 : aa.length ≤ al) (h : spec_StoreOk.f k a0_0 aa = some r) :
  Calls Try.prog 15 #[.agg #[.int .i64 a0_0, .slice aw aa.length al]] w fun e w' => e = .returned (.bool r) ∧ Below w.heap.size w w' := by
 have hu24 := Try.underlying24; have hu30 := Try.underlying30; have a3 := zK bV; have HC0_1 := zK hc0_1; clear bV hc0_1
 have HB := zK (Below.refl w.heap.size w)
 have H : ((spec_l01In.f a0_0 1 5).bind fun bs => (if bs = true then ((spec_l01In.f (aa.length : Int) 1 4).bind fun aH => (spec_StoreOk.j0 k (!aH) a0_0 aa)) else (spec_StoreOk.j0 k true a0_0 aa))) = some r := h
 clear h; have HC2 := zK H; clear H
 go_enter Try.func15, Try.ntmps15
 go_upto_region 1 with (first | ((with_reducible refine gate_dst (N := 1) rfl ?_); (try (refine gate_guard (by rfl) ?_; dsimp only)); refine box_event ?hg (N := 1) ?hd (cs := #[.int .i64 a0_0, .slice aw aa.length al]) (t := 24) ?hr ?_; (case hd => rfl); (case hg => rfl); (case hr => first | (go_simp; done) | (go_simp; rfl)); intro af hg w3 hbox hb; have ar := zK (below_step (zb HB) hb); have au := zK (hbox); have av := zK ((by rw [hg]; exact (below_size (zb HB)) : w.heap.size ≤ af)); have aD := zK ((by rw [hg]; exact (below_size (zb HB)) : w.heap.size ≤ af)); clear HB; have HB := ar; have ab := au; have bW := av; have ai := aD; clear ar au av aD; clear hb hbox hg))
 repeat (go_quiet (first | ((with_reducible refine gate_dst (N := 1) rfl ?_); (try (refine gate_guard (by rfl) ?_; dsimp only)); refine box_event ?hg (N := 1) ?hd (cs := #[.int .i64 a0_0, .slice aw aa.length al]) (t := 24) ?hr ?_; (case hd => rfl); (case hg => rfl); (case hr => first | (go_simp; done) | (go_simp; rfl)); intro af hg w3 hbox hb; have ar := zK (below_step (zb HB) hb); have au := zK (hbox); have av := zK ((by rw [hg]; exact (below_size (zb HB)) : w.heap.size ≤ af)); have aD := zK ((by rw [hg]; exact (below_size (zb HB)) : w.heap.size ≤ af)); clear HB; have HB := ar; have ab := au; have bW := av; have ai := aD; clear ar au av aD; clear hb hbox hg)); go_upto_region 1 with (first | ((with_reducible refine gate_dst (N := 1) rfl ?_); (try (refine gate_guard (by rfl) ?_; dsimp only)); refine box_event ?hg (N := 1) ?hd (cs := #[.int .i64 a0_0, .slice aw aa.length al]) (t := 24) ?hr ?_; (case hd => rfl); (case hg => rfl); (case hr => first | (go_simp; done) | (go_simp; rfl)); intro af hg w3 hbox hb; have ar := zK (below_step (zb HB) hb); have au := zK (hbox); have av := zK ((by rw [hg]; exact (below_size (zb HB)) : w.heap.size ≤ af)); have aD := zK ((by rw [hg]; exact (below_size (zb HB)) : w.heap.size ≤ af)); clear HB; have HB := ar; have ab := au; have bW := av; have ai := aD; clear ar au av aD; clear hb hbox hg)))
 (try simp only [Act.put, zp, zq, zr])
 go_cut [17] (fun v17 wc => ∃ (kq : Nat) (a8 : Bool), v17 = .bool a8 ∧ Aside0 (spec_StoreOk.j0 kq a8 a0_0 aa = some r) ∧ Aside0 (kq ≤ k) ∧ Aside0 (wc.heap[af]? = some (.cells #[.int .i64 a0_0, (.slice aw aa.length al)] 24 (0, 0))) ∧ Aside0 (Below w.heap.size w wc))
 case first =>
  have H := HC2.out; clear HC2; replace H := Option.bind_eq_some_iff.mp H
  obtain ⟨bs, A40, H⟩ := H
  replace H : (if bs = true then ((spec_l01In.f (aa.length : Int) 1 4).bind fun aH => (spec_StoreOk.j0 k (!aH) a0_0 aa)) else (spec_StoreOk.j0 k true a0_0 aa)) = some r := H
  have A4 := zK A40; clear A40
  by_cases c5 : bs = true
  ·subst c5
   have H1 : ((spec_l01In.f (aa.length : Int) 1 4).bind fun aH => (spec_StoreOk.j0 k (!aH) a0_0 aa)) = some r := by rw [if_pos rfl] at H; exact H
   clear H; have H := H1; clear H1; replace H := Option.bind_eq_some_iff.mp H
   obtain ⟨aH, A60, H⟩ := H
   replace H : (spec_StoreOk.j0 k (!aH) a0_0 aa) = some r := H
   have A6 := zK A60; clear A60; have H' := zK H; clear H
   have aJ : w3.cell? ⟨af, 0, none⟩ = some (.int .i64 a0_0) := (blk_cell ab.out 0).trans rfl
   have aK : w3.cell? ⟨af, 1, none⟩ = some (.slice aw aa.length al) := (blk_cell ab.out 1).trans rfl
   have aM := blk_frozen ab.out 0; have aN := blk_frozen ab.out 1
   go_wp2_with (first | (go_at_call 48; (with_reducible refine (spec_l01In.calls a0_0 1 5 true _ A4.out).mono ?_); rintro e w' ⟨rfl, ⟨nd, rfl⟩⟩; (try first | exact ⟨rfl, _, World.drewN_drewN _ _ _⟩ | exact ⟨rfl, _, Eq.trans (World.drewN_drewN _ _ _) (congrArg (World.drewN _) (Nat.add_assoc _ _ _))⟩)) | (go_at_call 48; (with_reducible refine (spec_l01In.calls (aa.length : Int) 1 4 aH _ A6.out).mono ?_); rintro e w' ⟨rfl, ⟨nd, rfl⟩⟩; (try first | exact ⟨rfl, _, World.drewN_drewN _ _ _⟩ | exact ⟨rfl, _, Eq.trans (World.drewN_drewN _ _ _) (congrArg (World.drewN _) (Nat.add_assoc _ _ _))⟩)))
   repeat (go_quiet (first | (go_at_call 48; (with_reducible refine (spec_l01In.calls a0_0 1 5 true _ A4.out).mono ?_); rintro e w' ⟨rfl, ⟨nd, rfl⟩⟩; (try first | exact ⟨rfl, _, World.drewN_drewN _ _ _⟩ | exact ⟨rfl, _, Eq.trans (World.drewN_drewN _ _ _) (congrArg (World.drewN _) (Nat.add_assoc _ _ _))⟩)) | (go_at_call 48; (with_reducible refine (spec_l01In.calls (aa.length : Int) 1 4 aH _ A6.out).mono ?_); rintro e w' ⟨rfl, ⟨nd, rfl⟩⟩; (try first | exact ⟨rfl, _, World.drewN_drewN _ _ _⟩ | exact ⟨rfl, _, Eq.trans (World.drewN_drewN _ _ _) (congrArg (World.drewN _) (Nat.add_assoc _ _ _))⟩))); try go_wp2_with (first | (go_at_call 48; (with_reducible refine (spec_l01In.calls a0_0 1 5 true _ A4.out).mono ?_); rintro e w' ⟨rfl, ⟨nd, rfl⟩⟩; (try first | exact ⟨rfl, _, World.drewN_drewN _ _ _⟩ | exact ⟨rfl, _, Eq.trans (World.drewN_drewN _ _ _) (congrArg (World.drewN _) (Nat.add_assoc _ _ _))⟩)) | (go_at_call 48; (with_reducible refine (spec_l01In.calls (aa.length : Int) 1 4 aH _ A6.out).mono ?_); rintro e w' ⟨rfl, ⟨nd, rfl⟩⟩; (try first | exact ⟨rfl, _, World.drewN_drewN _ _ _⟩ | exact ⟨rfl, _, Eq.trans (World.drewN_drewN _ _ _) (congrArg (World.drewN _) (Nat.add_assoc _ _ _))⟩))))
   go_meet
   case rel => exact ⟨_, (!aH), (by first | rfl | (simp; done) | (simp [*]; done)), H', ⟨by first | omega | exact Nat.le_refl _⟩, ⟨zk ab⟩, ⟨zb HB⟩⟩
  ·replace c5 := Bool.eq_false_iff.mpr c5
   subst c5
   have H1 : (spec_StoreOk.j0 k true a0_0 aa) = some r := by rw [if_neg (show ¬ (false = true) by decide)] at H; exact H
   clear H; have H := H1; clear H1; have H' := zK H; clear H
   have aQ : w3.cell? ⟨af, 0, none⟩ = some (.int .i64 a0_0) := (blk_cell ab.out 0).trans rfl
   have aR : w3.cell? ⟨af, 1, none⟩ = some (.slice aw aa.length al) := (blk_cell ab.out 1).trans rfl
   have aT := blk_frozen ab.out 0; have aU := blk_frozen ab.out 1
   go_wp2_with (first | (go_at_call 48; (with_reducible refine (spec_l01In.calls a0_0 1 5 false _ A4.out).mono ?_); rintro e w' ⟨rfl, ⟨nd, rfl⟩⟩; (try first | exact ⟨rfl, _, World.drewN_drewN _ _ _⟩ | exact ⟨rfl, _, Eq.trans (World.drewN_drewN _ _ _) (congrArg (World.drewN _) (Nat.add_assoc _ _ _))⟩)))
   repeat (go_quiet (first | (go_at_call 48; (with_reducible refine (spec_l01In.calls a0_0 1 5 false _ A4.out).mono ?_); rintro e w' ⟨rfl, ⟨nd, rfl⟩⟩; (try first | exact ⟨rfl, _, World.drewN_drewN _ _ _⟩ | exact ⟨rfl, _, Eq.trans (World.drewN_drewN _ _ _) (congrArg (World.drewN _) (Nat.add_assoc _ _ _))⟩))); try go_wp2_with (first | (go_at_call 48; (with_reducible refine (spec_l01In.calls a0_0 1 5 false _ A4.out).mono ?_); rintro e w' ⟨rfl, ⟨nd, rfl⟩⟩; (try first | exact ⟨rfl, _, World.drewN_drewN _ _ _⟩ | exact ⟨rfl, _, Eq.trans (World.drewN_drewN _ _ _) (congrArg (World.drewN _) (Nat.add_assoc _ _ _))⟩))))
   go_meet
   case rel => exact ⟨_, (true), (by first | rfl | (simp; done) | (simp [*]; done)), H', ⟨by first | omega | exact Nat.le_refl _⟩, ⟨zk ab⟩, ⟨zb HB⟩⟩
 case rest =>
  clear HC2
  try clear c1
  try clear p2
  try clear c5
  try clear aJ
  try clear aK
  try clear aQ
  try clear aR
  try clear aM
  try clear aN
  try clear aT
  try clear aU
  obtain ⟨kq, a8, rfl, HA, b8, ab, HB⟩ := hcut
  cases kq with
  | zero => exact absurd HA.out (by simp [spec_StoreOk.j0])
  | succ kj1 =>
   have H := HA.out; clear HA
   simp only [spec_StoreOk.j0] at H
   by_cases c9 : a8 = true
   ·subst c9
    have H1 : (some false) = some r := by rw [if_pos rfl] at H; exact H
    clear H; have H := H1; clear H1; obtain rfl := Option.some.inj H
    go_wp2
    repeat (go_quiet (fail); try go_wp2)
    go_ret
    exact ⟨by first | rfl | (simp [errW_none, errW_some] <;> rfl) | (simp [*, errW_none, errW_some] <;> rfl), by repeat (first | (with_reducible first | exact HB.out | apply zB | apply zC | apply zE | refine zS ?_ ai.out) | exact HB.out)⟩
   ·replace c9 := Bool.eq_false_iff.mpr c9
    subst c9
    have H1 : (spec_StoreOk.l0 kj1 (([] : List Int)) 0 a0_0 aa) = some r := by rw [if_neg (show ¬ (false = true) by decide)] at H; exact H
    clear H; have H := H1; clear H1
    obtain ⟨cm, a4⟩ : ∃ y_ : List Int, y_ = (([] : List Int)) := ⟨_, rfl⟩
    replace H : (spec_StoreOk.l0 kj1 cm 0 a0_0 aa) = some r := by first | (rw [a4]; with_reducible exact H) | (have H2_ := (Option.bind_some _ _).symm.trans H; rw [a4]; with_reducible exact H2_) | (have H2_ := (Option.bind_some _ _).symm.trans H; with_reducible exact H2_) | with_reducible exact H | (rw [a4]; exact H) | exact H
    have Ny105 := zK a4; clear a4; have H' := zK H; clear H
    go_wp2_with (first | ((with_reducible refine gate_dst (N := 18) rfl ?_); (try (refine gate_guard (by rfl) ?_; dsimp only)); refine Kd.R_lit (Kd.int .i64) _ 3 ?hg (N := 18) ?hd (xs := ([] : List Int)) (inner := []) (ok := fun _ => True) (okp := fun _ => True) ?hr ?hp (fun _ hk => hk) trivial (Below.refl _ _) (Nat.le_refl _) (by simp) ?_; (case hd => rfl); (case hg => rfl); (case hr => first | (go_simp; done) | (go_simp; rfl)); (case hp => exact (Reps.none _ _)); intro cn w10 ho11 hb hg_ hnew_; clear hg_ hnew_; (first | rw [← Ny105.out] at ho11 | (simp only [Int.reduceToNat] at ho11; rw [← Ny105.out] at ho11)); have ar := zK (Kd.R_lower ho11 (below_size (zb HB))); have au := zK (blk_below (g := af) (o := .cells #[.int .i64 a0_0, .slice aw aa.length al] 24 (0, 0)) (zk ab) hb); have av := zK (below_step (zb HB) hb); clear ab; clear HB; have bk := ar; have ab := au; have HB := av; clear ar au av; clear hb ho11))
    repeat (go_quiet (first | ((with_reducible refine gate_dst (N := 18) rfl ?_); (try (refine gate_guard (by rfl) ?_; dsimp only)); refine Kd.R_lit (Kd.int .i64) _ 3 ?hg (N := 18) ?hd (xs := ([] : List Int)) (inner := []) (ok := fun _ => True) (okp := fun _ => True) ?hr ?hp (fun _ hk => hk) trivial (Below.refl _ _) (Nat.le_refl _) (by simp) ?_; (case hd => rfl); (case hg => rfl); (case hr => first | (go_simp; done) | (go_simp; rfl)); (case hp => exact (Reps.none _ _)); intro cn w10 ho11 hb hg_ hnew_; clear hg_ hnew_; (first | rw [← Ny105.out] at ho11 | (simp only [Int.reduceToNat] at ho11; rw [← Ny105.out] at ho11)); have ar := zK (Kd.R_lower ho11 (below_size (zb HB))); have au := zK (blk_below (g := af) (o := .cells #[.int .i64 a0_0, .slice aw aa.length al] 24 (0, 0)) (zk ab) hb); have av := zK (below_step (zb HB) hb); clear ab; clear HB; have bk := ar; have ab := au; have HB := av; clear ar au av; clear hb ho11)); try go_wp2_with (first | ((with_reducible refine gate_dst (N := 18) rfl ?_); (try (refine gate_guard (by rfl) ?_; dsimp only)); refine Kd.R_lit (Kd.int .i64) _ 3 ?hg (N := 18) ?hd (xs := ([] : List Int)) (inner := []) (ok := fun _ => True) (okp := fun _ => True) ?hr ?hp (fun _ hk => hk) trivial (Below.refl _ _) (Nat.le_refl _) (by simp) ?_; (case hd => rfl); (case hg => rfl); (case hr => first | (go_simp; done) | (go_simp; rfl)); (case hp => exact (Reps.none _ _)); intro cn w10 ho11 hb hg_ hnew_; clear hg_ hnew_; (first | rw [← Ny105.out] at ho11 | (simp only [Int.reduceToNat] at ho11; rw [← Ny105.out] at ho11)); have ar := zK (Kd.R_lower ho11 (below_size (zb HB))); have au := zK (blk_below (g := af) (o := .cells #[.int .i64 a0_0, .slice aw aa.length al] 24 (0, 0)) (zk ab) hb); have av := zK (below_step (zb HB) hb); clear ab; clear HB; have bk := ar; have ab := au; have HB := av; clear ar au av; clear hb ho11)))
    go_loopg [3, 4] kj1 (fun kq v3 v4 w' => ∃ (bt : List Int) (ac : Int), v4 = .int .i64 ac ∧ Aside0 (spec_StoreOk.l0 kq bt ac a0_0 aa = some r) ∧ Aside0 (kq ≤ kj1) ∧ Aside0 (Kd.R (Kd.int .i64) 3 w' w.heap.size (fun _ => True) v3 bt) ∧ Aside0 (w'.heap[af]? = some (.cells #[.int .i64 a0_0, (.slice aw aa.length al)] 24 (0, 0))) ∧ Aside0 (Below w.heap.size w w'))
    case atStart => exact ⟨(cm), (0), (by first | rfl | (simp; done) | (simp [*]; done)), H', ⟨Nat.le_refl _⟩, ⟨zR bk⟩, ⟨zk ab⟩, ⟨zb HB⟩⟩
    case round =>
     clear H'
     try clear c1
     try clear p2
     try clear c5
     try clear c9
     try clear aJ
     try clear aK
     try clear aQ
     try clear aR
     try clear aM
     try clear aN
     try clear aT
     try clear aU
     try clear p2
     obtain ⟨bt, ac, rfl, HA, b9, aj, ab, HB⟩ := hrel
     cases gk with
     | zero => exact absurd HA.out (by simp [spec_StoreOk.l0])
     | succ k2 =>
      have H := HA.out; clear HA
      simp only [spec_StoreOk.l0] at H
      by_cases bX : ac < (aa.length : Int)
      ·rw [if_pos bX] at H
       have bl : decide (ac < (aa.length : Int)) = true := decide_eq_true bX
       clear bX
       by_cases ck : 0 ≤ ac
       ·rw [if_pos ck] at H
        have bY : decide (0 ≤ ac) = true := decide_eq_true ck
        clear ck
        by_cases bZ : ((rd_L2 aa ac).length : Int) > a0_0
        ·rw [if_pos bZ] at H
         have bm : decide (a0_0 < ((rd_L2 aa ac).length : Int)) = true := decide_eq_true bZ
         clear bZ; obtain rfl := Option.some.inj H
         have a9 : wr.cell? ⟨af, 0, none⟩ = some (.int .i64 a0_0) := (blk_cell ab.out 0).trans rfl
         have ba : wr.cell? ⟨af, 1, none⟩ = some (.slice aw aa.length al) := (blk_cell ab.out 1).trans rfl
         have bb := blk_frozen ab.out 0; have bc := blk_frozen ab.out 1
         have aV : 0 ≤ (ac : Int) := zd
         have aW : ac < (aa.length : Int) := zd
         obtain ⟨am, ca, cb, cc, ao, ax, ay⟩ := at_L2 a3.out ac aV aW
         cases cc
         replace ao := (HB.out.cell (World.block_lt_of_cell? w _ ao)).trans ao
         have bv := zK ay; have bw := zK ax; clear ay ax; replace aV := eq_true aV; replace aW := eq_true aW
         go_wp2
         repeat (go_quiet (fail); try go_wp2)
         go_ret
         exact ⟨by first | rfl | (simp [errW_none, errW_some] <;> rfl) | (simp [*, errW_none, errW_some] <;> rfl), by repeat (first | (with_reducible first | exact HB.out | apply zB | apply zC | apply zE | refine zS ?_ ai.out) | exact HB.out)⟩
        ·rw [if_neg bZ] at H
         have bm : decide (a0_0 < ((rd_L2 aa ac).length : Int)) = false := decide_eq_false bZ
         clear bZ; have H' := zK H; clear H
         have bd : wr.cell? ⟨af, 0, none⟩ = some (.int .i64 a0_0) := (blk_cell ab.out 0).trans rfl
         have be : wr.cell? ⟨af, 1, none⟩ = some (.slice aw aa.length al) := (blk_cell ab.out 1).trans rfl
         have bf := blk_frozen ab.out 0; have bg := blk_frozen ab.out 1
         have aV : 0 ≤ (ac : Int) := zd
         have aW : ac < (aa.length : Int) := zd
         obtain ⟨am, ca, cb, cc, ao, ax, ay⟩ := at_L2 a3.out ac aV aW
         cases cc
         replace ao := (HB.out.cell (World.block_lt_of_cell? w _ ao)).trans ao
         have bv := zK ay; have bw := zK ax; clear ay ax; replace aV := eq_true aV; replace aW := eq_true aW
         go_wp2
         repeat (go_quiet (fail); try go_wp2)
         go_loopg [3, 5] k2 (fun kq v3 v5 w' => ∃ (an : List Int) (ad : Int), v5 = .int .i64 ad ∧ Aside0 (spec_StoreOk.l1 kq an ac ad a0_0 aa = some r) ∧ Aside0 (kq ≤ k2) ∧ Aside0 (Kd.R (Kd.int .i64) 3 w' w.heap.size (fun _ => True) v3 an) ∧ Aside0 (w'.heap[af]? = some (.cells #[.int .i64 a0_0, (.slice (some am) aa.length al)] 24 (0, 0))) ∧ Aside0 (Below w.heap.size w w'))
         case atStart => exact ⟨(bt), (0), (by first | rfl | (simp; done) | (simp [*]; done)), H', ⟨Nat.le_refl _⟩, ⟨zR aj⟩, ⟨zk ab⟩, ⟨zb HB⟩⟩
         case round =>
          clear H'
          try clear c1
          try clear p1
          try clear q1
          try clear hx1
          try clear p2
          try clear c5
          try clear c9
          try clear c10
          try clear p10
          try clear q10
          try clear hx10
          try clear bX
          try clear bl
          try clear ck
          try clear bY
          try clear bZ
          try clear bm
          try clear c15
          try clear a9
          try clear ba
          try clear bd
          try clear be
          try clear aJ
          try clear aK
          try clear aQ
          try clear aR
          try clear bb
          try clear bc
          try clear bf
          try clear bg
          try clear aM
          try clear aN
          try clear aT
          try clear aU
          try clear ao
          try clear aV
          try clear p2
          try clear aW
          obtain ⟨an, ad, rfl, HA, cd, aj, ab, HB⟩ := hrel
          cases gk with
          | zero => exact absurd HA.out (by simp [spec_StoreOk.l1])
          | succ k3 =>
           have H := HA.out; clear HA
           simp only [spec_StoreOk.l1] at H
           by_cases co : 0 ≤ ac
           ·rw [if_pos co] at H
            have cp : decide (0 ≤ ac) = true := decide_eq_true co
            clear co
            by_cases cq : ac < (aa.length : Int)
            ·rw [if_pos cq] at H
             have cr : decide (ac < (aa.length : Int)) = true := decide_eq_true cq
             clear cq
             by_cases ce : ad < ((rd_L2 aa ac).length : Int)
             ·rw [if_pos ce] at H
              have b0 : decide (ad < ((rd_L2 aa ac).length : Int)) = true := decide_eq_true ce
              clear ce
              by_cases ct : 0 ≤ ad
              ·rw [if_pos ct] at H
               have cu : decide (0 ≤ ad) = true := decide_eq_true ct
               clear ct; have cf := zK H; clear H
               have bx : wr.cell? ⟨af, 0, none⟩ = some (.int .i64 a0_0) := (blk_cell ab.out 0).trans rfl
               have bz : wr.cell? ⟨af, 1, none⟩ = some (.slice (some am) aa.length al) := (blk_cell ab.out 1).trans rfl
               have bA := blk_frozen ab.out 0; have bB := blk_frozen ab.out 1
               have a5 : 0 ≤ (ac : Int) := zd
               have a6 : ac < (aa.length : Int) := zd
               obtain ⟨bn, cg, ch, ci, ap, az, aA⟩ := at_L2 a3.out ac a5 a6
               obtain rfl : am = bn := (by injection ci)
               replace ap := (HB.out.cell (World.block_lt_of_cell? w _ ap)).trans ap
               have bC := zK aA; have bD := zK az; clear aA az; replace a5 := eq_true a5; replace a6 := eq_true a6
               have bE : 0 ≤ (ac : Int) := zd
               have bF : ac < (aa.length : Int) := zd
               obtain ⟨cv, A110_0, c110_0, e110, aC, bh, bi⟩ := at_L2 a3.out ac bE bF
               obtain rfl : am = cv := (by injection e110)
               replace aC := (HB.out.cell (World.block_lt_of_cell? w _ aC)).trans aC
               have bG := zK bi; have HC110_0 := zK bh; clear bi bh; replace bE := eq_true bE; replace bF := eq_true bF
               have ea_ := Option.some.inj (ap.symm.trans aC)
               injection ea_ with ea_ en_ ec_
               subst ea_; subst ec_; clear en_
               have bH : 0 ≤ (ad : Int) := zd
               have bI : ad < ((rd_L2 aa ac).length : Int) := zd
               obtain ⟨ad111, e111, aE, aG⟩ := at_T30 bG.out ad bH bI
               cases e111
               replace aE := (HB.out.cell (World.block_lt_of_cell? w _ aE)).trans aE
               replace aG := (HB.out.cell (World.block_lt_of_cell? w _ aG)).trans aG
               replace bH := eq_true bH; replace bI := eq_true bI
               go_upto_region 13 with (first | ((with_reducible refine gate_dst (N := 6) rfl ?_); (try (refine gate_guard (by rfl) ?_; dsimp only)); refine box_event ?hg (N := 6) ?hd (cs := #[.int .i64 0, .int .i64 0]) (t := 30) ?hr ?_; (case hd => rfl); (case hg => rfl); (case hr => first | (go_simp; done) | (go_simp; rfl)); intro ag hg bj hbox hb; have ar := zK (Kd.R_below (zR aj) hb); have au := zK (blk_below (g := af) (o := .cells #[.int .i64 a0_0, .slice (some am) aa.length al] 24 (0, 0)) (zk ab) hb); have av := zK (below_step (zb HB) hb); have aD := zK (hbox); have b1 := zK ((by rw [hg]; exact (below_size (zb HB)) : w.heap.size ≤ ag)); have b2 := zK ((by rw [hg]; exact (below_size (zb HB)) : w.heap.size ≤ ag)); have b3 := zK ((by rw [hg]; exact Nat.ne_of_lt (blk_lt (g := af) (o := .cells #[.int .i64 a0_0, .slice (some am) aa.length al] 24 (0, 0)) (zk ab)) : af ≠ ag)); have b4 := zK ((by rw [hg]; exact Nat.ne_of_gt (blk_lt (g := af) (o := .cells #[.int .i64 a0_0, .slice (some am) aa.length al] 24 (0, 0)) (zk ab)) : ag ≠ af)); clear aj; clear ab; clear HB; have aj := ar; have ab := au; have HB := av; have ae := aD; have b5 := b1; have aq := b2; have ah := b3; have ak := b4; clear ar au av aD b1 b2 b3 b4; clear hb hbox hg; have b6 := ak.out; have b7 := ah.out; have aX : bj.cell? ⟨ag, 0, none⟩ = some (.int .i64 0) := (blk_cell ae.out 0).trans rfl; have aY : bj.cell? ⟨ag, 1, none⟩ = some (.int .i64 0) := (blk_cell ae.out 1).trans rfl; have aZ := blk_frozen ae.out 0; have a0 := blk_frozen ae.out 1))
               repeat (go_quiet (first | ((with_reducible refine gate_dst (N := 6) rfl ?_); (try (refine gate_guard (by rfl) ?_; dsimp only)); refine box_event ?hg (N := 6) ?hd (cs := #[.int .i64 0, .int .i64 0]) (t := 30) ?hr ?_; (case hd => rfl); (case hg => rfl); (case hr => first | (go_simp; done) | (go_simp; rfl)); intro ag hg bj hbox hb; have ar := zK (Kd.R_below (zR aj) hb); have au := zK (blk_below (g := af) (o := .cells #[.int .i64 a0_0, .slice (some am) aa.length al] 24 (0, 0)) (zk ab) hb); have av := zK (below_step (zb HB) hb); have aD := zK (hbox); have b1 := zK ((by rw [hg]; exact (below_size (zb HB)) : w.heap.size ≤ ag)); have b2 := zK ((by rw [hg]; exact (below_size (zb HB)) : w.heap.size ≤ ag)); have b3 := zK ((by rw [hg]; exact Nat.ne_of_lt (blk_lt (g := af) (o := .cells #[.int .i64 a0_0, .slice (some am) aa.length al] 24 (0, 0)) (zk ab)) : af ≠ ag)); have b4 := zK ((by rw [hg]; exact Nat.ne_of_gt (blk_lt (g := af) (o := .cells #[.int .i64 a0_0, .slice (some am) aa.length al] 24 (0, 0)) (zk ab)) : ag ≠ af)); clear aj; clear ab; clear HB; have aj := ar; have ab := au; have HB := av; have ae := aD; have b5 := b1; have aq := b2; have ah := b3; have ak := b4; clear ar au av aD b1 b2 b3 b4; clear hb hbox hg; have b6 := ak.out; have b7 := ah.out; have aX : bj.cell? ⟨ag, 0, none⟩ = some (.int .i64 0) := (blk_cell ae.out 0).trans rfl; have aY : bj.cell? ⟨ag, 1, none⟩ = some (.int .i64 0) := (blk_cell ae.out 1).trans rfl; have aZ := blk_frozen ae.out 0; have a0 := blk_frozen ae.out 1)); go_upto_region 13 with (first | ((with_reducible refine gate_dst (N := 6) rfl ?_); (try (refine gate_guard (by rfl) ?_; dsimp only)); refine box_event ?hg (N := 6) ?hd (cs := #[.int .i64 0, .int .i64 0]) (t := 30) ?hr ?_; (case hd => rfl); (case hg => rfl); (case hr => first | (go_simp; done) | (go_simp; rfl)); intro ag hg bj hbox hb; have ar := zK (Kd.R_below (zR aj) hb); have au := zK (blk_below (g := af) (o := .cells #[.int .i64 a0_0, .slice (some am) aa.length al] 24 (0, 0)) (zk ab) hb); have av := zK (below_step (zb HB) hb); have aD := zK (hbox); have b1 := zK ((by rw [hg]; exact (below_size (zb HB)) : w.heap.size ≤ ag)); have b2 := zK ((by rw [hg]; exact (below_size (zb HB)) : w.heap.size ≤ ag)); have b3 := zK ((by rw [hg]; exact Nat.ne_of_lt (blk_lt (g := af) (o := .cells #[.int .i64 a0_0, .slice (some am) aa.length al] 24 (0, 0)) (zk ab)) : af ≠ ag)); have b4 := zK ((by rw [hg]; exact Nat.ne_of_gt (blk_lt (g := af) (o := .cells #[.int .i64 a0_0, .slice (some am) aa.length al] 24 (0, 0)) (zk ab)) : ag ≠ af)); clear aj; clear ab; clear HB; have aj := ar; have ab := au; have HB := av; have ae := aD; have b5 := b1; have aq := b2; have ah := b3; have ak := b4; clear ar au av aD b1 b2 b3 b4; clear hb hbox hg; have b6 := ak.out; have b7 := ah.out; have aX : bj.cell? ⟨ag, 0, none⟩ = some (.int .i64 0) := (blk_cell ae.out 0).trans rfl; have aY : bj.cell? ⟨ag, 1, none⟩ = some (.int .i64 0) := (blk_cell ae.out 1).trans rfl; have aZ := blk_frozen ae.out 0; have a0 := blk_frozen ae.out 1)))
               (try simp only [Act.put, zp, zq, zr])
               go_cut [67] (fun v67 wc => ∃ (kq : Nat) (a1 : Bool), v67 = .bool a1 ∧ Aside0 (spec_StoreOk.j3 kq an ac ad a1 a0_0 aa ((rd_T30 (rd_L2 aa ac) ad).f0) ((rd_T30 (rd_L2 aa ac) ad).f1) = some r) ∧ Aside0 (kq ≤ k3) ∧ Aside0 (Kd.R (Kd.int .i64) 3 wc w.heap.size (fun _ => True) u3 an) ∧ Aside0 (wc.heap[af]? = some (.cells #[.int .i64 a0_0, (.slice (some am) aa.length al)] 24 (0, 0))) ∧ Aside0 (wc.heap[ag]? = some (.cells #[.int .i64 ((rd_T30 (rd_L2 aa ac) ad).f0), .int .i64 ((rd_T30 (rd_L2 aa ac) ad).f1)] 30 (0, 0))) ∧ Aside0 (Below w.heap.size w wc))
               case first =>
                have H := cf.out; clear cf
                by_cases cj : ((rd_T30 (rd_L2 aa ac) ad).f0) < 1
                ·rw [if_pos cj] at H
                 have aI : decide (((rd_T30 (rd_L2 aa ac) ad).f0) < 1) = true := decide_eq_true cj
                 clear cj
                 (first | rw [aI] | (simp only [i64_w, i32_w]; rw [aI]) | skip)
                 have H' := zK H; clear H; have hnb27 := ak.out; have hnc27 := ah.out
                 have bJ : bj.cell? ⟨ag, 0, none⟩ = some (.int .i64 0) := (blk_cell ae.out 0).trans rfl
                 have bK : bj.cell? ⟨ag, 1, none⟩ = some (.int .i64 0) := (blk_cell ae.out 1).trans rfl
                 have bL := blk_frozen ae.out 0; have bM := blk_frozen ae.out 1
                 go_wp2
                 repeat (go_quiet (fail); try go_wp2)
                 go_meet
                 case rel => exact ⟨_, (true), (by first | rfl | (simp; done) | (simp [*]; done)), H', ⟨by have := b8.out; have := b9.out; have := cd.out; first | omega | exact Nat.le_refl _⟩, ⟨by (with_reducible repeat (first | apply Kd.R_alloc | apply Kd.R_drewN | apply Kd.R_drew)); exact Kd.R_mono (Kd.R_far (p := ⟨ag, 1, none⟩) (Kd.R_far (p := ⟨ag, 0, none⟩) (Kd.R_types aj.out ae.out (by decide)) (fun _ hk => hk.2) (.int .i64 ((rd_T30 (rd_L2 aa ac) ad).f0))) (fun _ hk => hk.2) (.int .i64 ((rd_T30 (rd_L2 aa ac) ad).f1))) (fun _ hk => trivial)⟩, ⟨by (with_reducible repeat (first | refine zN ?_ _ | refine zD ?_ | refine zA ?_ _)); refine blk_far ?_ ah.out _; (with_reducible repeat (first | refine zN ?_ _ | refine zD ?_ | refine zA ?_ _)); refine blk_far ?_ ah.out _; (with_reducible repeat (first | refine zN ?_ _ | refine zD ?_ | refine zA ?_ _)); exact ab.out⟩, ⟨by (with_reducible repeat (first | refine zN ?_ _ | refine zD ?_ | refine zA ?_ _)); refine blk_put (cs := #[.int .i64 ((rd_T30 (rd_L2 aa ac) ad).f0), .int .i64 0]) ?_ 1 _ rfl; (with_reducible repeat (first | refine zN ?_ _ | refine zD ?_ | refine zA ?_ _)); refine blk_put (cs := #[.int .i64 0, .int .i64 0]) ?_ 0 _ rfl; (with_reducible repeat (first | refine zN ?_ _ | refine zD ?_ | refine zA ?_ _)); exact ae.out⟩, ⟨zb HB⟩⟩
                ·rw [if_neg cj] at H
                 have aI : decide (((rd_T30 (rd_L2 aa ac) ad).f0) < 1) = false := decide_eq_false cj
                 clear cj
                 (first | rw [aI] | (simp only [i64_w, i32_w]; rw [aI]) | skip)
                 replace H := Option.bind_eq_some_iff.mp H
                 obtain ⟨cw, cx, H⟩ := H
                 replace H : (if cw = true then ((spec_l03Has.f k3 an ((rd_T30 (rd_L2 aa ac) ad).f0)).bind fun a2 => (spec_StoreOk.j3 k3 an ac ad a2 a0_0 aa ((rd_T30 (rd_L2 aa ac) ad).f0) ((rd_T30 (rd_L2 aa ac) ad).f1))) else (spec_StoreOk.j3 k3 an ac ad true a0_0 aa ((rd_T30 (rd_L2 aa ac) ad).f0) ((rd_T30 (rd_L2 aa ac) ad).f1))) = some r := H
                 have cl := zK cx; clear cx
                 by_cases cy : cw = true
                 ·subst cy
                  have H1 : ((spec_l03Has.f k3 an ((rd_T30 (rd_L2 aa ac) ad).f0)).bind fun a2 => (spec_StoreOk.j3 k3 an ac ad a2 a0_0 aa ((rd_T30 (rd_L2 aa ac) ad).f0) ((rd_T30 (rd_L2 aa ac) ad).f1))) = some r := by rw [if_pos rfl] at H; exact H
                  clear H; have H := H1; clear H1; replace H := Option.bind_eq_some_iff.mp H
                  obtain ⟨a2, cz, H⟩ := H
                  replace H : (spec_StoreOk.j3 k3 an ac ad a2 a0_0 aa ((rd_T30 (rd_L2 aa ac) ad).f0) ((rd_T30 (rd_L2 aa ac) ad).f1)) = some r := H
                  have A31 := zK cz; clear cz; have H' := zK H; clear H; have hnb32 := ak.out; have hnc32 := ah.out
                  have bN : bj.cell? ⟨ag, 0, none⟩ = some (.int .i64 0) := (blk_cell ae.out 0).trans rfl
                  have bO : bj.cell? ⟨ag, 1, none⟩ = some (.int .i64 0) := (blk_cell ae.out 1).trans rfl
                  have bP := blk_frozen ae.out 0; have bQ := blk_frozen ae.out 1
                  go_wp2_with (first | (go_at_call 48; (with_reducible refine (spec_l01In.calls ((rd_T30 (rd_L2 aa ac) ad).f1) 0 100000 true _ cl.out).mono ?_); rintro e w' ⟨rfl, ⟨nd, rfl⟩⟩; (try first | exact ⟨rfl, _, World.drewN_drewN _ _ _⟩ | exact ⟨rfl, _, Eq.trans (World.drewN_drewN _ _ _) (congrArg (World.drewN _) (Nat.add_assoc _ _ _))⟩); obtain ⟨cA, bo, bp⟩ := Kd.R_slice aj.out; subst bp) | (go_at_call 49; (with_reducible refine (spec_l03Has.calls k3 _ _ an ((rd_T30 (rd_L2 aa ac) ad).f0) a2 _ ?side1 ?side2 A31.out).mono ?_); (case side1 => refine (Kd.R_reads' (e := 3) (base := w.heap.size) (ok := fun k_ => True) (n := an.length) (c := bo) ?_).2.2; exact (by (with_reducible repeat (first | apply Kd.R_alloc | apply Kd.R_drewN | apply Kd.R_drew)); exact (Kd.R_mono (Kd.R_far (p := ⟨ag, 1, none⟩) (Kd.R_far (p := ⟨ag, 0, none⟩) (Kd.R_types aj.out ae.out (by decide)) (fun _ hk => hk.2) (.int .i64 ((rd_T30 (rd_L2 aa ac) ad).f0))) (fun _ hk => hk.2) (.int .i64 ((rd_T30 (rd_L2 aa ac) ad).f1))) (fun _ h_ => h_.1)))); (case side2 => exact (Kd.R_reads' aj.out).2.1); rintro e w' ⟨rfl, ⟨nd, rfl⟩⟩; (try first | exact ⟨rfl, _, World.drewN_drewN _ _ _⟩ | exact ⟨rfl, _, Eq.trans (World.drewN_drewN _ _ _) (congrArg (World.drewN _) (Nat.add_assoc _ _ _))⟩)))
                  repeat (go_quiet (first | (go_at_call 48; (with_reducible refine (spec_l01In.calls ((rd_T30 (rd_L2 aa ac) ad).f1) 0 100000 true _ cl.out).mono ?_); rintro e w' ⟨rfl, ⟨nd, rfl⟩⟩; (try first | exact ⟨rfl, _, World.drewN_drewN _ _ _⟩ | exact ⟨rfl, _, Eq.trans (World.drewN_drewN _ _ _) (congrArg (World.drewN _) (Nat.add_assoc _ _ _))⟩); obtain ⟨cA, bo, bp⟩ := Kd.R_slice aj.out; subst bp) | (go_at_call 49; (with_reducible refine (spec_l03Has.calls k3 _ _ an ((rd_T30 (rd_L2 aa ac) ad).f0) a2 _ ?side1 ?side2 A31.out).mono ?_); (case side1 => refine (Kd.R_reads' (e := 3) (base := w.heap.size) (ok := fun k_ => True) (n := an.length) (c := bo) ?_).2.2; exact (by (with_reducible repeat (first | apply Kd.R_alloc | apply Kd.R_drewN | apply Kd.R_drew)); exact (Kd.R_mono (Kd.R_far (p := ⟨ag, 1, none⟩) (Kd.R_far (p := ⟨ag, 0, none⟩) (Kd.R_types aj.out ae.out (by decide)) (fun _ hk => hk.2) (.int .i64 ((rd_T30 (rd_L2 aa ac) ad).f0))) (fun _ hk => hk.2) (.int .i64 ((rd_T30 (rd_L2 aa ac) ad).f1))) (fun _ h_ => h_.1)))); (case side2 => exact (Kd.R_reads' aj.out).2.1); rintro e w' ⟨rfl, ⟨nd, rfl⟩⟩; (try first | exact ⟨rfl, _, World.drewN_drewN _ _ _⟩ | exact ⟨rfl, _, Eq.trans (World.drewN_drewN _ _ _) (congrArg (World.drewN _) (Nat.add_assoc _ _ _))⟩))); try go_wp2_with (first | (go_at_call 48; (with_reducible refine (spec_l01In.calls ((rd_T30 (rd_L2 aa ac) ad).f1) 0 100000 true _ cl.out).mono ?_); rintro e w' ⟨rfl, ⟨nd, rfl⟩⟩; (try first | exact ⟨rfl, _, World.drewN_drewN _ _ _⟩ | exact ⟨rfl, _, Eq.trans (World.drewN_drewN _ _ _) (congrArg (World.drewN _) (Nat.add_assoc _ _ _))⟩); obtain ⟨cA, bo, bp⟩ := Kd.R_slice aj.out; subst bp) | (go_at_call 49; (with_reducible refine (spec_l03Has.calls k3 _ _ an ((rd_T30 (rd_L2 aa ac) ad).f0) a2 _ ?side1 ?side2 A31.out).mono ?_); (case side1 => refine (Kd.R_reads' (e := 3) (base := w.heap.size) (ok := fun k_ => True) (n := an.length) (c := bo) ?_).2.2; exact (by (with_reducible repeat (first | apply Kd.R_alloc | apply Kd.R_drewN | apply Kd.R_drew)); exact (Kd.R_mono (Kd.R_far (p := ⟨ag, 1, none⟩) (Kd.R_far (p := ⟨ag, 0, none⟩) (Kd.R_types aj.out ae.out (by decide)) (fun _ hk => hk.2) (.int .i64 ((rd_T30 (rd_L2 aa ac) ad).f0))) (fun _ hk => hk.2) (.int .i64 ((rd_T30 (rd_L2 aa ac) ad).f1))) (fun _ h_ => h_.1)))); (case side2 => exact (Kd.R_reads' aj.out).2.1); rintro e w' ⟨rfl, ⟨nd, rfl⟩⟩; (try first | exact ⟨rfl, _, World.drewN_drewN _ _ _⟩ | exact ⟨rfl, _, Eq.trans (World.drewN_drewN _ _ _) (congrArg (World.drewN _) (Nat.add_assoc _ _ _))⟩))))
                  go_meet
                  case rel => exact ⟨_, (a2), (by first | rfl | (simp; done) | (simp [*]; done)), H', ⟨by have := b8.out; have := b9.out; have := cd.out; first | omega | exact Nat.le_refl _⟩, ⟨by (with_reducible repeat (first | apply Kd.R_alloc | apply Kd.R_drewN | apply Kd.R_drew)); exact Kd.R_mono (Kd.R_far (p := ⟨ag, 1, none⟩) (Kd.R_far (p := ⟨ag, 0, none⟩) (Kd.R_types aj.out ae.out (by decide)) (fun _ hk => hk.2) (.int .i64 ((rd_T30 (rd_L2 aa ac) ad).f0))) (fun _ hk => hk.2) (.int .i64 ((rd_T30 (rd_L2 aa ac) ad).f1))) (fun _ hk => trivial)⟩, ⟨by (with_reducible repeat (first | refine zN ?_ _ | refine zD ?_ | refine zA ?_ _)); refine blk_far ?_ ah.out _; (with_reducible repeat (first | refine zN ?_ _ | refine zD ?_ | refine zA ?_ _)); refine blk_far ?_ ah.out _; (with_reducible repeat (first | refine zN ?_ _ | refine zD ?_ | refine zA ?_ _)); exact ab.out⟩, ⟨by (with_reducible repeat (first | refine zN ?_ _ | refine zD ?_ | refine zA ?_ _)); refine blk_put (cs := #[.int .i64 ((rd_T30 (rd_L2 aa ac) ad).f0), .int .i64 0]) ?_ 1 _ rfl; (with_reducible repeat (first | refine zN ?_ _ | refine zD ?_ | refine zA ?_ _)); refine blk_put (cs := #[.int .i64 0, .int .i64 0]) ?_ 0 _ rfl; (with_reducible repeat (first | refine zN ?_ _ | refine zD ?_ | refine zA ?_ _)); exact ae.out⟩, ⟨zb HB⟩⟩
                 ·replace cy := Bool.eq_false_iff.mpr cy
                  subst cy
                  have H1 : (spec_StoreOk.j3 k3 an ac ad true a0_0 aa ((rd_T30 (rd_L2 aa ac) ad).f0) ((rd_T30 (rd_L2 aa ac) ad).f1)) = some r := by rw [if_neg (show ¬ (false = true) by decide)] at H; exact H
                  clear H; have H := H1; clear H1; have H' := zK H; clear H; have hnb35 := ak.out; have hnc35 := ah.out
                  have bR : bj.cell? ⟨ag, 0, none⟩ = some (.int .i64 0) := (blk_cell ae.out 0).trans rfl
                  have bS : bj.cell? ⟨ag, 1, none⟩ = some (.int .i64 0) := (blk_cell ae.out 1).trans rfl
                  have bT := blk_frozen ae.out 0; have bU := blk_frozen ae.out 1
                  go_wp2_with (first | (go_at_call 48; (with_reducible refine (spec_l01In.calls ((rd_T30 (rd_L2 aa ac) ad).f1) 0 100000 false _ cl.out).mono ?_); rintro e w' ⟨rfl, ⟨nd, rfl⟩⟩; (try first | exact ⟨rfl, _, World.drewN_drewN _ _ _⟩ | exact ⟨rfl, _, Eq.trans (World.drewN_drewN _ _ _) (congrArg (World.drewN _) (Nat.add_assoc _ _ _))⟩)))
                  repeat (go_quiet (first | (go_at_call 48; (with_reducible refine (spec_l01In.calls ((rd_T30 (rd_L2 aa ac) ad).f1) 0 100000 false _ cl.out).mono ?_); rintro e w' ⟨rfl, ⟨nd, rfl⟩⟩; (try first | exact ⟨rfl, _, World.drewN_drewN _ _ _⟩ | exact ⟨rfl, _, Eq.trans (World.drewN_drewN _ _ _) (congrArg (World.drewN _) (Nat.add_assoc _ _ _))⟩))); try go_wp2_with (first | (go_at_call 48; (with_reducible refine (spec_l01In.calls ((rd_T30 (rd_L2 aa ac) ad).f1) 0 100000 false _ cl.out).mono ?_); rintro e w' ⟨rfl, ⟨nd, rfl⟩⟩; (try first | exact ⟨rfl, _, World.drewN_drewN _ _ _⟩ | exact ⟨rfl, _, Eq.trans (World.drewN_drewN _ _ _) (congrArg (World.drewN _) (Nat.add_assoc _ _ _))⟩))))
                  go_meet
                  case rel => exact ⟨_, (true), (by first | rfl | (simp; done) | (simp [*]; done)), H', ⟨by have := b8.out; have := b9.out; have := cd.out; first | omega | exact Nat.le_refl _⟩, ⟨by (with_reducible repeat (first | apply Kd.R_alloc | apply Kd.R_drewN | apply Kd.R_drew)); exact Kd.R_mono (Kd.R_far (p := ⟨ag, 1, none⟩) (Kd.R_far (p := ⟨ag, 0, none⟩) (Kd.R_types aj.out ae.out (by decide)) (fun _ hk => hk.2) (.int .i64 ((rd_T30 (rd_L2 aa ac) ad).f0))) (fun _ hk => hk.2) (.int .i64 ((rd_T30 (rd_L2 aa ac) ad).f1))) (fun _ hk => trivial)⟩, ⟨by (with_reducible repeat (first | refine zN ?_ _ | refine zD ?_ | refine zA ?_ _)); refine blk_far ?_ ah.out _; (with_reducible repeat (first | refine zN ?_ _ | refine zD ?_ | refine zA ?_ _)); refine blk_far ?_ ah.out _; (with_reducible repeat (first | refine zN ?_ _ | refine zD ?_ | refine zA ?_ _)); exact ab.out⟩, ⟨by (with_reducible repeat (first | refine zN ?_ _ | refine zD ?_ | refine zA ?_ _)); refine blk_put (cs := #[.int .i64 ((rd_T30 (rd_L2 aa ac) ad).f0), .int .i64 0]) ?_ 1 _ rfl; (with_reducible repeat (first | refine zN ?_ _ | refine zD ?_ | refine zA ?_ _)); refine blk_put (cs := #[.int .i64 0, .int .i64 0]) ?_ 0 _ rfl; (with_reducible repeat (first | refine zN ?_ _ | refine zD ?_ | refine zA ?_ _)); exact ae.out⟩, ⟨zb HB⟩⟩
               case rest =>
                clear cf
                try clear c1
                try clear p1
                try clear q1
                try clear hx1
                try clear c2
                try clear p2
                try clear c3
                try clear c5
                try clear c9
                try clear c10
                try clear p10
                try clear q10
                try clear hx10
                try clear c11
                try clear p11
                try clear q11
                try clear hx11
                try clear bX
                try clear bl
                try clear ck
                try clear bY
                try clear bZ
                try clear bm
                try clear c15
                try clear co
                try clear cp
                try clear cq
                try clear cr
                try clear ce
                try clear b0
                try clear ct
                try clear cu
                try clear c24
                try clear cj
                try clear aI
                try clear c27
                try clear cy
                try clear c32
                try clear c35
                try clear a9
                try clear ba
                try clear bd
                try clear be
                try clear bx
                try clear bz
                try clear aX
                try clear aY
                try clear bJ
                try clear bK
                try clear bN
                try clear bO
                try clear bR
                try clear bS
                try clear aJ
                try clear aK
                try clear aQ
                try clear aR
                try clear bb
                try clear bc
                try clear bf
                try clear bg
                try clear bA
                try clear bB
                try clear aZ
                try clear a0
                try clear bL
                try clear bM
                try clear bP
                try clear bQ
                try clear bT
                try clear bU
                try clear aM
                try clear aN
                try clear aT
                try clear aU
                try clear ao
                try clear ap
                try clear aC
                try clear aE
                try clear aG
                try clear p1
                try clear p10
                try clear aV
                try clear a5
                try clear bE
                try clear bH
                try clear p2
                try clear q1
                try clear q10
                try clear aW
                try clear a6
                try clear bF
                try clear bI
                obtain ⟨kq, a1, rfl, HA, cB, aj, ab, ae, HB⟩ := hcut
                cases kq with
                | zero => exact absurd HA.out (by simp [spec_StoreOk.j3])
                | succ kj20 =>
                 have H := HA.out; clear HA
                 simp only [spec_StoreOk.j3] at H
                 by_cases c37 : a1 = true
                 ·subst c37
                  have H1 : (some false) = some r := by rw [if_pos rfl] at H; exact H
                  clear H; have H := H1; clear H1; obtain rfl := Option.some.inj H
                  go_wp2
                  repeat (go_quiet (fail); try go_wp2)
                  go_ret
                  exact ⟨by first | rfl | (simp [errW_none, errW_some] <;> rfl) | (simp [*, errW_none, errW_some] <;> rfl), by repeat (first | (with_reducible first | exact HB.out | apply zB | apply zC | apply zE | refine zS ?_ ai.out | refine zS ?_ aq.out) | exact HB.out)⟩
                 ·replace c37 := Bool.eq_false_iff.mpr c37
                  subst c37
                  have H1 : (if an.length < 17592186044416 then (spec_StoreOk.l1 kj20 (an ++ [((rd_T30 (rd_L2 aa ac) ad).f0)]) ac (wrap64 (ad + 1)) a0_0 aa) else (none)) = some r := by rw [if_neg (show ¬ (false = true) by decide)] at H; exact H
                  clear H; have H := H1; clear H1
                  by_cases c38 : an.length < 17592186044416
                  ·rw [if_pos c38] at H
                   have bq := zK c38; clear c38
                   obtain ⟨cC, a7⟩ : ∃ y_ : List Int, y_ = (an ++ [((rd_T30 (rd_L2 aa ac) ad).f0)]) := ⟨_, rfl⟩
                   replace H : (spec_StoreOk.l1 kj20 cC ac (wrap64 (ad + 1)) a0_0 aa) = some r := by first | (rw [a7]; with_reducible exact H) | (have H2_ := (Option.bind_some _ _).symm.trans H; rw [a7]; with_reducible exact H2_) | (have H2_ := (Option.bind_some _ _).symm.trans H; with_reducible exact H2_) | with_reducible exact H | (rw [a7]; exact H) | exact H
                   have Ny115 := zK a7; clear a7; have H' := zK H; clear H; have hnb39 := ak.out; have hnc39 := ah.out
                   have hcz40_0 : wc.cell? ⟨ag, 0, none⟩ = some (.int .i64 ((rd_T30 (rd_L2 aa ac) ad).f0)) := (blk_cell ae.out 0).trans rfl
                   have hcz40_1 : wc.cell? ⟨ag, 1, none⟩ = some (.int .i64 ((rd_T30 (rd_L2 aa ac) ad).f1)) := (blk_cell ae.out 1).trans rfl
                   have hfz40_0 := blk_frozen ae.out 0; have hfz40_1 := blk_frozen ae.out 1
                   go_wp2_with (first | ((with_reducible refine gate_builtin (b := .append) (xs := #[.tmp 68, .tmp 71]) rfl ?_); (try (refine gate_guard (by rfl) ?_; dsimp only)); at_builtin; refine Kd.R_append (Kd.int .i64) (w0 := w) w.heap.size rfl (.tmp 68) (.tmp 71) 25 3 (.int .i64 0) 8 rfl Try.underlying25 info3 rfl (by decide) (by omega) u3 an ((rd_T30 (rd_L2 aa ac) ad).f0) [.int .i64 ((rd_T30 (rd_L2 aa ac) ad).f0)] (fun _ => True) (fun _ => False) rfl rfl ?aP (fun _ hk => hk.elim) ?aF ?aO ?aB ?aS ?aL ?_; (case aP => exact rfl); (case aB => exact (zb HB)); (case aF => exact (fun _ _ => trivial)); (case aO => exact (zR aj)); (case aS => exact (below_size (zb HB))); (case aL => have := bq.out; omega); intro cD w41 ho hb hg hat; rw [← Ny115.out] at ho; have ar := zK (blk_grown (g := af) (o := .cells #[.int .i64 a0_0, .slice (some am) aa.length al] 24 (0, 0)) (zk ab) hg (Kd.R_ne aj.out ab.out (by decide))); have au := zK (blk_grown (g := ag) (o := .cells #[.int .i64 ((rd_T30 (rd_L2 aa ac) ad).f0), .int .i64 ((rd_T30 (rd_L2 aa ac) ad).f1)] 30 (0, 0)) (zk ae) hg (Kd.R_ne aj.out ae.out (by decide))); have av := zK (hb); have aD := zK (ho); clear ab; clear ae; clear HB; clear aj; have ab := ar; have ae := au; have HB := av; have br := aD; clear ar au av aD; clear ho hb hg hat))
                   repeat (go_quiet (first | ((with_reducible refine gate_builtin (b := .append) (xs := #[.tmp 68, .tmp 71]) rfl ?_); (try (refine gate_guard (by rfl) ?_; dsimp only)); at_builtin; refine Kd.R_append (Kd.int .i64) (w0 := w) w.heap.size rfl (.tmp 68) (.tmp 71) 25 3 (.int .i64 0) 8 rfl Try.underlying25 info3 rfl (by decide) (by omega) u3 an ((rd_T30 (rd_L2 aa ac) ad).f0) [.int .i64 ((rd_T30 (rd_L2 aa ac) ad).f0)] (fun _ => True) (fun _ => False) rfl rfl ?aP (fun _ hk => hk.elim) ?aF ?aO ?aB ?aS ?aL ?_; (case aP => exact rfl); (case aB => exact (zb HB)); (case aF => exact (fun _ _ => trivial)); (case aO => exact (zR aj)); (case aS => exact (below_size (zb HB))); (case aL => have := bq.out; omega); intro cD w41 ho hb hg hat; rw [← Ny115.out] at ho; have ar := zK (blk_grown (g := af) (o := .cells #[.int .i64 a0_0, .slice (some am) aa.length al] 24 (0, 0)) (zk ab) hg (Kd.R_ne aj.out ab.out (by decide))); have au := zK (blk_grown (g := ag) (o := .cells #[.int .i64 ((rd_T30 (rd_L2 aa ac) ad).f0), .int .i64 ((rd_T30 (rd_L2 aa ac) ad).f1)] 30 (0, 0)) (zk ae) hg (Kd.R_ne aj.out ae.out (by decide))); have av := zK (hb); have aD := zK (ho); clear ab; clear ae; clear HB; clear aj; have ab := ar; have ae := au; have HB := av; have br := aD; clear ar au av aD; clear ho hb hg hat)); try go_wp2_with (first | ((with_reducible refine gate_builtin (b := .append) (xs := #[.tmp 68, .tmp 71]) rfl ?_); (try (refine gate_guard (by rfl) ?_; dsimp only)); at_builtin; refine Kd.R_append (Kd.int .i64) (w0 := w) w.heap.size rfl (.tmp 68) (.tmp 71) 25 3 (.int .i64 0) 8 rfl Try.underlying25 info3 rfl (by decide) (by omega) u3 an ((rd_T30 (rd_L2 aa ac) ad).f0) [.int .i64 ((rd_T30 (rd_L2 aa ac) ad).f0)] (fun _ => True) (fun _ => False) rfl rfl ?aP (fun _ hk => hk.elim) ?aF ?aO ?aB ?aS ?aL ?_; (case aP => exact rfl); (case aB => exact (zb HB)); (case aF => exact (fun _ _ => trivial)); (case aO => exact (zR aj)); (case aS => exact (below_size (zb HB))); (case aL => have := bq.out; omega); intro cD w41 ho hb hg hat; rw [← Ny115.out] at ho; have ar := zK (blk_grown (g := af) (o := .cells #[.int .i64 a0_0, .slice (some am) aa.length al] 24 (0, 0)) (zk ab) hg (Kd.R_ne aj.out ab.out (by decide))); have au := zK (blk_grown (g := ag) (o := .cells #[.int .i64 ((rd_T30 (rd_L2 aa ac) ad).f0), .int .i64 ((rd_T30 (rd_L2 aa ac) ad).f1)] 30 (0, 0)) (zk ae) hg (Kd.R_ne aj.out ae.out (by decide))); have av := zK (hb); have aD := zK (ho); clear ab; clear ae; clear HB; clear aj; have ab := ar; have ae := au; have HB := av; have br := aD; clear ar au av aD; clear ho hb hg hat)))
                   go_roundg kj20
                   case measure => have := b8.out; have := b9.out; have := cd.out; have := cB.out; omega
                   case rel => exact ⟨(cC), (wrap64 (ad + 1)), (by first | rfl | (simp; done) | (simp [*]; done)), H', ⟨by have := b8.out; have := b9.out; have := cd.out; have := cB.out; omega⟩, ⟨zR br⟩, ⟨zk ab⟩, ⟨zb HB⟩⟩
                  ·rw [if_neg c38] at H
                   exact absurd H (by simp)
              ·rw [if_neg ct] at H
               exact absurd H (by simp)
             ·rw [if_neg ce] at H
              have b0 : decide (ad < ((rd_L2 aa ac).length : Int)) = false := decide_eq_false ce
              clear ce; have H' := zK H; clear H
              have hcz42_0 : wr.cell? ⟨af, 0, none⟩ = some (.int .i64 a0_0) := (blk_cell ab.out 0).trans rfl
              have hcz42_1 : wr.cell? ⟨af, 1, none⟩ = some (.slice (some am) aa.length al) := (blk_cell ab.out 1).trans rfl
              have hfz42_0 := blk_frozen ab.out 0; have hfz42_1 := blk_frozen ab.out 1
              have a5 : 0 ≤ (ac : Int) := zd
              have a6 : ac < (aa.length : Int) := zd
              obtain ⟨bn, cg, ch, ci, ap, az, aA⟩ := at_L2 a3.out ac a5 a6
              obtain rfl : am = bn := (by injection ci)
              replace ap := (HB.out.cell (World.block_lt_of_cell? w _ ap)).trans ap
              have bC := zK aA; have bD := zK az; clear aA az; replace a5 := eq_true a5; replace a6 := eq_true a6
              go_wp2
              repeat (go_quiet (fail); try go_wp2)
              go_roundg k3
              case measure => have := b8.out; have := b9.out; have := cd.out; omega
              case rel => exact ⟨(an), (wrap64 (ac + 1)), (by first | rfl | (simp; done) | (simp [*]; done)), H', ⟨by have := b8.out; have := b9.out; have := cd.out; omega⟩, ⟨zR aj⟩, ⟨zk ab⟩, ⟨zb HB⟩⟩
            ·rw [if_neg cq] at H
             exact absurd H (by simp)
           ·rw [if_neg co] at H
            exact absurd H (by simp)
       ·rw [if_neg ck] at H
        exact absurd H (by simp)
      ·rw [if_neg bX] at H
       have bl : decide (ac < (aa.length : Int)) = false := decide_eq_false bX
       clear bX; obtain rfl := Option.some.inj H
       have hcz43_0 : wr.cell? ⟨af, 0, none⟩ = some (.int .i64 a0_0) := (blk_cell ab.out 0).trans rfl
       have hcz43_1 : wr.cell? ⟨af, 1, none⟩ = some (.slice aw aa.length al) := (blk_cell ab.out 1).trans rfl
       have hfz43_0 := blk_frozen ab.out 0; have hfz43_1 := blk_frozen ab.out 1
       go_wp2
       repeat (go_quiet (fail); try go_wp2)
       go_ret
       exact ⟨by first | rfl | (simp [errW_none, errW_some] <;> rfl) | (simp [*, errW_none, errW_some] <;> rfl), by repeat (first | (with_reducible first | exact HB.out | apply zB | apply zC | apply zE | refine zS ?_ ai.out) | exact HB.out)⟩
mutual
def impl_bagsIn.l0 : Nat → List Int → List (List (S30)) → Int → Int → Option (List Int)
 | 0, _, _, _, _ => none
 | k + 1, x3, x9, x10, x11 => if x11 < x10 then (if 0 ≤ x11 then (if x11 < (x9.length : Int) then (impl_bagsIn.l1 k x3 x9 x10 x11 (rd_L2 x9 x11) ((rd_L2 x9 x11).length : Int) 0) else (none)) else (none)) else (some x3)
def impl_bagsIn.l1 : Nat → List Int → List (List (S30)) → Int → Int → List (S30) → Int → Int → Option (List Int)
 | 0, _, _, _, _, _, _, _ => none
 | k + 1, x3, x9, x10, x11, x15, x16, x17 => if x17 < x16 then (if 0 ≤ x17 then (if x17 < (x15.length : Int) then (if x3.length < 17592186044416 then (impl_bagsIn.l1 k (x3 ++ [(rd_T30 x15 x17).f0]) x9 x10 x11 x15 x16 (wrap64 (x17 + 1))) else (none)) else (none)) else (none)) else (impl_bagsIn.l0 k x3 x9 x10 (wrap64 (x11 + 1)))
end
def impl_bagsIn.f (k : Nat) (a0_0 : Int) (l0_1 : List (List (S30))) : Option (List Int) := impl_bagsIn.l0 k ([] : List Int) l0_1 (l0_1.length : Int) 0
set_option maxHeartbeats 8000000 in
set_option maxRecDepth 100000 in
theorem impl_bagsIn.calls (k : Nat) (a0_0 : Int) (aw : Option Addr) (al : Nat) (ab : List (List (S30))) (r : List Int) (w : World) (aI : Kd.C (Kd.slice 30 k30) w aw ab.length ab) (hc0_1 : ab.length ≤ al) (h : impl_bagsIn.f k a0_0 ab = some r) :
  Calls Try.prog 50 #[.agg #[.int .i64 a0_0, .slice aw ab.length al]] w fun e w' => ∃ v0_ : Value, e = .returned (v0_) ∧ Kd.R (Kd.int .i64) 3 w' w.heap.size (fun _ => True) v0_ r ∧ Below w.heap.size w w' := by
 have hu24 := Try.underlying24; have hu30 := Try.underlying30; have aT := zK aI; have HC0_1 := zK hc0_1; clear aI hc0_1
 have HB := zK (Below.refl w.heap.size w)
 have H : (impl_bagsIn.l0 k ([] : List Int) ab (ab.length : Int) 0) = some r := h
 clear h; have H' := zK H; clear H
 go_enter Try.func50, Try.ntmps50
 go_wp2_with (first | ((with_reducible refine gate_dst (N := 1) rfl ?_); refine box_event ?hg (N := 1) ?hd (cs := #[.int .i64 a0_0, .slice aw ab.length al]) (t := 24) ?hr ?_; (case hd => rfl); (case hg => rfl); (case hr => first | (go_simp; done) | (go_simp; rfl)); intro ae hg w2 hbox hb; have aJ := zK (below_step (zb HB) hb); have aK := zK (hbox); have aM := zK ((by rw [hg]; exact (below_size (zb HB)) : w.heap.size ≤ ae)); have aN := zK ((by rw [hg]; exact (below_size (zb HB)) : w.heap.size ≤ ae)); clear HB; have HB := aJ; have ad := aK; have GW127 := aM; have af := aN; clear aJ aK aM aN; clear hb hbox hg; have ax : w2.cell? ⟨ae, 0, none⟩ = some (.int .i64 a0_0) := (blk_cell ad.out 0).trans rfl; have ay : w2.cell? ⟨ae, 1, none⟩ = some (.slice aw ab.length al) := (blk_cell ad.out 1).trans rfl; have az := blk_frozen ad.out 0; have aA := blk_frozen ad.out 1))
 go_loopg [3, 11] k (fun kq v3 v11 w' => ∃ (aD : List Int) (aa : Int), v11 = .int .i64 aa ∧ Aside0 (impl_bagsIn.l0 kq aD ab (ab.length : Int) aa = some r) ∧ Aside0 (kq ≤ k) ∧ Aside0 (Kd.R (Kd.int .i64) 3 w' w.heap.size (fun _ => True) v3 aD) ∧ Aside0 (w'.heap[ae]? = some (.cells #[.int .i64 a0_0, (.slice aw ab.length al)] 24 (0, 0))) ∧ Aside0 (Below w.heap.size w w'))
 case atStart => exact ⟨(([] : List Int)), (0), (by first | rfl | (simp; done) | (simp [*]; done)), H', ⟨Nat.le_refl _⟩, ⟨by first | exact Kd.R_nil _ _ _ _ _ | exact Kd.N_nil _ _ _ _ _ | exact Kd.V_nil _ _ _ _ _ | exact Kd.Q_nil _ _ _ _ _ | exact Kd.S_nil _ _ _ _ _⟩, ⟨zk ad⟩, ⟨zb HB⟩⟩
 case round =>
  clear H'
  try clear p2
  try clear ax
  try clear ay
  try clear az
  try clear aA
  obtain ⟨aD, aa, rfl, HA, HK1, ak, ad, HB⟩ := hrel
  cases gk with
  | zero => exact absurd HA.out (by simp [impl_bagsIn.l0])
  | succ k1 =>
   have H := HA.out; clear HA
   simp only [impl_bagsIn.l0] at H
   by_cases c4 : aa < (ab.length : Int)
   ·rw [if_pos c4] at H
    have aU : decide (aa < (ab.length : Int)) = true := decide_eq_true c4
    clear c4
    by_cases c5 : 0 ≤ aa
    ·rw [if_pos c5] at H
     have c5b0 : decide (0 ≤ aa) = true := decide_eq_true c5
     clear c5
     by_cases c6 : aa < (ab.length : Int)
     ·rw [if_pos c6] at H
      have c6b0 : decide (aa < (ab.length : Int)) = true := decide_eq_true c6
      clear c6; have H' := zK H; clear H
      have aE : 0 ≤ (aa : Int) := zd
      have aG : aa < (ab.length : Int) := zd
      obtain ⟨ao, A128_0, c128_0, e128, aj, ar, au⟩ := at_L2 aT.out aa aE aG
      cases e128
      replace aj := (HB.out.cell (World.block_lt_of_cell? w _ aj)).trans aj
      have aH := zK au; have HC128_0 := zK ar; clear au ar; replace aE := eq_true aE; replace aG := eq_true aG
      go_wp2
      go_loopg [3, 17] k1 (fun kq v3 v17 w' => ∃ (aq : List Int) (ac : Int), v17 = .int .i64 ac ∧ Aside0 (impl_bagsIn.l1 kq aq ab (ab.length : Int) aa (rd_L2 ab aa) ((rd_L2 ab aa).length : Int) ac = some r) ∧ Aside0 (kq ≤ k1) ∧ Aside0 (Kd.R (Kd.int .i64) 3 w' w.heap.size (fun _ => True) v3 aq) ∧ Aside0 (w'.heap[ae]? = some (.cells #[.int .i64 a0_0, (.slice (some ao) ab.length al)] 24 (0, 0))) ∧ Aside0 (Below w.heap.size w w'))
      case atStart => exact ⟨(aD), (0), (by first | rfl | (simp; done) | (simp [*]; done)), H', ⟨Nat.le_refl _⟩, ⟨zR ak⟩, ⟨zk ad⟩, ⟨zb HB⟩⟩
      case round =>
       clear H'
       try clear c1
       try clear p1
       try clear q1
       try clear hx1
       try clear p2
       try clear c4
       try clear aU
       try clear c5
       try clear c5b0
       try clear c6
       try clear c6b0
       try clear ax
       try clear ay
       try clear az
       try clear aA
       try clear aj
       try clear aE
       try clear p2
       try clear aG
       obtain ⟨aq, ac, rfl, HA, HK2, ak, ad, HB⟩ := hrel
       cases gk with
       | zero => exact absurd HA.out (by simp [impl_bagsIn.l1])
       | succ k2 =>
        have H := HA.out; clear HA
        simp only [impl_bagsIn.l1] at H
        by_cases c7 : ac < ((rd_L2 ab aa).length : Int)
        ·rw [if_pos c7] at H
         have c7b0 : decide (ac < ((rd_L2 ab aa).length : Int)) = true := decide_eq_true c7
         clear c7
         by_cases c8 : 0 ≤ ac
         ·rw [if_pos c8] at H
          have c8b0 : decide (0 ≤ ac) = true := decide_eq_true c8
          clear c8
          by_cases c9 : ac < ((rd_L2 ab aa).length : Int)
          ·rw [if_pos c9] at H
           have c9b0 : decide (ac < ((rd_L2 ab aa).length : Int)) = true := decide_eq_true c9
           clear c9
           by_cases c10 : aq.length < 17592186044416
           ·rw [if_pos c10] at H
            have aV := zK c10; clear c10
            obtain ⟨aW, ap⟩ : ∃ y_ : List Int, y_ = (aq ++ [(rd_T30 (rd_L2 ab aa) ac).f0]) := ⟨_, rfl⟩
            replace H : (impl_bagsIn.l1 k2 aW ab (ab.length : Int) aa (rd_L2 ab aa) ((rd_L2 ab aa).length : Int) (wrap64 (ac + 1))) = some r := by first | (rw [ap]; with_reducible exact H) | (have H2_ := (Option.bind_some _ _).symm.trans H; rw [ap]; with_reducible exact H2_) | (have H2_ := (Option.bind_some _ _).symm.trans H; with_reducible exact H2_) | with_reducible exact H | (rw [ap]; exact H) | exact H
            have Ny131 := zK ap; clear ap; have H' := zK H; clear H
            have aQ : 0 ≤ (ac : Int) := zd
            have aR : ac < ((rd_L2 ab aa).length : Int) := zd
            obtain ⟨ad129, e129, am, an⟩ := at_T30 aH.out ac aQ aR
            cases e129
            replace am := (HB.out.cell (World.block_lt_of_cell? w _ am)).trans am
            replace an := (HB.out.cell (World.block_lt_of_cell? w _ an)).trans an
            replace aQ := eq_true aQ; replace aR := eq_true aR
            go_wp2_with (first | ((with_reducible refine gate_dst (N := 7) rfl ?_); refine box_event ?hg (N := 7) ?hd (cs := #[.int .i64 0, .int .i64 0]) (t := 30) ?hr ?_; (case hd => rfl); (case hg => rfl); (case hr => first | (go_simp; done) | (go_simp; rfl)); intro ag hg w11 hbox hb; have aJ := zK (Kd.R_below (zR ak) hb); have aK := zK (blk_below (g := ae) (o := .cells #[.int .i64 a0_0, .slice (some ao) ab.length al] 24 (0, 0)) (zk ad) hb); have aM := zK (below_step (zb HB) hb); have aN := zK (hbox); have n4_ := zK ((by rw [hg]; exact (below_size (zb HB)) : w.heap.size ≤ ag)); have n5_ := zK ((by rw [hg]; exact (below_size (zb HB)) : w.heap.size ≤ ag)); have n6_ := zK ((by rw [hg]; exact Nat.ne_of_lt (blk_lt (g := ae) (o := .cells #[.int .i64 a0_0, .slice (some ao) ab.length al] 24 (0, 0)) (zk ad)) : ae ≠ ag)); have n7_ := zK ((by rw [hg]; exact Nat.ne_of_gt (blk_lt (g := ae) (o := .cells #[.int .i64 a0_0, .slice (some ao) ab.length al] 24 (0, 0)) (zk ad)) : ag ≠ ae)); clear ak; clear ad; clear HB; have ak := aJ; have ad := aK; have HB := aM; have ah := aN; have GW130 := n4_; have aC := n5_; have ai := n6_; have av := n7_; clear aJ aK aM aN n4_ n5_ n6_ n7_; clear hb hbox hg; have hnb12 := av.out; have hnc12 := ai.out; have hcz13_0 : w11.cell? ⟨ag, 0, none⟩ = some (.int .i64 0) := (blk_cell ah.out 0).trans rfl; have hcz13_1 : w11.cell? ⟨ag, 1, none⟩ = some (.int .i64 0) := (blk_cell ah.out 1).trans rfl; have hfz13_0 := blk_frozen ah.out 0; have hfz13_1 := blk_frozen ah.out 1) | ((with_reducible refine gate_builtin (b := .append) (xs := #[.tmp 21, .tmp 24]) rfl ?_); at_builtin; refine Kd.R_append (Kd.int .i64) (w0 := w) w.heap.size rfl (.tmp 21) (.tmp 24) 25 3 (.int .i64 0) 8 rfl Try.underlying25 info3 rfl (by decide) (by omega) u3 aq ((rd_T30 (rd_L2 ab aa) ac).f0) [.int .i64 ((rd_T30 (rd_L2 ab aa) ac).f0)] (fun _ => True) (fun _ => False) rfl (by first | (go_simp; done) | (go_simp; rfl)) ?aP (fun _ hk => hk.elim) ?aF ?aO ?aB ?aS ?aL ?_; (case aP => exact rfl); (case aB => exact (zb HB)); (case aF => exact (fun _ _ => trivial)); (case aO => exact (by (with_reducible repeat (first | apply Kd.R_alloc | apply Kd.R_drewN | apply Kd.R_drew)); exact Kd.R_mono (Kd.R_far (p := ⟨ag, 1, none⟩) (Kd.R_far (p := ⟨ag, 0, none⟩) (Kd.R_types ak.out ah.out (by decide)) (fun _ hk => hk.2) (.int .i64 ((rd_T30 (rd_L2 ab aa) ac).f0))) (fun _ hk => hk.2) (.int .i64 ((rd_T30 (rd_L2 ab aa) ac).f1))) (fun _ hk => trivial))); (case aS => exact (below_size (zb HB))); (case aL => have := aV.out; omega); intro v132 w14 ho hb hg hat; rw [← Ny131.out] at ho; have aJ := zK (blk_grown (g := ae) (o := .cells #[.int .i64 a0_0, .slice (some ao) ab.length al] 24 (0, 0)) (by (with_reducible repeat (first | refine zN ?_ _ | refine zD ?_ | refine zA ?_ _)); refine blk_far ?_ ai.out _; (with_reducible repeat (first | refine zN ?_ _ | refine zD ?_ | refine zA ?_ _)); refine blk_far ?_ ai.out _; (with_reducible repeat (first | refine zN ?_ _ | refine zD ?_ | refine zA ?_ _)); exact ad.out) hg (Kd.R_ne ak.out ad.out (by decide))); have aK := zK (blk_grown (g := ag) (o := .cells #[.int .i64 ((rd_T30 (rd_L2 ab aa) ac).f0), .int .i64 ((rd_T30 (rd_L2 ab aa) ac).f1)] 30 (0, 0)) (by (with_reducible repeat (first | refine zN ?_ _ | refine zD ?_ | refine zA ?_ _)); refine blk_put (cs := #[.int .i64 ((rd_T30 (rd_L2 ab aa) ac).f0), .int .i64 0]) ?_ 1 _ rfl; (with_reducible repeat (first | refine zN ?_ _ | refine zD ?_ | refine zA ?_ _)); refine blk_put (cs := #[.int .i64 0, .int .i64 0]) ?_ 0 _ rfl; (with_reducible repeat (first | refine zN ?_ _ | refine zD ?_ | refine zA ?_ _)); exact ah.out) hg (Kd.R_ne ak.out ah.out (by decide))); have aM := zK (hb); have aN := zK (ho); clear ad; clear ah; clear HB; clear ak; have ad := aJ; have ah := aK; have HB := aM; have aX := aN; clear aJ aK aM aN; clear ho hb hg hat))
            go_roundg k2
            case measure => have := HK1.out; have := HK2.out; omega
            case rel => exact ⟨(aW), (wrap64 (ac + 1)), (by first | rfl | (simp; done) | (simp [*]; done)), H', ⟨by have := HK1.out; have := HK2.out; omega⟩, ⟨zR aX⟩, ⟨zk ad⟩, ⟨zb HB⟩⟩
           ·rw [if_neg c10] at H
            exact absurd H (by simp)
          ·rw [if_neg c9] at H
           exact absurd H (by simp)
         ·rw [if_neg c8] at H
          exact absurd H (by simp)
        ·rw [if_neg c7] at H
         have c7b0 : decide (ac < ((rd_L2 ab aa).length : Int)) = false := decide_eq_false c7
         clear c7; have H' := zK H; clear H
         go_wp2
         go_roundg k2
         case measure => have := HK1.out; have := HK2.out; omega
         case rel => exact ⟨(aq), (wrap64 (aa + 1)), (by first | rfl | (simp; done) | (simp [*]; done)), H', ⟨by have := HK1.out; have := HK2.out; omega⟩, ⟨zR ak⟩, ⟨zk ad⟩, ⟨zb HB⟩⟩
     ·rw [if_neg c6] at H
      exact absurd H (by simp)
    ·rw [if_neg c5] at H
     exact absurd H (by simp)
   ·rw [if_neg c4] at H
    have aU : decide (aa < (ab.length : Int)) = false := decide_eq_false c4
    clear c4; obtain rfl := Option.some.inj H
    go_wp2
    go_ret
    exact ⟨_, by first | rfl | (simp [errW_none, errW_some] <;> rfl) | (simp [*, errW_none, errW_some] <;> rfl), by (with_reducible repeat (first | apply Kd.R_alloc | apply Kd.R_drewN | apply Kd.R_drew)); exact ak.out, by repeat (first | (with_reducible first | exact HB.out | apply zB | apply zC | apply zE | refine zS ?_ af.out) | exact HB.out)⟩
def impl_isTick.f (a0 : Int) : Option (Bool) := if a0 ≥ 0 then (some (decide (a0 ≤ 100000))) else (some false)
set_option maxHeartbeats 8000000 in
set_option maxRecDepth 100000 in
theorem impl_isTick.calls (a0 : Int) (r : Bool) (w : World) (h : impl_isTick.f a0 = some r) :
  Calls Try.prog 57 #[.int .i64 a0] w fun e w' => e = .returned (.bool r) ∧ Drawn0 w w' := by
 have H : (if a0 ≥ 0 then (some (decide (a0 ≤ 100000))) else (some false)) = some r := h
 clear h
 by_cases c2 : a0 ≥ 0
 ·rw [if_pos c2] at H
  have c2b0 : decide (0 ≤ a0) = true := decide_eq_true c2
  clear c2; obtain rfl := Option.some.inj H
  go_enter Try.func57, Try.ntmps57
  go_wp2
  go_ret
  exact ⟨by first | rfl | (simp; done) | (simp [*]; done), by repeat (first | exact Drawn0.refl _ | apply Drawn0.step)⟩
 ·rw [if_neg c2] at H
  have c2b0 : decide (0 ≤ a0) = false := decide_eq_false c2
  clear c2; obtain rfl := Option.some.inj H
  go_enter Try.func57, Try.ntmps57
  go_wp2
  go_ret
  exact ⟨by first | rfl | (simp; done) | (simp [*]; done), by repeat (first | exact Drawn0.refl _ | apply Drawn0.step)⟩
def impl_StoreOk_1.f (a0_0 : Int) (a0_1 : Int) : Option (Bool) := if a0_0 < 1 then (some true) else ((impl_isTick.f a0_1).bind fun t135 => (some (!t135)))
set_option maxHeartbeats 8000000 in
set_option maxRecDepth 100000 in
theorem impl_StoreOk_1.calls (a0_0 : Int) (a0_1 : Int) (r : Bool) (w : World) (h : impl_StoreOk_1.f a0_0 a0_1 = some r) :
  Calls Try.prog 56 #[.agg #[.int .i64 a0_0, .int .i64 a0_1]] w fun e w' => e = .returned (.bool r) ∧ Below w.heap.size w w' := by
 have hu30 := Try.underlying30
 have HB := zK (Below.refl w.heap.size w)
 have H : (if a0_0 < 1 then (some true) else ((impl_isTick.f a0_1).bind fun ad => (some (!ad)))) = some r := h
 clear h
 by_cases c2 : a0_0 < 1
 ·rw [if_pos c2] at H
  have c2b0 : decide (a0_0 < 1) = true := decide_eq_true c2
  clear c2; obtain rfl := Option.some.inj H
  go_enter Try.func56, Try.ntmps56
  go_wp2_with (first | ((with_reducible refine gate_dst (N := 1) rfl ?_); refine box_event ?hg (N := 1) ?hd (cs := #[.int .i64 a0_0, .int .i64 a0_1]) (t := 30) ?hr ?_; (case hd => rfl); (case hg => rfl); (case hr => first | (go_simp; done) | (go_simp; rfl)); intro aa hg w3 hbox hb; have ae := zK (below_step (zb HB) hb); have af := zK (hbox); have ag := zK ((by rw [hg]; exact (below_size (zb HB)) : w.heap.size ≤ aa)); have ah := zK ((by rw [hg]; exact (below_size (zb HB)) : w.heap.size ≤ aa)); clear HB; have HB := ae; have ab := af; have ai := ag; have ac := ah; clear ae af ag ah; clear hb hbox hg; have hcz4_0 : w3.cell? ⟨aa, 0, none⟩ = some (.int .i64 a0_0) := (blk_cell ab.out 0).trans rfl; have hcz4_1 : w3.cell? ⟨aa, 1, none⟩ = some (.int .i64 a0_1) := (blk_cell ab.out 1).trans rfl; have hfz4_0 := blk_frozen ab.out 0; have hfz4_1 := blk_frozen ab.out 1))
  go_ret
  exact ⟨by first | rfl | (simp [errW_none, errW_some] <;> rfl) | (simp [*, errW_none, errW_some] <;> rfl), by repeat (first | (with_reducible first | exact HB.out | apply zB | apply zC | apply zE | refine zS ?_ ac.out) | exact HB.out)⟩
 ·rw [if_neg c2] at H
  have c2b0 : decide (a0_0 < 1) = false := decide_eq_false c2
  clear c2; replace H := Option.bind_eq_some_iff.mp H
  obtain ⟨ad, A50, H⟩ := H
  replace H : (some (!ad)) = some r := H
  have A5 := zK A50; clear A50; obtain rfl := Option.some.inj H
  go_enter Try.func56, Try.ntmps56
  go_wp2_with (first | ((with_reducible refine gate_dst (N := 1) rfl ?_); refine box_event ?hg (N := 1) ?hd (cs := #[.int .i64 a0_0, .int .i64 a0_1]) (t := 30) ?hr ?_; (case hd => rfl); (case hg => rfl); (case hr => first | (go_simp; done) | (go_simp; rfl)); intro aa hg w6 hbox hb; have ae := zK (below_step (zb HB) hb); have af := zK (hbox); have ag := zK ((by rw [hg]; exact (below_size (zb HB)) : w.heap.size ≤ aa)); have ah := zK ((by rw [hg]; exact (below_size (zb HB)) : w.heap.size ≤ aa)); clear HB; have HB := ae; have ab := af; have ai := ag; have ac := ah; clear ae af ag ah; clear hb hbox hg; have hcz7_0 : w6.cell? ⟨aa, 0, none⟩ = some (.int .i64 a0_0) := (blk_cell ab.out 0).trans rfl; have hcz7_1 : w6.cell? ⟨aa, 1, none⟩ = some (.int .i64 a0_1) := (blk_cell ab.out 1).trans rfl; have hfz7_0 := blk_frozen ab.out 0; have hfz7_1 := blk_frozen ab.out 1) | (go_at_call 57; (with_reducible refine (impl_isTick.calls a0_1 ad _ A5.out).mono ?_); rintro e w' ⟨rfl, ⟨nd, rfl⟩⟩))
  go_ret
  exact ⟨by first | rfl | (simp [errW_none, errW_some] <;> rfl) | (simp [*, errW_none, errW_some] <;> rfl), by repeat (first | (with_reducible first | exact HB.out | apply zB | apply zC | apply zE | refine zS ?_ ac.out) | exact HB.out)⟩
def slices_Clone_int_int.f (l0 : List Int) : Option (List Int) := if l0.length * 8 ≤ 140737488355328 then (some l0) else (none)
set_option maxHeartbeats 4000000 in
set_option maxRecDepth 100000 in
theorem slices_Clone_int_int.calls (A0 : Option Addr) (c0 : Nat) (l0 : List Int) (r : List Int) (w : World) (aa : Kd.C (Kd.int .i64) w A0 l0.length l0) (hc0 : l0.length ≤ c0) (h : slices_Clone_int_int.f l0 = some r) :
  Calls Try.prog 83 #[.slice A0 l0.length c0] w fun e w' => ∃ v0_ : Value, e = .returned (v0_) ∧ Kd.R (Kd.int .i64) 3 w' w.heap.size (fun _ => True) v0_ r ∧ Below w.heap.size w w' := by
 unfold slices_Clone_int_int.f at h
 by_cases hb : l0.length * 8 ≤ 140737488355328
 ·rw [if_pos hb] at h
  obtain rfl := Option.some.inj h
  have q : ∀ (w : World) (a : Option Addr) (n c n' c' : Nat), (binOp .eql 25 (.slice a n c) (.slice none n' c')).run Try.prog w = .ok (.bool a.isNone) w := fun w a n c n' c' => Lib.run_eql_slice_nil w _ _ a n c n' c' Try.underlying25
  cases A0 with
  | none =>
   have hl : l0 = [] := by
    cases l0 with
    | nil => rfl
    | cons x t => obtain ⟨ad, e, _⟩ := aa.2.2 (by simp); cases e
   subst hl; clear aa hc0 h hb
   go_enter Try.func83, Try.ntmps83
   go_wp2
   go_ret
   exact ⟨_, rfl, Kd.R_nil _ _ _ _ _, Below.refl _ _⟩
  | some ad =>
   obtain ⟨news, hnr, hnc⟩ := ReadsRow.inner_ aa
   obtain ⟨i0, hi, hz0, hz1, hz2⟩ : ∃ i0, Try.prog.info? 3 = some i0 ∧ i0.zero = some ((.int .i64 0)) ∧ i0.size = 1 ∧ i0.bytes = 8 := by
    have hx : (Try.prog.info? 3).map (fun i => (i.zero, i.size, i.bytes)) = some (some ((.int .i64 0)), 1, 8) := by kernel_rfl
    cases hh : Try.prog.info? 3 with
    | none => rw [hh] at hx; cases hx
    | some i =>
     rw [hh] at hx
     have hx1 := Option.some.inj hx
     exact ⟨i, rfl, congrArg Prod.fst hx1, congrArg (fun y => y.2.1) hx1, congrArg (fun y => y.2.2) hx1⟩
   have hone : ∀ u ∈ news, u.oneCell' = true := by
    intro u hu
    obtain ⟨j, hj, rfl⟩ := List.getElem_of_mem hu
    have hlen := hnr.1
    have hq : j / 1 < l0.length := by
     have : j < l0.length * 1 := by rw [← show ((Kd.int .i64)).sz = 1 from rfl]; omega
     omega
    refine ((Kd.int .i64)).K_one (hnr.2 (j / 1) _ (List.getElem?_eq_getElem hq)) _ ?_
    refine List.mem_of_getElem? (i := j % 1) ?_
    rw [show ((Kd.int .i64)).sz = 1 from rfl, List.getElem?_take, if_pos (by omega), List.getElem?_drop, show j / 1 * 1 + j % 1 = j by omega, List.getElem?_eq_getElem hj]
   have hlen : news.length = l0.length * 1 := hnr.1
   have hmax : l0.length ≤ maxLen := aa.2.1
   have X := zK (show (∀ j u, news[j]? = some u → w.cell? (ad.add j) = some u) ∧ Reps (Kd.K (Kd.int .i64) w) (Kd.sz (Kd.int .i64)) l0 news from ⟨hnc, hnr⟩)
   clear hnc hnr aa h
   go_enter Try.func83, Try.ntmps83
   go_wp2_with (at_builtin; refine wpList_append_own _ rfl _ _ 25 rfl w.heap.size 3 i0 ((.int .i64 0)) 1 8 Try.underlying25 hi hz0 hz1 hz2 rfl (by decide) _ _ _ rfl (World.ownsRow_made w #[] 0 (Nat.le_refl _) (Nat.zero_le _) (by simp)) ad l0.length c0 news rfl ?qc1 ?qc2 ?qc3 ?qc4 ?qc5 ?qc6 ?_)
   case qc1 => exact hlen
   case qc2 =>
    intro j u hj
    exact Lib.cell?_alloc_some _ (X.out.1 j u hj)
   case qc3 => exact hone
   case qc4 => rw [Nat.zero_add]; exact hmax
   case qc5 => rw [Nat.zero_add]; exact hb
   case qc6 => simp
   intro v' w1 hown hgrow hnil
   go_wp2
   go_ret
   have hown2 : w1.ownsRow w.heap.size 3 1 v' l0.length news := by simpa using hown
   refine ⟨v', rfl, ⟨fun _ _ => trivial, news, hown2, X.out.2.imp_ (fun _ _ hp => hp)⟩, ?_⟩
   exact ((Below.refl _ w).alloc (Nat.le_refl _) _).grown hgrow (by simp) (by intro k hk; simp [Value.ownBlock] at hk; omega)
 ·rw [if_neg hb] at h
  cases h
def impl_areDifferent.f (l0 : List Int) : Option (Bool) := if l0.length * 8 ≤ 140737488355328 then (some (decide l0.Nodup)) else (none)
open Go.Sort in
set_option maxHeartbeats 4000000 in
set_option maxRecDepth 100000 in
theorem impl_areDifferent.calls (A0 : Option Addr) (c0 : Nat) (l0 : List Int) (r : Bool) (w : World) (hr0 : Kd.C (Kd.int .i64) w A0 l0.length l0) (hc0 : l0.length ≤ c0) (h : impl_areDifferent.f l0 = some r) :
  Calls Try.prog 58 #[.slice A0 l0.length c0] w fun e w' => e = .returned (.bool r) ∧ Below w.heap.size w w' := by
 unfold impl_areDifferent.f at h
 by_cases hb : l0.length * 8 ≤ 140737488355328
 ·rw [if_pos hb] at h
  obtain rfl := Option.some.inj h
  have hclone := slices_Clone_int_int.calls A0 c0 l0 l0 w hr0 hc0 (by unfold slices_Clone_int_int.f; rw [if_pos hb])
  clear hr0 h
  by_cases hz : l0 = []
  ·subst hz
   go_enter Try.func58, Try.ntmps58
   go_wp2_with (first
    | (
      go_at_call 83; refine hclone.mono ?_; rintro e w1 ⟨v1, rfl, hR, hbel⟩
      obtain ⟨p, cap, rfl⟩ : ∃ p cap, v1 = .slice p 0 cap := by
       obtain ⟨_, inner, ho, _⟩ := hR
       rcases ho.2 with ⟨e0, _⟩ | ⟨g, cap, _, e0, _⟩
       ·exact ⟨none, 0, e0⟩
       ·exact ⟨_, cap, e0⟩
      have hsort := Sh.Try.slices_Sort_int_none p cap w1; have hcomp := Sh.Try.slices_Compact_int_empty p cap w1; have X := zK hbel
      clear hR hbel hclone)
    | (
      go_at_call 84; refine hsort.mono ?_; rintro e w2 ⟨rfl, rfl⟩; clear hsort)
    | (
      go_at_call 85; refine hcomp.mono ?_; rintro e w3 ⟨rfl, rfl⟩; clear hcomp))
   go_ret
   exact ⟨by simp, X.out⟩
  ·have hlen0 : 0 < l0.length := by cases l0 with | nil => exact absurd rfl hz | cons => simp
   have hD := zK (diff_eq l0)
   clear hz
   go_enter Try.func58, Try.ntmps58
   go_wp2_with (first
    | (
      go_at_call 83; refine hclone.mono ?_; rintro e w1 ⟨v1, rfl, hR, hbel⟩
      obtain ⟨g, cap, rfl, hbg, hgl, hncap, hcm, hlen, hH⟩ : ∃ g cap, v1 = .slice (some ⟨g, 0, none⟩) l0.length cap ∧ w.heap.size ≤ g ∧ g < w1.heap.size ∧ l0.length ≤ cap ∧ cap ≤ maxLen ∧ l0.length = l0.length ∧ Holds (Value.int .i64) w1 g 0 l0.toArray := by
       obtain ⟨_, inner, ho, hreps⟩ := hR
       have hin : inner = l0.map (Value.int .i64) := by
        apply List.ext_getElem?
        intro j
        rw [List.getElem?_map]
        by_cases hj : j < l0.length
        ·have h2 := hreps.2 j _ (List.getElem?_eq_getElem hj)
         have h3 : (inner.drop (j * 1)).take 1 = [Value.int .i64 l0[j]] := h2
         have h4 := congrArg (fun z => z[0]?) h3
         simp only [Nat.mul_one, List.getElem?_take, List.getElem?_drop, Nat.add_zero, List.getElem?_cons_zero] at h4
         rw [List.getElem?_eq_getElem hj]
         simpa using h4
        ·have h1 : inner.length = l0.length * 1 := hreps.1
         rw [List.getElem?_eq_none (by omega), List.getElem?_eq_none (by omega)]
         rfl
       subst hin
       refine Lib.holds_of_ownsRow ho (fun e0 => ?_)
       rcases ho.2 with ⟨_, e1⟩ | ⟨g, cap, _, e1, _⟩
       ·omega
       ·rw [e0] at e1; cases e1
      have hsort := Sh.Try.slices_Sort_int g 0 cap l0 w1 hH hgl (by omega)
      have X : Aside (Below w.heap.size w w1 ∧ w.heap.size ≤ g ∧ g < w1.heap.size ∧ Holds (Value.int .i64) w1 g 0 l0.toArray) := ⟨hbel, hbg, hgl, hH⟩
      clear hbel hH hR hlen hclone)
    | (
      go_at_call 84; refine hsort.mono ?_; rintro e w2 ⟨rfl, nn, os, hw2⟩
      have hH2 : Holds (Value.int .i64) w2 g 0 (l0.mergeSort fun x y => decide (x ≤ y)).toArray := by
       subst hw2
       exact holds_grow _ _ os g 0 _ (by simpa [putRow, mapBlock, Sort.ahead] using X.out.2.2.1) (holds_putRow _ _ g 0 _ _ (holds_ahead _ w1 nn g 0 _ X.out.2.2.2) (by simp))
      have hB2 : Below w.heap.size w w2 := by
       subst hw2
       exact X.out.1.grown (grownBy_sortedI _) X.out.1.size (fun j hj => by cases hj; exact X.out.2.1)
      have hcomp := Sh.Try.slices_Compact_int g 0 cap (l0.mergeSort fun x y => decide (x ≤ y)) w2 hH2 (by rw [List.length_mergeSort]; omega) (by rw [List.length_mergeSort]; exact hncap)
      rw [List.length_mergeSort] at hcomp
      obtain ⟨mm, hmm⟩ : ∃ mm, (Lib.compact (l0.mergeSort fun x y => decide (x ≤ y))).length = mm := ⟨_, rfl⟩
      have Y : Aside (Below w.heap.size w w2 ∧ w.heap.size ≤ g ∧ (Lib.compact (l0.mergeSort fun x y => decide (x ≤ y))).length = mm) := ⟨hB2, X.out.2.1, hmm⟩
      rw [hmm] at hcomp
      clear hw2 hsort hH2 hB2 X hmm)
    | (
      go_at_call 85; refine hcomp.mono ?_; rintro e w3 ⟨rfl, qq, hw3⟩
      have hB3 : Below w.heap.size w w3 := by
       subst hw3
       exact Lib.below_putRow Y.out.1 Y.out.2.1
      have Z : Aside (Below w.heap.size w w3 ∧ (Lib.compact (l0.mergeSort fun x y => decide (x ≤ y))).length = mm) := ⟨hB3, Y.out.2.2⟩
      clear hw3 hcomp hB3 Y))
   go_ret
   refine ⟨?_, Z.out.1⟩
   have e1 := hD.out
   rw [Z.out.2] at e1
   rw [← e1]
   rfl
 ·rw [if_neg hb] at h
  cases h
set_option maxHeartbeats 2000000 in
set_option maxRecDepth 100000 in
theorem idxF80 (g : Nat) (lb : Array Value) (eg : ∀ args w, (callFunc g args).run Try.prog w = .ok (.enter g args) w) (A : Option Addr) (c : Nat) (l : List S30) (p : S30 → Bool) (w : World)
  (hr : Kd.C k30 w A l.length l)
  (hp : ∀ (W : World) (x : S30), x ∈ l → Below w.heap.size w W → Calls Try.prog g (#[.agg #[.int .i64 x.f0, .int .i64 x.f1]] ++ lb) W fun e w' => e = .returned (.bool (p x)) ∧ Below W.heap.size W w') :
  Calls Try.prog 80 #[.slice A l.length c, .func (.func g) #[] lb] w fun e w' => e = .returned (.int .i64 (Opens.idxB p l)) ∧ Below w.heap.size w w' := by
 have hbig : l.length ≤ 9223372036854775807 := hr.2.1
 have HBIG := zK hbig; have HP := zK hp; have HR := zK hr; clear hp hr
 go_enter Try.func80, Try.ntmps80
 go_wp2
 go_loopg [5, 8] l.length (fun gg _ s8 wr => ∃ kk : Nat, kk ≤ l.length ∧ l.length - kk ≤ gg ∧ s8 = .int .i64 kk ∧ Aside0 (Below w.heap.size w wr) ∧ Aside0 (∀ j (hj : j < l.length), j < kk → p l[j] = false))
 case atStart => exact ⟨0, Nat.zero_le _, by omega, rfl, ⟨Below.refl _ w⟩, ⟨fun j _ hj => absurd hj (Nat.not_lt_zero _)⟩⟩
 case round =>
  obtain ⟨kk, hkk, hg, rfl, BW, AL⟩ := hrel
  by_cases hlt : kk < l.length
  ·have hltz : (kk : Int) < (l.length : Int) := by omega
   obtain ⟨ad, rfl, hcell0, hcell1⟩ := at_T30 HR.out (kk : Int) (by omega) (by omega)
   replace hcell0 := (BW.out.cell (World.block_lt_of_cell? w _ hcell0)).trans hcell0
   replace hcell1 := (BW.out.cell (World.block_lt_of_cell? w _ hcell1)).trans hcell1
   have hrd : rd_T30 l (kk : Int) = l[kk] := by simp [rd_T30, hlt]
   rw [Int.toNat_natCast] at hcell0
   simp only [hrd] at hcell0
   rw [Int.toNat_natCast] at hcell1
   simp only [hrd] at hcell1
   have hcall := HP.out wr l[kk] (List.getElem_mem hlt) BW.out
   generalize hy : l[kk] = y at hcell0 hcell1 hcall
   have B := zK hy; clear hy hrd
   have hk0 : 0 ≤ (kk : Int) := by omega
   cases hq : p y with
   | true =>
    rw [hq] at hcall
    go_wp2_with (go_at_fn g; refine hcall.mono ?_; rintro e w' ⟨rfl, hb'⟩)
    go_ret
    refine ⟨?_, below_step BW.out hb'⟩
    rw [Opens.idxB_hit p l kk hlt (by rw [B.out]; exact hq) (fun j hj => AL.out j (by omega) hj)]
    rfl
   | false =>
    rw [hq] at hcall
    go_wp2_with (go_at_fn g; refine hcall.mono ?_; rintro e w' ⟨rfl, hb'⟩)
    go_roundg (l.length - (kk + 1))
    case measure => omega
    case rel =>
     refine ⟨kk + 1, by omega, by omega, by go_num, ⟨below_step BW.out hb'⟩, ⟨fun j hj' hj => ?_⟩⟩
     by_cases e : j = kk
     ·subst e
      rw [B.out]; exact hq
     ·exact AL.out j hj' (by omega)
  ·have hltz : ¬ (kk : Int) < (l.length : Int) := by omega
   go_wp2
   go_ret
   refine ⟨?_, BW.out⟩
   rw [Opens.idxB_miss p l (fun j hj => AL.out j hj (by omega))]
   rfl
set_option maxHeartbeats 2000000 in
set_option maxRecDepth 100000 in
theorem cntF52 (g : Nat) (lb : Array Value) (eg : ∀ args w, (callFunc g args).run Try.prog w = .ok (.enter g args) w) (A : Option Addr) (c : Nat) (l : List S30) (p : S30 → Bool) (w : World)
  (hr : Kd.C k30 w A l.length l)
  (hp : ∀ (W : World) (x : S30), x ∈ l → Below w.heap.size w W → Calls Try.prog g (#[.agg #[.int .i64 x.f0, .int .i64 x.f1]] ++ lb) W fun e w' => e = .returned (.bool (p x)) ∧ Below W.heap.size W w') :
  Calls Try.prog 52 #[.slice A l.length c, .func (.func g) #[] lb] w fun e w' => e = .returned (.bool (l.any p)) ∧ Below w.heap.size w w' := by
 rw [← Opens.idxB_any p l]
 go_enter Try.func52, Try.ntmps52
 go_wp2_with (go_at_call 80; refine (idxF80 g lb eg A c l p _ hr hp).mono ?_; rintro e w' ⟨rfl, hb'⟩)
 go_ret
 exact ⟨rfl, hb'⟩
def vc_impl_StoreOk_1_any.p (x : S30) : Bool := (impl_StoreOk_1.f x.f0 x.f1).getD false
theorem vc_impl_StoreOk_1_any.tot (x : S30) : impl_StoreOk_1.f x.f0 x.f1 = some (vc_impl_StoreOk_1_any.p x) := by
 unfold vc_impl_StoreOk_1_any.p
 cases h : impl_StoreOk_1.f x.f0 x.f1 with
 | some b => rfl
 | none => exact absurd h (by simp only [impl_StoreOk_1.f, impl_isTick.f]; (repeat' split) <;> simp_all)
def vc_impl_StoreOk_1_any.f (l0 : List S30) : Option (Bool) := some (l0.any vc_impl_StoreOk_1_any.p)
theorem vc_impl_StoreOk_1_any.calls (A0 : Option Addr) (c0 : Nat) (l0 : List S30) (r : Bool) (w : World) (hr0 : Kd.C k30 w A0 l0.length l0) (hc0 : l0.length ≤ c0) (h : vc_impl_StoreOk_1_any.f l0 = some r) :
  Calls Try.prog 52 #[.slice A0 l0.length c0, .func (.func 56) #[] #[]] w fun e w' => e = .returned (.bool r) ∧ Below w.heap.size w w' := by
 obtain rfl := Option.some.inj h
 exact cntF52 56 #[] (enters_of Try.func56 (by kernel_rfl) rfl) A0 c0 l0 _ w hr0 (fun W x _ _ => (impl_StoreOk_1.calls x.f0 x.f1 _ W (vc_impl_StoreOk_1_any.tot x)).mono fun e w' h_ => ⟨h_.1, h_.2⟩)
mutual
def impl_StoreOk.j0 : Nat → Bool → Int → List (List (S30)) → Option (Bool)
 | 0, _, _, _ => none
 | k + 1, x24, x137000, x137001 => if x24 = true then (some false) else (impl_StoreOk.l0 k x137001 (x137001.length : Int) 0 x137000 x137001)
def impl_StoreOk.l0 : Nat → List (List (S30)) → Int → Int → Int → List (List (S30)) → Option (Bool)
 | 0, _, _, _, _, _ => none
 | k + 1, x26, x27, x28, x137000, x137001 => if x28 < x27 then (if 0 ≤ x28 then (if x28 < (x26.length : Int) then (if ((rd_L2 x26 x28).length : Int) > x137000 then (some false) else ((vc_impl_StoreOk_1_any.f (rd_L2 x26 x28)).bind fun t139 => (if t139 = true then (some false) else (impl_StoreOk.l0 k x26 x27 (wrap64 (x28 + 1)) x137000 x137001)))) else (none)) else (none)) else ((impl_bagsIn.f k x137000 x137001).bind fun t140 => ((impl_areDifferent.f t140).bind fun t143 => (some t143)))
end
def impl_StoreOk.f (k : Nat) (a0_0 : Int) (l0_1 : List (List (S30))) : Option (Bool) := if a0_0 < 1 then (impl_StoreOk.j0 k true a0_0 l0_1) else (if a0_0 > 5 then (impl_StoreOk.j0 k true a0_0 l0_1) else (if (l0_1.length : Int) < 1 then (impl_StoreOk.j0 k true a0_0 l0_1) else (impl_StoreOk.j0 k (decide ((l0_1.length : Int) > 4)) a0_0 l0_1)))
set_option maxHeartbeats 8000000 in
set_option maxRecDepth 100000 in
theorem impl_StoreOk.calls (k : Nat) (a0_0 : Int) (aj : Option Addr) (ai : Nat) (ab : List (List (S30))) (r : Bool) (w : World) (aW : Kd.C (Kd.slice 30 k30) w aj ab.length ab) (hc0_1 : ab.length ≤ ai) (h : impl_StoreOk.f k a0_0 ab = some r) :
  Calls Try.prog 22 #[.agg #[.int .i64 a0_0, .slice aj ab.length ai]] w fun e w' => e = .returned (.bool r) ∧ Below w.heap.size w w' := by
 have hu24 := Try.underlying24; have ar := zK aW; have a3 := zK hc0_1; clear aW hc0_1
 have HB := zK (Below.refl w.heap.size w)
 have H : (if a0_0 < 1 then (impl_StoreOk.j0 k true a0_0 ab) else (if a0_0 > 5 then (impl_StoreOk.j0 k true a0_0 ab) else (if (ab.length : Int) < 1 then (impl_StoreOk.j0 k true a0_0 ab) else (impl_StoreOk.j0 k (decide ((ab.length : Int) > 4)) a0_0 ab)))) = some r := h
 clear h; have HC2 := zK H; clear H
 go_enter Try.func22, Try.ntmps22
 go_upto_region 1 with (first | ((with_reducible refine gate_dst (N := 1) rfl ?_); (try (refine gate_guard (by rfl) ?_; dsimp only)); refine box_event ?hg (N := 1) ?hd (cs := #[.int .i64 a0_0, .slice aj ab.length ai]) (t := 24) ?hr ?_; (case hd => rfl); (case hg => rfl); (case hr => first | (go_simp; done) | (go_simp; rfl)); intro ad hg w3 hbox hb; have au := zK (below_step (zb HB) hb); have av := zK (hbox); have aX := zK ((by rw [hg]; exact (below_size (zb HB)) : w.heap.size ≤ ad)); have n3_ := zK ((by rw [hg]; exact (below_size (zb HB)) : w.heap.size ≤ ad)); clear HB; have HB := au; have aa := av; have GW136 := aX; have af := n3_; clear au av aX n3_; clear hb hbox hg))
 (try simp only [Act.put, zp, zq, zr])
 go_cut [24] (fun v24 wc => ∃ (kq : Nat) (aw : Bool), v24 = .bool aw ∧ Aside0 (impl_StoreOk.j0 kq aw a0_0 ab = some r) ∧ Aside0 (kq ≤ k) ∧ Aside0 (wc.heap[ad]? = some (.cells #[.int .i64 a0_0, (.slice aj ab.length ai)] 24 (0, 0))) ∧ Aside0 (Below w.heap.size w wc))
 case first =>
  have H := HC2.out; clear HC2
  by_cases c4 : a0_0 < 1
  ·rw [if_pos c4] at H
   have aq : decide (a0_0 < 1) = true := decide_eq_true c4
   clear c4
   (first | rw [aq] | (simp only [i64_w, i32_w]; rw [aq]) | skip)
   have H' := zK H; clear H
   have aB : w3.cell? ⟨ad, 0, none⟩ = some (.int .i64 a0_0) := (blk_cell aa.out 0).trans rfl
   have aC : w3.cell? ⟨ad, 1, none⟩ = some (.slice aj ab.length ai) := (blk_cell aa.out 1).trans rfl
   have aD := blk_frozen aa.out 0; have aE := blk_frozen aa.out 1
   go_wp2
   go_meet
   case rel => exact ⟨_, (true), (by first | rfl | (simp; done) | (simp [*]; done)), H', ⟨by first | omega | exact Nat.le_refl _⟩, ⟨zk aa⟩, ⟨zb HB⟩⟩
  ·rw [if_neg c4] at H
   have aq : decide (a0_0 < 1) = false := decide_eq_false c4
   clear c4
   (first | rw [aq] | (simp only [i64_w, i32_w]; rw [aq]) | skip)
   by_cases c6 : a0_0 > 5
   ·rw [if_pos c6] at H
    have aY : decide (5 < a0_0) = true := decide_eq_true c6
    clear c6; have H' := zK H; clear H
    have aF : w3.cell? ⟨ad, 0, none⟩ = some (.int .i64 a0_0) := (blk_cell aa.out 0).trans rfl
    have aG : w3.cell? ⟨ad, 1, none⟩ = some (.slice aj ab.length ai) := (blk_cell aa.out 1).trans rfl
    have aH := blk_frozen aa.out 0; have aI := blk_frozen aa.out 1
    go_wp2
    go_meet
    case rel => exact ⟨_, (true), (by first | rfl | (simp; done) | (simp [*]; done)), H', ⟨by first | omega | exact Nat.le_refl _⟩, ⟨zk aa⟩, ⟨zb HB⟩⟩
   ·rw [if_neg c6] at H
    have aY : decide (5 < a0_0) = false := decide_eq_false c6
    clear c6
    by_cases c8 : (ab.length : Int) < 1
    ·rw [if_pos c8] at H
     have aZ : decide ((ab.length : Int) < 1) = true := decide_eq_true c8
     have a0 : decide (ab.length < 1) = true := decide_eq_true (by omega)
     clear c8; have H' := zK H; clear H
     have aJ : w3.cell? ⟨ad, 0, none⟩ = some (.int .i64 a0_0) := (blk_cell aa.out 0).trans rfl
     have aK : w3.cell? ⟨ad, 1, none⟩ = some (.slice aj ab.length ai) := (blk_cell aa.out 1).trans rfl
     have aL := blk_frozen aa.out 0; have aM := blk_frozen aa.out 1
     go_wp2
     go_meet
     case rel => exact ⟨_, (true), (by first | rfl | (simp; done) | (simp [*]; done)), H', ⟨by first | omega | exact Nat.le_refl _⟩, ⟨zk aa⟩, ⟨zb HB⟩⟩
    ·rw [if_neg c8] at H
     have aZ : decide ((ab.length : Int) < 1) = false := decide_eq_false c8
     have a0 : decide (ab.length < 1) = false := decide_eq_false (by omega)
     clear c8; have H' := zK H; clear H
     have ax : w3.cell? ⟨ad, 0, none⟩ = some (.int .i64 a0_0) := (blk_cell aa.out 0).trans rfl
     have ay : w3.cell? ⟨ad, 1, none⟩ = some (.slice aj ab.length ai) := (blk_cell aa.out 1).trans rfl
     have az := blk_frozen aa.out 0; have aA := blk_frozen aa.out 1
     go_wp2
     go_meet
     case rel => exact ⟨_, (decide ((ab.length : Int) > 4)), (by first | rfl | (simp; done) | (simp [*]; done)), H', ⟨by first | omega | exact Nat.le_refl _⟩, ⟨zk aa⟩, ⟨zb HB⟩⟩
 case rest =>
  clear HC2
  try clear c2
  try clear p2
  try clear c4
  try clear aq
  try clear c6
  try clear aY
  try clear c8
  try clear aZ
  try clear a0
  try clear ax
  try clear ay
  try clear aB
  try clear aC
  try clear aF
  try clear aG
  try clear aJ
  try clear aK
  try clear az
  try clear aA
  try clear aD
  try clear aE
  try clear aH
  try clear aI
  try clear aL
  try clear aM
  obtain ⟨kq, aw, rfl, HA, HJ1, aa, HB⟩ := hcut
  cases kq with
  | zero => exact absurd HA.out (by simp [impl_StoreOk.j0])
  | succ kj1 =>
   have H := HA.out; clear HA
   simp only [impl_StoreOk.j0] at H
   by_cases a4 : aw = true
   ·subst a4
    have H1 : (some false) = some r := by rw [if_pos rfl] at H; exact H
    clear H; have H := H1; clear H1; obtain rfl := Option.some.inj H
    go_wp2
    go_ret
    exact ⟨by first | rfl | (simp [errW_none, errW_some] <;> rfl) | (simp [*, errW_none, errW_some] <;> rfl), by repeat (first | (with_reducible first | exact HB.out | apply zB | apply zC | apply zE | refine zS ?_ af.out) | exact HB.out)⟩
   ·replace a4 := Bool.eq_false_iff.mpr a4
    subst a4
    have H1 : (impl_StoreOk.l0 kj1 ab (ab.length : Int) 0 a0_0 ab) = some r := by rw [if_neg (show ¬ (false = true) by decide)] at H; exact H
    clear H; have H := H1; clear H1; have H' := zK H; clear H
    have aQ : wc.cell? ⟨ad, 0, none⟩ = some (.int .i64 a0_0) := (blk_cell aa.out 0).trans rfl
    have aR : wc.cell? ⟨ad, 1, none⟩ = some (.slice aj ab.length ai) := (blk_cell aa.out 1).trans rfl
    have aS := blk_frozen aa.out 0; have aT := blk_frozen aa.out 1
    go_wp2
    go_loopg [28] kj1 (fun kq v28 w' => ∃ (ac : Int), v28 = .int .i64 ac ∧ Aside0 (impl_StoreOk.l0 kq ab (ab.length : Int) ac a0_0 ab = some r) ∧ Aside0 (kq ≤ kj1) ∧ Aside0 (w'.heap[ad]? = some (.cells #[.int .i64 a0_0, (.slice aj ab.length ai)] 24 (0, 0))) ∧ Aside0 (Below w.heap.size w w'))
    case atStart => exact ⟨(0), (by first | rfl | (simp; done) | (simp [*]; done)), H', ⟨Nat.le_refl _⟩, ⟨zk aa⟩, ⟨zb HB⟩⟩
    case round =>
     clear H'
     try clear c1
     try clear c2
     try clear p2
     try clear c4
     try clear aq
     try clear c6
     try clear aY
     try clear c8
     try clear aZ
     try clear a0
     try clear a4
     try clear ax
     try clear ay
     try clear aQ
     try clear aR
     try clear aB
     try clear aC
     try clear aF
     try clear aG
     try clear aJ
     try clear aK
     try clear az
     try clear aA
     try clear aS
     try clear aT
     try clear aD
     try clear aE
     try clear aH
     try clear aI
     try clear aL
     try clear aM
     try clear p2
     obtain ⟨ac, rfl, HA, HK2, aa, HB⟩ := hrel
     cases gk with
     | zero => exact absurd HA.out (by simp [impl_StoreOk.l0])
     | succ k2 =>
      have H := HA.out; clear HA
      simp only [impl_StoreOk.l0] at H
      by_cases a1 : ac < (ab.length : Int)
      ·rw [if_pos a1] at H
       have a5 : decide (ac < (ab.length : Int)) = true := decide_eq_true a1
       clear a1
       by_cases c14 : 0 ≤ ac
       ·rw [if_pos c14] at H
        have c14b0 : decide (0 ≤ ac) = true := decide_eq_true c14
        clear c14
        by_cases c15 : ac < (ab.length : Int)
        ·rw [if_pos c15] at H
         have c15b0 : decide (ac < (ab.length : Int)) = true := decide_eq_true c15
         clear c15
         by_cases a2 : ((rd_L2 ab ac).length : Int) > a0_0
         ·rw [if_pos a2] at H
          have a6 : decide (a0_0 < ((rd_L2 ab ac).length : Int)) = true := decide_eq_true a2
          clear a2; obtain rfl := Option.some.inj H
          have am : 0 ≤ (ac : Int) := zd
          have an : ac < (ab.length : Int) := zd
          obtain ⟨ao, aN, aO, aP, ae, ag, ah⟩ := at_L2 ar.out ac am an
          cases aP
          replace ae := (HB.out.cell (World.block_lt_of_cell? w _ ae)).trans ae
          have ak := zK ah; have al := zK ag; clear ah ag; replace am := eq_true am; replace an := eq_true an
          have hcz17_0 : wr.cell? ⟨ad, 0, none⟩ = some (.int .i64 a0_0) := (blk_cell aa.out 0).trans rfl
          have hcz17_1 : wr.cell? ⟨ad, 1, none⟩ = some (.slice (some ao) ab.length ai) := (blk_cell aa.out 1).trans rfl
          have hfz17_0 := blk_frozen aa.out 0; have hfz17_1 := blk_frozen aa.out 1
          go_wp2
          go_ret
          exact ⟨by first | rfl | (simp [errW_none, errW_some] <;> rfl) | (simp [*, errW_none, errW_some] <;> rfl), by repeat (first | (with_reducible first | exact HB.out | apply zB | apply zC | apply zE | refine zS ?_ af.out) | exact HB.out)⟩
         ·rw [if_neg a2] at H
          have a6 : decide (a0_0 < ((rd_L2 ab ac).length : Int)) = false := decide_eq_false a2
          clear a2; replace H := Option.bind_eq_some_iff.mp H
          obtain ⟨a7, a8, H⟩ := H
          replace H : (if a7 = true then (some false) else (impl_StoreOk.l0 k2 ab (ab.length : Int) (wrap64 (ac + 1)) a0_0 ab)) = some r := H
          have A18 := zK a8; clear a8
          by_cases c19 : a7 = true
          ·subst c19
           have H1 : (some false) = some r := by rw [if_pos rfl] at H; exact H
           clear H; have H := H1; clear H1; obtain rfl := Option.some.inj H
           have am : 0 ≤ (ac : Int) := zd
           have an : ac < (ab.length : Int) := zd
           obtain ⟨ao, aN, aO, aP, ae, ag, ah⟩ := at_L2 ar.out ac am an
           cases aP
           replace ae := (HB.out.cell (World.block_lt_of_cell? w _ ae)).trans ae
           have ak := zK ah; have al := zK ag; clear ah ag; replace am := eq_true am; replace an := eq_true an
           have hcz20_0 : wr.cell? ⟨ad, 0, none⟩ = some (.int .i64 a0_0) := (blk_cell aa.out 0).trans rfl
           have hcz20_1 : wr.cell? ⟨ad, 1, none⟩ = some (.slice (some ao) ab.length ai) := (blk_cell aa.out 1).trans rfl
           have hfz20_0 := blk_frozen aa.out 0; have hfz20_1 := blk_frozen aa.out 1
           go_wp2_with (first | (go_at_call 52; (with_reducible refine (vc_impl_StoreOk_1_any.calls _ _ (rd_L2 ab ac) true _ ?side1 ?side2 A18.out).mono ?_); (case side1 => repeat (first | exact (Kd.C_below ak.out HB.out) | (with_reducible refine Kd.C_alloc ?_ _) | (with_reducible refine Kd.C_drewN ?_ _) | (with_reducible refine Kd.C_drew ?_))); (case side2 => exact al.out); rintro e w21 ⟨rfl, hb⟩; have au := zK (blk_below (g := ad) (o := .cells #[.int .i64 a0_0, .slice (some ao) ab.length ai] 24 (0, 0)) (zk aa) hb); have av := zK (below_step (zb HB) hb); clear aa; clear HB; have aa := au; have HB := av; clear au av; (try clear hb)))
           go_ret
           exact ⟨by first | rfl | (simp [errW_none, errW_some] <;> rfl) | (simp [*, errW_none, errW_some] <;> rfl), by repeat (first | (with_reducible first | exact HB.out | apply zB | apply zC | apply zE | refine zS ?_ af.out) | exact HB.out)⟩
          ·replace c19 := Bool.eq_false_iff.mpr c19
           subst c19
           have H1 : (impl_StoreOk.l0 k2 ab (ab.length : Int) (wrap64 (ac + 1)) a0_0 ab) = some r := by rw [if_neg (show ¬ (false = true) by decide)] at H; exact H
           clear H; have H := H1; clear H1; have H' := zK H; clear H
           have am : 0 ≤ (ac : Int) := zd
           have an : ac < (ab.length : Int) := zd
           obtain ⟨ao, aN, aO, aP, ae, ag, ah⟩ := at_L2 ar.out ac am an
           cases aP
           replace ae := (HB.out.cell (World.block_lt_of_cell? w _ ae)).trans ae
           have ak := zK ah; have al := zK ag; clear ah ag; replace am := eq_true am; replace an := eq_true an
           have hcz22_0 : wr.cell? ⟨ad, 0, none⟩ = some (.int .i64 a0_0) := (blk_cell aa.out 0).trans rfl
           have hcz22_1 : wr.cell? ⟨ad, 1, none⟩ = some (.slice (some ao) ab.length ai) := (blk_cell aa.out 1).trans rfl
           have hfz22_0 := blk_frozen aa.out 0; have hfz22_1 := blk_frozen aa.out 1
           go_wp2_with (first | (go_at_call 52; (with_reducible refine (vc_impl_StoreOk_1_any.calls _ _ (rd_L2 ab ac) false _ ?side1 ?side2 A18.out).mono ?_); (case side1 => repeat (first | exact (Kd.C_below ak.out HB.out) | (with_reducible refine Kd.C_alloc ?_ _) | (with_reducible refine Kd.C_drewN ?_ _) | (with_reducible refine Kd.C_drew ?_))); (case side2 => exact al.out); rintro e w23 ⟨rfl, hb⟩; have au := zK (blk_below (g := ad) (o := .cells #[.int .i64 a0_0, .slice (some ao) ab.length ai] 24 (0, 0)) (zk aa) hb); have av := zK (below_step (zb HB) hb); clear aa; clear HB; have aa := au; have HB := av; clear au av; (try clear hb)))
           go_roundg k2
           case measure => have := HJ1.out; have := HK2.out; omega
           case rel => exact ⟨(wrap64 (ac + 1)), (by first | rfl | (simp; done) | (simp [*]; done)), H', ⟨by have := HJ1.out; have := HK2.out; omega⟩, ⟨zk aa⟩, ⟨zb HB⟩⟩
        ·rw [if_neg c15] at H
         exact absurd H (by simp)
       ·rw [if_neg c14] at H
        exact absurd H (by simp)
      ·rw [if_neg a1] at H
       have a5 : decide (ac < (ab.length : Int)) = false := decide_eq_false a1
       clear a1; replace H := Option.bind_eq_some_iff.mp H
       obtain ⟨aU, a9, H⟩ := H
       replace H : ((impl_areDifferent.f aU).bind fun aV => (some aV)) = some r := H
       have A24 := zK a9; clear a9; replace H := Option.bind_eq_some_iff.mp H
       obtain ⟨aV, ba, H⟩ := H
       replace H : (some aV) = some r := H
       have A25 := zK ba; clear ba; obtain rfl := Option.some.inj H
       have hcz26_0 : wr.cell? ⟨ad, 0, none⟩ = some (.int .i64 a0_0) := (blk_cell aa.out 0).trans rfl
       have hcz26_1 : wr.cell? ⟨ad, 1, none⟩ = some (.slice aj ab.length ai) := (blk_cell aa.out 1).trans rfl
       have hfz26_0 := blk_frozen aa.out 0; have hfz26_1 := blk_frozen aa.out 1
       go_wp2_with (first | ((with_reducible refine gate_callee (f := 50) rfl ?_); refine goesL_ (some 43) rfl rfl Try.func50 (by kernel_rfl) rfl #[.agg #[.int .i64 a0_0, .slice aj ab.length ai]] rfl (by (try simp only [List.map_toArray, List.map_cons, List.map_nil]); first | done | rfl | (simp only [List.length_drop, List.length_take]; rfl)) ?_; (with_reducible refine (impl_bagsIn.calls k2 a0_0 _ _ ab aU _ ?side1 ?side2 A24.out).mono ?_); (case side1 => repeat (first | exact (Kd.C_below ar.out HB.out) | (with_reducible refine Kd.C_alloc ?_ _) | (with_reducible refine Kd.C_drewN ?_ _) | (with_reducible refine Kd.C_drew ?_))); (case side2 => exact a3.out); rintro e w27 ⟨v141, rfl, ho0, hb⟩; refine ⟨_, rfl, ?_⟩; have au := zK (Kd.R_lower ho0 (below_size (zb HB))); have av := zK (blk_below (g := ad) (o := .cells #[.int .i64 a0_0, .slice aj ab.length ai] 24 (0, 0)) (zk aa) hb); have aX := zK (below_step (zb HB) hb); clear aa; clear HB; have ap := au; have aa := av; have HB := aX; clear au av aX; (try clear hb); (try clear ho0); obtain ⟨Ao28, co28, eo28⟩ := Kd.R_slice ap.out; subst eo28) | ((with_reducible refine gate_callee (f := 58) rfl ?_); refine goesL_ (some 44) rfl rfl Try.func58 (by kernel_rfl) rfl #[.slice Ao28 aU.length co28] rfl (by (try simp only [List.map_toArray, List.map_cons, List.map_nil]); first | done | rfl | (simp only [List.length_drop, List.length_take]; rfl)) ?_; (with_reducible refine (impl_areDifferent.calls _ _ aU aV _ ?side1 ?side2 A25.out).mono ?_); (case side1 => repeat (first | exact (Kd.R_reads' ap.out).2.2 | (with_reducible refine Kd.C_alloc ?_ _) | (with_reducible refine Kd.C_drewN ?_ _) | (with_reducible refine Kd.C_drew ?_))); (case side2 => exact (Kd.R_reads' ap.out).2.1); rintro e w29 ⟨rfl, hb⟩; refine ⟨_, rfl, ?_⟩; have au := zK (Kd.R_below (zR ap) hb); have av := zK (blk_below (g := ad) (o := .cells #[.int .i64 a0_0, .slice aj ab.length ai] 24 (0, 0)) (zk aa) hb); have aX := zK (below_step (zb HB) hb); clear ap; clear aa; clear HB; have ap := au; have aa := av; have HB := aX; clear au av aX; (try clear hb)))
       go_ret
       exact ⟨by first | rfl | (simp [errW_none, errW_some] <;> rfl) | (simp [*, errW_none, errW_some] <;> rfl), by repeat (first | (with_reducible first | exact HB.out | apply zB | apply zC | apply zE | refine zS ?_ af.out) | exact HB.out)⟩
end Go.Proofs.Ytheckjlldkkceaa.Px
