import Derived.Test.YtmjhbdmicejppaaZiPx0
import Derived.Test.YtmjhbdmicejppaaZiPx1
namespace Go.Proofs.Ytmjhbdmicejppaa.Px
open Go.RowKit Go.Proofs.YtmjhbdmicejppaaW.PrintWords Go.Proofs.YtmjhbdmicejppaaW.PrintLast Go.Proofs.YtmjhbdmicejppaaW.PrintMore
attribute [local go_sem] max2_int min2_int max_two min_two max_three min_three max_four min_four   
set_option linter.unusedVariables false
set_option linter.unusedSimpArgs false
def slices_Index_int_int.l0 : Nat → List Int → Int → Int → Int → Option (Int)
 | 0, _, _, _, _ => none
 | k + 1, x0, x1, x7, x8 => if x8 < x7 then (if 0 ≤ x8 then (if x8 < (x0.length : Int) then (if x1 = (rd x0 x8) then (some x8) else (slices_Index_int_int.l0 k x0 x1 x7 (wrap64 (x8 + 1)))) else (none)) else (none)) else (some (-1))
def slices_Index_int_int.f (k : Nat) (l0 : List Int) (a1 : Int) : Option (Int) := slices_Index_int_int.l0 k l0 a1 (l0.length : Int) 0
set_option maxHeartbeats 8000000 in
set_option maxRecDepth 100000 in
theorem slices_Index_int_int.calls (k : Nat) (A0 : Option Addr) (c0 : Nat) (l0 : List Int) (a1 : Int) (r : Int) (w : World) (hr0 : Kd.C (Kd.int .i64) w A0 l0.length l0) (hc0 : l0.length ≤ c0) (h : slices_Index_int_int.f k l0 a1 = some r) :
  Calls Try.prog 90 #[.slice A0 l0.length c0, .int .i64 a1] w fun e w' => e = .returned (.int .i64 r) ∧ Drawn0 w w' := by
 have HR0 := zK hr0; have HC0 := zK hc0; clear hr0 hc0
 have H : (slices_Index_int_int.l0 k l0 a1 (l0.length : Int) 0) = some r := h
 clear h; have H' := zK H; clear H
 go_enter Try.func90, Try.ntmps90
 go_wp2
 go_loopg [8] k (fun kq v8 w' => ∃ (aa : Int), v8 = .int .i64 aa ∧ Aside0 (slices_Index_int_int.l0 kq l0 a1 (l0.length : Int) aa = some r) ∧ Aside0 (kq ≤ k) ∧ Drawn0 w w')
 case atStart => exact ⟨(0), (by first | rfl | (simp; done) | (simp [*]; done)), H', ⟨Nat.le_refl _⟩, by repeat (first | exact Drawn0.refl _ | apply Drawn0.step)⟩
 case round =>
  clear H'
  try clear p2
  obtain ⟨aa, rfl, HA, HK1, ⟨m1, rfl⟩⟩ := hrel
  cases gk with
  | zero => exact absurd HA.out (by simp [slices_Index_int_int.l0])
  | succ k1 =>
   have H := HA.out; clear HA
   simp only [slices_Index_int_int.l0] at H
   by_cases c3 : aa < (l0.length : Int)
   ·rw [if_pos c3] at H
    have c3b0 : decide (aa < (l0.length : Int)) = true := decide_eq_true c3
    clear c3
    by_cases c4 : 0 ≤ aa
    ·rw [if_pos c4] at H
     have c4b0 : decide (0 ≤ aa) = true := decide_eq_true c4
     clear c4
     by_cases c5 : aa < (l0.length : Int)
     ·rw [if_pos c5] at H
      have c5b0 : decide (aa < (l0.length : Int)) = true := decide_eq_true c5
      clear c5
      by_cases c6 : a1 = (rd l0 aa)
      ·rw [if_pos c6] at H
       have c6b0 : (a1 == (rd l0 aa)) = true := beq_iff_eq.mpr c6
       have c6b1 : (a1 != (rd l0 aa)) = false := bne_eq_false_iff_eq.mpr c6
       clear c6; obtain rfl := Option.some.inj H
       have ab : 0 ≤ (aa : Int) := zd
       have ac : aa < (l0.length : Int) := zd
       obtain ⟨af, ae, ad⟩ := Kd.at_int HR0.out aa ab ac
       cases ae
       replace ab := eq_true ab; replace ac := eq_true ac
       go_wp2
       go_ret
       exact ⟨by first | rfl | (simp; done) | (simp [*]; done), by repeat (first | exact Drawn0.refl _ | apply Drawn0.step)⟩
      ·rw [if_neg c6] at H
       have c6b0 : (a1 == (rd l0 aa)) = false := beq_eq_false_iff_ne.mpr c6
       have c6b1 : (a1 != (rd l0 aa)) = true := bne_iff_ne.mpr c6
       have H' := zK H; clear H
       have ab : 0 ≤ (aa : Int) := zd
       have ac : aa < (l0.length : Int) := zd
       obtain ⟨af, ae, ad⟩ := Kd.at_int HR0.out aa ab ac
       cases ae
       replace ab := eq_true ab; replace ac := eq_true ac
       go_wp2
       go_roundg k1
       case measure => have := HK1.out; omega
       case rel => exact ⟨(wrap64 (aa + 1)), (by first | rfl | (simp; done) | (simp [*]; done)), H', ⟨by have := HK1.out; omega⟩, by repeat (first | exact Drawn0.refl _ | apply Drawn0.step)⟩
     ·rw [if_neg c5] at H
      exact absurd H (by simp)
    ·rw [if_neg c4] at H
     exact absurd H (by simp)
   ·rw [if_neg c3] at H
    have c3b0 : decide (aa < (l0.length : Int)) = false := decide_eq_false c3
    clear c3; obtain rfl := Option.some.inj H
    go_wp2
    go_ret
    exact ⟨by first | rfl | (simp; done) | (simp [*]; done), by repeat (first | exact Drawn0.refl _ | apply Drawn0.step)⟩
def slices_Contains_int_int.f (k : Nat) (l0 : List Int) (a1 : Int) : Option (Bool) := (slices_Index_int_int.f k l0 a1).bind fun t226 => (some (decide (t226 ≥ 0)))
set_option maxHeartbeats 8000000 in
set_option maxRecDepth 100000 in
theorem slices_Contains_int_int.calls (k : Nat) (A0 : Option Addr) (c0 : Nat) (l0 : List Int) (a1 : Int) (r : Bool) (w : World) (hr0 : Kd.C (Kd.int .i64) w A0 l0.length l0) (hc0 : l0.length ≤ c0) (h : slices_Contains_int_int.f k l0 a1 = some r) :
  Calls Try.prog 52 #[.slice A0 l0.length c0, .int .i64 a1] w fun e w' => e = .returned (.bool r) ∧ Drawn0 w w' := by
 have HR0 := zK hr0; have HC0 := zK hc0; clear hr0 hc0
 have H : ((slices_Index_int_int.f k l0 a1).bind fun aa => (some (decide (aa ≥ 0)))) = some r := h
 clear h; replace H := Option.bind_eq_some_iff.mp H
 obtain ⟨aa, A30, H⟩ := H
 replace H : (some (decide (aa ≥ 0))) = some r := H
 have A3 := zK A30; clear A30; obtain rfl := Option.some.inj H
 go_enter Try.func52, Try.ntmps52
 go_wp2_with (first | ((with_reducible refine gate_callee (f := 90) rfl ?_); refine goesL_ (some 7) rfl rfl Try.func90 (by kernel_rfl) rfl #[.slice A0 l0.length c0, .int .i64 a1] rfl (by (try simp only [List.map_toArray, List.map_cons, List.map_nil]); first | done | rfl | (simp only [List.length_drop, List.length_take]; rfl)) ?_; (with_reducible refine (slices_Index_int_int.calls k _ _ l0 a1 aa _ ?side1 ?side2 A3.out).mono ?_); (case side1 => repeat (first | exact HR0.out | (with_reducible refine Kd.C_alloc ?_ _) | (with_reducible refine Kd.C_drewN ?_ _) | (with_reducible refine Kd.C_drew ?_))); (case side2 => exact HC0.out); rintro e w' ⟨rfl, ⟨nd, rfl⟩⟩; refine ⟨_, rfl, ?_⟩))
 go_ret
 exact ⟨by first | rfl | (simp; done) | (simp [*]; done), by repeat (first | exact Drawn0.refl _ | apply Drawn0.step)⟩
theorem size0 {w W : World} (h : Below 0 w W) : w.heap.size ≤ W.heap.size := h.size
theorem below_set0 {w W : World} {p : Addr} {v : Value} (h : Below 0 w W) : Below 0 w (W.setCell p v) := h.setCell (Nat.zero_le _) _
theorem below_step0 {w W w2 : World} (h : Below 0 w W) (k : Below W.heap.size W w2) : Below 0 w w2 := below_then h (Nat.zero_le _) k
theorem below_via {n N : Nat} {w W w2 : World} (h : Below n w W) (hN : n ≤ N) (k : Below N W w2) : Below n w w2 := h.trans ⟨k.os, k.tape, k.output, k.size, fun i hi => k.block i (Nat.lt_of_lt_of_le hi hN)⟩
def LoopMem (base : Nat) (w : World) (PW : Nat → Prop) (v0 : Value) (tr : List Int) (v2 : Value) (ch : List S69) (v3 : Value) (wa : List S74) : Prop :=
 Kd.R (Kd.int .i64) 3 w base (fun k => ¬ PW k) v0 tr ∧ Kd.S k69 69 w base (fun k => some k ≠ v0.ownBlock ∧ ¬ PW k) v2 ch ∧ Kd.S k74 74 w base PW v3 wa ∧ ∀ k, PW k → k < w.heap.size
section
variable {base N : Nat} {w w1 : World} {PW : Nat → Prop} {v0 v2 v3 : Value} {tr : List Int} {ch : List S69} {wa : List S74}
theorem LoopMem.mk (h0 : Kd.R (Kd.int .i64) 3 w base (fun _ => True) v0 tr) (h2 : Kd.S k69 69 w base (fun k => some k ≠ v0.ownBlock ∧ k < N) v2 ch) (h3 : Kd.S k74 74 w N (fun k => some k ≠ v0.ownBlock) v3 wa) (hb : base ≤ N) : ∃ PW, LoopMem base w PW v0 tr v2 ch v3 wa :=
 ⟨fun k => N ≤ k ∧ k < w.heap.size ∧ some k ≠ v0.ownBlock, Kd.R_reok rfl h0 (fun k hk h => h.2.2 hk.symm), Kd.S_mono h2 (fun k hk => ⟨hk.1, fun h => Nat.not_le.2 hk.2 h.1⟩), Kd.S_lower (Kd.S_mono (Kd.S_bound h3) (fun k hk => ⟨hk.2.1, hk.2.2.1, hk.1⟩)) hb, fun k hk => hk.2.1⟩
theorem LoopMem.below (h : LoopMem base w PW v0 tr v2 ch v3 wa) (hb : Below w.heap.size w w1) : LoopMem base w1 PW v0 tr v2 ch v3 wa :=
 ⟨Kd.R_below h.1 hb, Kd.S_below h.2.1 hb, Kd.S_below h.2.2.1 hb, fun k hk => Nat.lt_of_lt_of_le (h.2.2.2 k hk) hb.size⟩
theorem LoopMem.box (h : LoopMem base w PW v0 tr v2 ch v3 wa) {g : Nat} {cells : Array Value} (hg : w.heap[g]? = some (.cells cells 28 (0, 0))) (j : Nat) (u : Value) : LoopMem base (w.setCell ⟨g, j, none⟩ u) PW v0 tr v2 ch v3 wa :=
 ⟨Kd.R_set h.1 hg (by decide) j u, Kd.S_set h.2.1 hg (by decide) j u, Kd.S_set h.2.2.1 hg (by decide) j u, fun k hk => Nat.lt_of_lt_of_le (h.2.2.2 k hk) ((Below.refl 0 w).setCell (p := ⟨g, j, none⟩) (Nat.zero_le _) u).size⟩
theorem LoopMem.reads (h : LoopMem base w PW v0 tr v2 ch v3 wa) : ∃ A0 c0 A2 c2 A3 c3, v0 = .slice A0 tr.length c0 ∧ v2 = .slice A2 ch.length c2 ∧ v3 = .slice A3 wa.length c3 ∧ tr.length ≤ c0 ∧ ch.length ≤ c2 ∧ wa.length ≤ c3 ∧ Kd.C (Kd.int .i64) w A0 tr.length tr ∧ Kd.C k69 w A2 ch.length ch ∧ Kd.C k74 w A3 wa.length wa := by
 obtain ⟨h0, h2, h3, _⟩ := h
 obtain ⟨A0, c0, e0, l0, r0⟩ := Kd.R_reads h0
 obtain ⟨A2, c2, e2, l2, r2⟩ := Kd.S_reads h2
 obtain ⟨A3, c3, e3, l3, r3⟩ := Kd.S_reads h3
 exact ⟨A0, c0, A2, c2, A3, c3, e0, e2, e3, l0, l2, l3, r0, r2, r3⟩
theorem LoopMem.put {gC c2 c5 : Nat} {A5 : Option Addr} {oki : Nat → Prop} {w5 : World} {v6 : Value} {bs : List Int} (h : LoopMem base w PW v0 tr (.slice (some ⟨gC, 0, none⟩) ch.length c2) ch v3 wa) (i : Int) (h0 : 0 ≤ i) (h1 : i < ch.length)
  (hok : ∀ k, oki k → (some k ≠ v0.ownBlock ∧ ¬ PW k) ∧ k ≠ gC) (hgC : some gC ≠ v0.ownBlock ∧ ¬ PW gC) (hR5 : Kd.R (Kd.int .i64) 3 w base oki (.slice A5 (rd_T69 ch i).f2.length c5) (rd_T69 ch i).f2)
  (hH : Kd.H k69 69 w base (fun k => some k ≠ v0.ownBlock ∧ ¬ PW k) (.slice (some ⟨gC, 0, none⟩) ch.length c2) ch i oki [.int .i64 (rd_T69 ch i).f0, .int .i64 (rd_T69 ch i).f1, .slice A5 (rd_T69 ch i).f2.length c5])
  (hg : w.grownBy w5 (Value.slice A5 (rd_T69 ch i).f2.length c5).ownBlock) (hR6 : Kd.R (Kd.int .i64) 3 w5 base oki v6 bs) :
  w5.cell? ⟨gC, i.toNat * 3 + 2, none⟩ = some (.slice A5 (rd_T69 ch i).f2.length c5) ∧ w5.frozen? ⟨gC, i.toNat * 3 + 2, none⟩ = false ∧
   LoopMem base (w5.setCell ⟨gC, i.toNat * 3 + 2, none⟩ v6) PW v0 tr (.slice (some ⟨gC, 0, none⟩) ch.length c2) (ch.set i.toNat ⟨(rd_T69 ch i).f0, (rd_T69 ch i).f1, bs⟩) v3 wa := by
 obtain ⟨hR, hS, hW, hP⟩ := h
 have hrow : ∀ k, (Value.slice A5 (rd_T69 ch i).f2.length c5).ownBlock = some k → oki k := hR5.1
 have hH5 := Kd.H_grown hH hg hrow
 obtain ⟨hcell, hfr⟩ := Kd.H_at hH5 h0 h1
 have hsz : w5.heap.size ≤ (w5.setCell ⟨gC, i.toNat * 3 + 2, none⟩ v6).heap.size := ((Below.refl 0 w5).setCell (p := ⟨gC, i.toNat * 3 + 2, none⟩) (Nat.zero_le _) v6).size
 obtain ⟨A6, c6, e6⟩ := Kd.R_slice hR6
 subst e6
 obtain ⟨hS6, _⟩ := Kd.S_seg0 (seg := [.slice A6 bs.length c6]) (j := 2) (x' := (⟨(rd_T69 ch i).f0, (rd_T69 ch i).f1, bs⟩ : S69)) hH5 h0 h1 (Nat.le_refl 3) (k69_mkM w5 base oki ⟨(rd_T69 ch i).f0, (rd_T69 ch i).f1, bs⟩ hR6) (fun _ hk => hk)
 refine ⟨hcell 2 _ rfl, hfr 2, ?_, ?_, ?_, fun k hk => Nat.lt_of_lt_of_le (hP k hk) (Nat.le_trans hg.size hsz)⟩
 ·refine Kd.R_reok rfl (Kd.R_far (p := ⟨gC, i.toNat * 3 + 2, none⟩) (Kd.R_grown (Kd.R_tight rfl hR) hg (fun k hk e => ?_)) (fun k hk e => ?_) _) hR.1
  ·exact (hok k (hrow k e.symm)).1.1 hk
  ·exact hgC.1 (by rw [← hk, e])
 ·exact hS6
 ·exact Kd.S_far (p := ⟨gC, i.toNat * 3 + 2, none⟩) (Kd.S_grown hW hg (fun k hk e => (hok k (hrow k e.symm)).1.2 hk)) (fun k hk e => hgC.2 (by rw [show k = gC from e] at hk; exact hk)) _
theorem LoopMem.tray {A0 : Option Addr} {c0 : Nat} (h : LoopMem base w PW (.slice A0 tr.length c0) tr v2 ch v3 wa) (i : Int) (h0 : 0 ≤ i) (h1 : i < tr.length) (x : Int) :
  ∃ gT, A0 = some ⟨gT, 0, none⟩ ∧ base ≤ gT ∧ (∃ cells, w.heap[gT]? = some (.cells cells 3 (0, 0))) ∧ w.cell? ⟨gT, i.toNat, none⟩ = some (.int .i64 (rd tr i)) ∧ w.frozen? ⟨gT, i.toNat, none⟩ = false ∧
   LoopMem base (w.setCell ⟨gT, i.toNat, none⟩ (.int .i64 x)) PW (.slice A0 tr.length c0) (tr.set i.toNat x) v2 ch v3 wa := by
 obtain ⟨hR, hS, hW, hP⟩ := h
 obtain ⟨gT, cap, e, hbase, hlt, cells, hc⟩ := Kd.R_form hR (by omega)
 injection e with e1 e2 e3
 subst e1; subst e3
 obtain ⟨hc1, hf1⟩ := Kd.R_celln 0 hR i h0 h1
 have hgT : (Value.slice (some ⟨gT, 0, none⟩) tr.length c0).ownBlock = some gT := by simp [Value.ownBlock]
 refine ⟨gT, rfl, hbase, ⟨cells, hc⟩, hc1, hf1, Kd.R_putn hR i x, Kd.S_far (p := ⟨gT, i.toNat, none⟩) hS (fun k hk e => hk.1 (by rw [e]; exact hgT.symm)) _, Kd.S_far (p := ⟨gT, i.toNat, none⟩) hW (fun k hk e => hR.1 gT hgT (by rw [show k = gT from e] at hk; exact hk)) _, fun k hk => Nat.lt_of_lt_of_le (hP k hk) ((Below.refl 0 w).setCell (p := ⟨gT, i.toNat, none⟩) (Nat.zero_le _) _).size⟩
end
mutual
def impl_copyLoop.l0 : Nat → List (S69) → Int → Int → List Int → Int → List (S69) → List (S74) → List Int → Int → List (S69) → Option (List Int × Int × (List (S69)) × (List (S74)))
 | 0, _, _, _, _, _, _, _, _, _, _ => none
 | k + 1, x15, x16, x17, x228000, x228001, x228002, x228003, x233000, x233001, x233002 => if x17 < x16 then (if 0 ≤ x17 then (if x17 < (x15.length : Int) then ((slices_Clone_int_int.f ((rd_T69 x15 x17).f2)).bind fun t235 => (if x233002.length < 3518437208883 then (impl_copyLoop.l0 k x15 x16 (wrap64 (x17 + 1)) x228000 x228001 x228002 x228003 x233000 x233001 (x233002 ++ [(⟨(rd_T69 x15 x17).f0, (rd_T69 x15 x17).f1, t235⟩ : S69)])) else (none))) else (none)) else (none)) else (impl_copyLoop.l1 k x228003 (x228003.length : Int) 0 x233000 x233001 x233002 ([] : List (S74)))
def impl_copyLoop.l1 : Nat → List (S74) → Int → Int → List Int → Int → List (S69) → List (S74) → Option (List Int × Int × (List (S69)) × (List (S74)))
 | 0, _, _, _, _, _, _, _ => none
 | k + 1, x33, x34, x35, x233000, x233001, x233002, x233003 => if x35 < x34 then (if 0 ≤ x35 then (if x35 < (x33.length : Int) then ((slices_Clone_int_int.f ((rd_T74 x33 x35).f1)).bind fun t243 => (if x233003.length < 4398046511104 then (impl_copyLoop.l1 k x33 x34 (wrap64 (x35 + 1)) x233000 x233001 x233002 (x233003 ++ [(⟨(rd_T74 x33 x35).f0, t243⟩ : S74)])) else (none))) else (none)) else (none)) else (some (x233000, x233001, x233002, x233003))
end
def impl_copyLoop.f (k : Nat) (l0_0 : List Int) (a0_1 : Int) (l0_2 : List (S69)) (l0_3 : List (S74)) : Option (List Int × Int × (List (S69)) × (List (S74))) := (slices_Clone_int_int.f l0_0).bind fun t229 => (impl_copyLoop.l0 k l0_2 (l0_2.length : Int) 0 l0_0 a0_1 l0_2 l0_3 t229 a0_1 ([] : List (S69)))
def impl_copyLoop.T1 : Bool × List (List Nat × List Nat) := (true, [([], []), ([0], [0]), ([1], [1]), ([], []), ([3], [3]), ([2, 4], [2, 4]), ([], []), ([6, 5, 2, 0, 1, 2, 3, 4, 5, 6], [5, 6])])
def impl_copyLoop.B1 : List Nat := [0, 1, 3, 0, 8, 31, 0, 127]
theorem impl_copyLoop.tab1 : rtab .any (opsOf Try.f53 1) = impl_copyLoop.T1 := by kernel_rfl
theorem impl_copyLoop.bits1 : waitsOk impl_copyLoop.T1.2 impl_copyLoop.B1 = true := by kernel_rfl
set_option maxHeartbeats 8000000 in
set_option maxRecDepth 100000 in
theorem impl_copyLoop.calls2 (k : Nat) (aI : Option Addr) (aJ : Nat) (aA : List Int) (a0_1 : Int) (aN : Option Addr) (aK : Nat) (ah : List (S69)) (aQ : Option Addr) (aM : Nat) (al : List (S74)) (r1 : List Int) (r2 : Int) (r3 : List (S69)) (r4 : List (S74)) (w : World) (cV : Kd.C (Kd.int .i64) w aI aA.length aA) (hc0_0 : aA.length ≤ aJ) (cW : Kd.C k69 w aN ah.length ah) (hc0_2 : ah.length ≤ aK) (cX : Kd.C k74 w aQ al.length al) (hc0_3 : al.length ≤ aM) (h : impl_copyLoop.f k aA a0_1 ah al = some (r1, r2, r3, r4)) :
  Calls Try.prog 53 #[.agg #[.slice aI aA.length aJ, .int .i64 a0_1, .slice aN ah.length aK, .slice aQ al.length aM]] w fun e w' => ∃ (v0_ v2_ v3_ : Value) (N_ : Nat), e = .returned (.agg #[v0_, .int .i64 r2, v2_, v3_]) ∧ Kd.R (Kd.int .i64) 3 w' w.heap.size (fun _ => True) v0_ r1 ∧ Kd.S k69 69 w' w.heap.size (fun k_ => some k_ ≠ (v0_ : Value).ownBlock ∧ k_ < N_) v2_ r3 ∧ Kd.S k74 74 w' N_ (fun k_ => some k_ ≠ (v0_ : Value).ownBlock) v3_ r4 ∧ w.heap.size ≤ N_ ∧ Below w.heap.size w w' := by
 have hu28 := Try.underlying28; have hu69 := Try.underlying69; have hu74 := Try.underlying74; have cY := zK cV; have cZ := zK hc0_0; clear cV hc0_0; have dj := zK cW; have HC0_2 := zK hc0_2; clear cW hc0_2; have dk := zK cX; have HC0_3 := zK hc0_3; clear cX hc0_3
 have HB := zK (Below.refl w.heap.size w)
 have H : ((slices_Clone_int_int.f aA).bind fun an => (impl_copyLoop.l0 k ah (ah.length : Int) 0 aA a0_1 ah al an a0_1 ([] : List (S69)))) = some (r1, r2, r3, r4) := h
 clear h; replace H := Option.bind_eq_some_iff.mp H
 obtain ⟨an, A20, H⟩ := H
 replace H : (impl_copyLoop.l0 k ah (ah.length : Int) 0 aA a0_1 ah al an a0_1 ([] : List (S69))) = some (r1, r2, r3, r4) := H
 have A2 := zK A20; clear A20; have H' := zK H; clear H
 go_enter Try.func53, Try.ntmps53
 try go_wp2_with (first | ((with_reducible refine gate_dst (N := 1) rfl ?_); refine box_event ?hg (N := 1) ?hd (cs := #[.slice aI aA.length aJ, .int .i64 a0_1, .slice aN ah.length aK, .slice aQ al.length aM]) (t := 28) ?hr ?_; (case hd => rfl); (case hg => rfl); (case hr => first | (go_simp; done) | (go_simp; rfl)); intro ai hg w3 hbox hb; have aR := zK (below_step (zb HB) hb); have aT := zK (hbox); have aU := zK ((by rw [hg]; exact (below_size (zb HB)) : w.heap.size ≤ ai)); have aV := zK ((by rw [hg]; exact (below_size (zb HB)) : w.heap.size ≤ ai)); clear HB; have HB := aR; have aa := aT; have GW227 := aU; have av := aV; clear aR aT aU aV; clear hb hbox hg) | ((with_reducible refine gate_dst (N := 2) rfl ?_); refine box_event ?hg (N := 2) ?hd (cs := #[.slice none 0 0, .int .i64 0, .slice none 0 0, .slice none 0 0]) (t := 28) ?hr ?_; (case hd => rfl); (case hg => rfl); (case hr => first | (go_simp; done) | (go_simp; rfl)); intro aj hg w4 hbox hb; have aR := zK (blk_below (g := ai) (o := .cells #[.slice aI aA.length aJ, .int .i64 a0_1, .slice aN ah.length aK, .slice aQ al.length aM] 28 (0, 0)) (zk aa) hb); have aT := zK (below_step (zb HB) hb); have aU := zK (hbox); have aV := zK ((by rw [hg]; exact (below_size (zb HB)) : w.heap.size ≤ aj)); have a1 := zK ((by rw [hg]; exact (below_size (zb HB)) : w.heap.size ≤ aj)); have a2 := zK ((by rw [hg]; exact Nat.ne_of_lt (blk_lt (g := ai) (o := .cells #[.slice aI aA.length aJ, .int .i64 a0_1, .slice aN ah.length aK, .slice aQ al.length aM] 28 (0, 0)) (zk aa)) : ai ≠ aj)); have a3 := zK ((by rw [hg]; exact Nat.ne_of_gt (blk_lt (g := ai) (o := .cells #[.slice aI aA.length aJ, .int .i64 a0_1, .slice aN ah.length aK, .slice aQ al.length aM] 28 (0, 0)) (zk aa)) : aj ≠ ai)); clear aa; clear HB; have aa := aR; have HB := aT; have ag := aU; have GW228 := aV; have az := a1; have bf := a2; have bg := a3; clear aR aT aU aV a1 a2 a3; clear hb hbox hg))
 have aR := zK (zD aa.out)
 have aT := zK (zD ag.out)
 have aU := zK (zE HB.out)
 clear aa ag HB; have aa := aR; have ag := aT; have HB := aU; clear aR aT aU
 refine start_ (n := 8) (S := fun w' => w'.cell? ⟨ai, 0, none⟩ = some (.slice aI aA.length aJ) ∧ w'.cell? ⟨ai, 1, none⟩ = some (.int .i64 a0_1) ∧ w'.cell? ⟨ai, 2, none⟩ = some (.slice aN ah.length aK) ∧ w'.cell? ⟨ai, 3, none⟩ = some (.slice aQ al.length aM)) (ds := []) #[ff, ff, ff, ff, ff, ff, ff, ff] (by kernel_rfl) rfl rfl ⟨(blk_cell aa.out 0).trans rfl, (blk_cell aa.out 1).trans rfl, (blk_cell aa.out 2).trans rfl, (blk_cell aa.out 3).trans rfl⟩ (fun hHeld => ?_); refine with_tabW impl_copyLoop.tab1 impl_copyLoop.bits1 (fun HT_ HW_ => ?_)
 generalize w4.drew = w5 at aa ag HB hHeld ⊢
 refine zu 0 (some 8) #[tt, ff, ff, ff, ff, ff, ff, ff] (any_of HT_.out (by kernel_rfl)) ?_
 refine zu 3 (some 11) #[tt, ff, ff, tt, ff, ff, ff, ff] (any_of HT_.out (by kernel_rfl)) ?_
 refine zt 1 (some 9) #[tt, tt, ff, tt, ff, ff, ff, ff] (take_ofW HT_.out HW_.out (by kernel_rfl)) hHeld ?_
 refine zt 4 (some 12) #[tt, tt, ff, tt, tt, ff, ff, ff] (take_ofW HT_.out HW_.out (by kernel_rfl)) hHeld ?_
 refine join_ (σ := Value × Nat) 1 #[tt, tt, tt, tt, tt, tt, tt, ff] (fun s_ => [(10, s_.1), (3, .pointer (some ⟨s_.2, 0, none⟩)), (13, .agg #[s_.1, .int .i64 a0_1, .slice none 0 0, .slice none 0 0])]) (fun s_ w' => (w'.cell? ⟨ai, 0, none⟩ = some (.slice aI aA.length aJ) ∧ w'.cell? ⟨ai, 1, none⟩ = some (.int .i64 a0_1) ∧ w'.cell? ⟨ai, 2, none⟩ = some (.slice aN ah.length aK) ∧ w'.cell? ⟨ai, 3, none⟩ = some (.slice aQ al.length aM)) ∧ (Kd.R (Kd.int .i64) 3 w' w.heap.size (fun _ => True) s_.1 an) ∧ (w'.heap[ai]? = some (.cells #[.slice aI aA.length aJ, .int .i64 a0_1, .slice aN ah.length aK, .slice aQ al.length aM] 28 (0, 0))) ∧ (w'.heap[aj]? = some (.cells #[.slice none 0 0, .int .i64 0, .slice none 0 0, .slice none 0 0] 28 (0, 0))) ∧ (w'.heap[s_.2]? = some (.cells #[.slice none 0 0, .int .i64 0, .slice none 0 0, .slice none 0 0] 28 (0, 0))) ∧ (w.heap.size ≤ s_.2) ∧ (w.heap.size ≤ s_.2) ∧ (ai ≠ s_.2) ∧ (s_.2 ≠ ai) ∧ (aj ≠ s_.2) ∧ (s_.2 ≠ aj) ∧ (Below w.heap.size w w')) ?_ ?_
 rotate_left
 ·intro hCont
  refine two_ (i := 2) (j := 6) (Ni := some 10) (Nj := some 3) #[tt, tt, tt, tt, tt, ff, ff, ff] #[tt, tt, ff, tt, tt, ff, tt, ff] rfl rfl rfl rfl (two_of HT_.out (by kernel_rfl)) (by decide) (by decide) (fun K hK => ?_) (fun K hK => ?_)
  ·skip
   refine goes_ Try.func58 (by kernel_rfl) rfl #[.slice aI aA.length aJ] (by rfl) rfl rfl (by (try simp only [List.map_toArray, List.map_cons, List.map_nil]); first | done | rfl | (simp only [List.length_drop, List.length_take]; rfl)) ?_
   with_reducible refine (slices_Clone_int_int.calls _ _ aA an _ ?side1 ?side2 A2.out).mono ?_
   (case side1 => repeat (first | exact (Kd.C_below cY.out HB.out) | (with_reducible refine Kd.C_alloc ?_ _) | (with_reducible refine Kd.C_drewN ?_ _) | (with_reducible refine Kd.C_drew ?_)))
   (case side2 => exact cZ.out)
   rintro e w6 ⟨dc, rfl, ho0, hb⟩
   refine ⟨_, rfl, ?_⟩
   have aR := zK (Kd.R_lower ho0 (below_size (zb HB)))
   have aT := zK (blk_below (g := ai) (o := .cells #[.slice aI aA.length aJ, .int .i64 a0_1, .slice aN ah.length aK, .slice aQ al.length aM] 28 (0, 0)) (zk aa) hb)
   have aU := zK (blk_below (g := aj) (o := .cells #[.slice none 0 0, .int .i64 0, .slice none 0 0, .slice none 0 0] 28 (0, 0)) (zk ag) hb)
   have aV := zK (below_step (zb HB) hb)
   clear aa ag HB; have a4 := aR; have aa := aT; have ag := aU; have HB := aV; clear aR aT aU aV; (try clear hb); (try clear hb2); (try clear hk); (try clear hi); (try clear ho0)
   obtain ⟨Ao7, co7, eo7⟩ := Kd.R_slice a4.out
   (first | subst eo7 | (injection eo7 with f1_ f2_ f3_; have f4_ := f1_.symm; have f5_ := f3_.symm; clear f1_ f2_ f3_; subst f4_; subst f5_))
   refine hK.out _ _ ⟨(blk_cell aa.out 0).trans rfl, (blk_cell aa.out 1).trans rfl, (blk_cell aa.out 2).trans rfl, (blk_cell aa.out 3).trans rfl⟩ (fun hHeld => ?_)
   clear hK K
   refine norm_ (a' := ?_) ?_ ?_
   rotate_left
   ·show Act.put _ (some 10) _ = _
    simp only [Act.put, zp, zq, zr, i64_w, i32_w]
    rfl
   refine zu 5 (some 13) #[tt, tt, tt, tt, tt, tt, ff, ff] (any_of HT_.out (by kernel_rfl)) ?_
   refine one_ (i := 6) (N := some 3) #[tt, tt, tt, tt, tt, tt, tt, ff] rfl rfl (one_of HT_.out (by kernel_rfl)) (by decide) (fun K hK => ?_)
   refine box_step ?hg (N := 3) ?hd (cs := #[.slice none 0 0, .int .i64 0, .slice none 0 0, .slice none 0 0]) (t := 28) ?hr ?_; (case hd => rfl); (case hg => rfl); (case hr => first | (go_simp; done) | (go_simp; rfl))
   intro ac hg w8 hbox hb
   have aR := zK (Kd.R_below (zR a4) hb)
   have aT := zK (blk_below (g := ai) (o := .cells #[.slice aI aA.length aJ, .int .i64 a0_1, .slice aN ah.length aK, .slice aQ al.length aM] 28 (0, 0)) (zk aa) hb)
   have aU := zK (blk_below (g := aj) (o := .cells #[.slice none 0 0, .int .i64 0, .slice none 0 0, .slice none 0 0] 28 (0, 0)) (zk ag) hb)
   have aV := zK (below_step (zb HB) hb)
   have a1 := zK (hbox)
   have a2 := zK ((by rw [hg]; exact (below_size (zb HB)) : w.heap.size ≤ ac))
   have a3 := zK ((by rw [hg]; exact (below_size (zb HB)) : w.heap.size ≤ ac))
   have be := zK ((by rw [hg]; exact Nat.ne_of_lt (blk_lt (g := ai) (o := .cells #[.slice aI aA.length aJ, .int .i64 a0_1, .slice aN ah.length aK, .slice aQ al.length aM] 28 (0, 0)) (zk aa)) : ai ≠ ac))
   have bq := zK ((by rw [hg]; exact Nat.ne_of_gt (blk_lt (g := ai) (o := .cells #[.slice aI aA.length aJ, .int .i64 a0_1, .slice aN ah.length aK, .slice aQ al.length aM] 28 (0, 0)) (zk aa)) : ac ≠ ai))
   have bC := zK ((by rw [hg]; exact Nat.ne_of_lt (blk_lt (g := aj) (o := .cells #[.slice none 0 0, .int .i64 0, .slice none 0 0, .slice none 0 0] 28 (0, 0)) (zk ag)) : aj ≠ ac))
   have bm := zK ((by rw [hg]; exact Nat.ne_of_gt (blk_lt (g := aj) (o := .cells #[.slice none 0 0, .int .i64 0, .slice none 0 0, .slice none 0 0] 28 (0, 0)) (zk ag)) : ac ≠ aj))
   clear a4 aa ag HB; have a4 := aR; have aa := aT; have ag := aU; have HB := aV; have ab := a1; have bD := a2; have aG := a3; have ae := be; have aC := bq; have aq := bC; have aH := bm; clear aR aT aU aV a1 a2 a3 be bq bC bm hb hbox hg
   refine hK.out _ _ ⟨(blk_cell aa.out 0).trans rfl, (blk_cell aa.out 1).trans rfl, (blk_cell aa.out 2).trans rfl, (blk_cell aa.out 3).trans rfl⟩ (fun hHeld => ?_)
   clear hK K
   refine norm_ (a' := ?_) ?_ ?_
   rotate_left
   ·show Act.put _ (some 3) _ = _
    simp only [Act.put, zp, zq, zr, i64_w, i32_w]
    rfl
   exact norm_ (by simp only [putAll, Act.put, List.setIfInBounds_toArray, List.set_cons_zero, List.set_cons_succ]) (hCont (.slice Ao7 an.length co7, ac) _ ⟨hHeld, (zR a4), (zk aa), (zk ag), (zk ab), bD.out, aG.out, ae.out, aC.out, aq.out, aH.out, (zb HB)⟩)
  ·skip
   refine box_step ?hg (N := 3) ?hd (cs := #[.slice none 0 0, .int .i64 0, .slice none 0 0, .slice none 0 0]) (t := 28) ?hr ?_; (case hd => rfl); (case hg => rfl); (case hr => first | (go_simp; done) | (go_simp; rfl))
   intro ac hg w6 hbox hb
   have aR := zK (blk_below (g := ai) (o := .cells #[.slice aI aA.length aJ, .int .i64 a0_1, .slice aN ah.length aK, .slice aQ al.length aM] 28 (0, 0)) (zk aa) hb)
   have aT := zK (blk_below (g := aj) (o := .cells #[.slice none 0 0, .int .i64 0, .slice none 0 0, .slice none 0 0] 28 (0, 0)) (zk ag) hb)
   have aU := zK (below_step (zb HB) hb)
   have aV := zK (hbox)
   have a1 := zK ((by rw [hg]; exact (below_size (zb HB)) : w.heap.size ≤ ac))
   have a2 := zK ((by rw [hg]; exact (below_size (zb HB)) : w.heap.size ≤ ac))
   have a3 := zK ((by rw [hg]; exact Nat.ne_of_lt (blk_lt (g := ai) (o := .cells #[.slice aI aA.length aJ, .int .i64 a0_1, .slice aN ah.length aK, .slice aQ al.length aM] 28 (0, 0)) (zk aa)) : ai ≠ ac))
   have be := zK ((by rw [hg]; exact Nat.ne_of_gt (blk_lt (g := ai) (o := .cells #[.slice aI aA.length aJ, .int .i64 a0_1, .slice aN ah.length aK, .slice aQ al.length aM] 28 (0, 0)) (zk aa)) : ac ≠ ai))
   have bq := zK ((by rw [hg]; exact Nat.ne_of_lt (blk_lt (g := aj) (o := .cells #[.slice none 0 0, .int .i64 0, .slice none 0 0, .slice none 0 0] 28 (0, 0)) (zk ag)) : aj ≠ ac))
   have bC := zK ((by rw [hg]; exact Nat.ne_of_gt (blk_lt (g := aj) (o := .cells #[.slice none 0 0, .int .i64 0, .slice none 0 0, .slice none 0 0] 28 (0, 0)) (zk ag)) : ac ≠ aj))
   clear aa ag HB; have aa := aR; have ag := aT; have HB := aU; have ab := aV; have bD := a1; have aG := a2; have ae := a3; have aC := be; have aq := bq; have aH := bC; clear aR aT aU aV a1 a2 a3 be bq bC hb hbox hg
   refine hK.out _ _ ⟨(blk_cell aa.out 0).trans rfl, (blk_cell aa.out 1).trans rfl, (blk_cell aa.out 2).trans rfl, (blk_cell aa.out 3).trans rfl⟩ (fun hHeld => ?_)
   clear hK K
   refine norm_ (a' := ?_) ?_ ?_
   rotate_left
   ·show Act.put _ (some 3) _ = _
    simp only [Act.put, zp, zq, zr, i64_w, i32_w]
    rfl
   refine one_ (i := 2) (N := some 10) #[tt, tt, tt, tt, tt, ff, tt, ff] rfl rfl (one_of HT_.out (by kernel_rfl)) (by decide) (fun K hK => ?_)
   refine goes_ Try.func58 (by kernel_rfl) rfl #[.slice aI aA.length aJ] (by rfl) rfl rfl (by (try simp only [List.map_toArray, List.map_cons, List.map_nil]); first | done | rfl | (simp only [List.length_drop, List.length_take]; rfl)) ?_
   with_reducible refine (slices_Clone_int_int.calls _ _ aA an _ ?side1 ?side2 A2.out).mono ?_
   (case side1 => repeat (first | exact (Kd.C_below cY.out HB.out) | (with_reducible refine Kd.C_alloc ?_ _) | (with_reducible refine Kd.C_drewN ?_ _) | (with_reducible refine Kd.C_drew ?_)))
   (case side2 => exact cZ.out)
   rintro e w7 ⟨dc, rfl, ho0, hb⟩
   refine ⟨_, rfl, ?_⟩
   have aR := zK (Kd.R_lower ho0 (below_size (zb HB)))
   have aT := zK (blk_below (g := ai) (o := .cells #[.slice aI aA.length aJ, .int .i64 a0_1, .slice aN ah.length aK, .slice aQ al.length aM] 28 (0, 0)) (zk aa) hb)
   have aU := zK (blk_below (g := aj) (o := .cells #[.slice none 0 0, .int .i64 0, .slice none 0 0, .slice none 0 0] 28 (0, 0)) (zk ag) hb)
   have aV := zK (blk_below (g := ac) (o := .cells #[.slice none 0 0, .int .i64 0, .slice none 0 0, .slice none 0 0] 28 (0, 0)) (zk ab) hb)
   have a1 := zK (below_step (zb HB) hb)
   clear aa ag ab HB; have a4 := aR; have aa := aT; have ag := aU; have ab := aV; have HB := a1; clear aR aT aU aV a1; (try clear hb); (try clear hb2); (try clear hk); (try clear hi); (try clear ho0)
   obtain ⟨Ao8, co8, eo8⟩ := Kd.R_slice a4.out
   (first | subst eo8 | (injection eo8 with f1_ f2_ f3_; have f4_ := f1_.symm; have f5_ := f3_.symm; clear f1_ f2_ f3_; subst f4_; subst f5_))
   refine hK.out _ _ ⟨(blk_cell aa.out 0).trans rfl, (blk_cell aa.out 1).trans rfl, (blk_cell aa.out 2).trans rfl, (blk_cell aa.out 3).trans rfl⟩ (fun hHeld => ?_)
   clear hK K
   refine norm_ (a' := ?_) ?_ ?_
   rotate_left
   ·show Act.put _ (some 10) _ = _
    simp only [Act.put, zp, zq, zr, i64_w, i32_w]
    rfl
   refine zu 5 (some 13) #[tt, tt, tt, tt, tt, tt, tt, ff] (any_of HT_.out (by kernel_rfl)) ?_
   exact norm_ (by simp only [putAll, Act.put, List.setIfInBounds_toArray, List.set_cons_zero, List.set_cons_succ]) (hCont (.slice Ao8 an.length co8, ac) _ ⟨hHeld, (zR a4), (zk aa), (zk ag), (zk ab), bD.out, aG.out, ae.out, aC.out, aq.out, aH.out, (zb HB)⟩)
 rintro ⟨dc, ac⟩ w9 ⟨hS_, h0_, h1_, h2_, h3_, h4_, h5_, h6_, h7_, h8_, h9_, h10_⟩
 have aR : Aside0 (Kd.R (Kd.int .i64) 3 w9 w.heap.size (fun _ => True) dc an) := ⟨h0_⟩
 have aT : Aside0 (w9.heap[ai]? = some (.cells #[.slice aI aA.length aJ, .int .i64 a0_1, .slice aN ah.length aK, .slice aQ al.length aM] 28 (0, 0))) := ⟨h1_⟩
 have aU : Aside0 (w9.heap[aj]? = some (.cells #[.slice none 0 0, .int .i64 0, .slice none 0 0, .slice none 0 0] 28 (0, 0))) := ⟨h2_⟩
 have aV : Aside0 (w9.heap[ac]? = some (.cells #[.slice none 0 0, .int .i64 0, .slice none 0 0, .slice none 0 0] 28 (0, 0))) := ⟨h3_⟩
 have a1 : Aside0 (w.heap.size ≤ ac) := ⟨h4_⟩
 have a2 : Aside0 (w.heap.size ≤ ac) := ⟨h5_⟩
 have a3 : Aside0 (ai ≠ ac) := ⟨h6_⟩
 have be : Aside0 (ac ≠ ai) := ⟨h7_⟩
 have bq : Aside0 (aj ≠ ac) := ⟨h8_⟩
 have bC : Aside0 (ac ≠ aj) := ⟨h9_⟩
 have bm : Aside0 (Below w.heap.size w w9) := ⟨h10_⟩
 clear aa ag HB h0_ h1_ h2_ h3_ h4_ h5_ h6_ h7_ h8_ h9_ h10_; have a4 := aR; have aa := aT; have ag := aU; have ab := aV; have bD := a1; have aG := a2; have ae := a3; have aC := be; have aq := bq; have aH := bC; have HB := bm; clear aR aT aU aV a1 a2 a3 be bq bC bm
 have hHeld : w9.cell? ⟨ai, 0, none⟩ = some (.slice aI aA.length aJ) ∧ w9.cell? ⟨ai, 1, none⟩ = some (.int .i64 a0_1) ∧ w9.cell? ⟨ai, 2, none⟩ = some (.slice aN ah.length aK) ∧ w9.cell? ⟨ai, 3, none⟩ = some (.slice aQ al.length aM) := hS_
 obtain ⟨ax, ay, dl⟩ := Kd.R_slice a4.out
 (first | subst dl | (injection dl with f1_ f2_ f3_; have f4_ := f1_.symm; have f5_ := f3_.symm; clear f1_ f2_ f3_; subst f4_; subst f5_))
 refine norm_ (a' := ?_) ?_ ?_
 rotate_left
 ·simp only [putAll, Act.put, List.setIfInBounds_toArray, List.set_cons_zero, List.set_cons_succ]
  rfl
 refine one_ (i := 7) (N := none) #[tt, tt, tt, tt, tt, tt, tt, tt] rfl rfl (one_of HT_.out (by kernel_rfl)) (by decide) (fun K hK => ?_)
 have hs11 : w9.cell? ⟨ac, 0, none⟩ = some (.slice none 0 0) := (blk_cell ab.out 0).trans rfl
 have hfs11 := blk_frozen ab.out 0; have hns11_0 := ae.out; have hns11_1 := aq.out; have hms11_0 := aC.out; have hms11_1 := aH.out
 have hs12 : w9.cell? ⟨ac, 1, none⟩ = some (.int .i64 0) := (blk_cell ab.out 1).trans rfl
 have hfs12 := blk_frozen ab.out 1; have hns12_0 := ae.out; have hns12_1 := aq.out; have hms12_0 := aC.out; have hms12_1 := aH.out
 have hs13 : w9.cell? ⟨ac, 2, none⟩ = some (.slice none 0 0) := (blk_cell ab.out 2).trans rfl
 have hfs13 := blk_frozen ab.out 2; have hns13_0 := ae.out; have hns13_1 := aq.out; have hms13_0 := aC.out; have hms13_1 := aH.out
 have hs14 : w9.cell? ⟨ac, 3, none⟩ = some (.slice none 0 0) := (blk_cell ab.out 3).trans rfl
 have hfs14 := blk_frozen ab.out 3; have hns14_0 := ae.out; have hns14_1 := aq.out; have hms14_0 := aC.out; have hms14_1 := aH.out
 refine skip_ (w1 := ?_) (by rfl) rfl ?_ ?_
 rotate_left
 ·go_simp
  rfl
 refine hK.out _ _ ⟨((cell_far (p := ⟨ac, _, none⟩) ae.out _).trans (((cell_far (p := ⟨ac, _, none⟩) ae.out _).trans (((cell_far (p := ⟨ac, _, none⟩) ae.out _).trans (((cell_far (p := ⟨ac, _, none⟩) ae.out _).trans (hHeld.1)))))))), ((cell_far (p := ⟨ac, _, none⟩) ae.out _).trans (((cell_far (p := ⟨ac, _, none⟩) ae.out _).trans (((cell_far (p := ⟨ac, _, none⟩) ae.out _).trans (((cell_far (p := ⟨ac, _, none⟩) ae.out _).trans (hHeld.2.1)))))))), ((cell_far (p := ⟨ac, _, none⟩) ae.out _).trans (((cell_far (p := ⟨ac, _, none⟩) ae.out _).trans (((cell_far (p := ⟨ac, _, none⟩) ae.out _).trans (((cell_far (p := ⟨ac, _, none⟩) ae.out _).trans (hHeld.2.2.1)))))))), ((cell_far (p := ⟨ac, _, none⟩) ae.out _).trans (((cell_far (p := ⟨ac, _, none⟩) ae.out _).trans (((cell_far (p := ⟨ac, _, none⟩) ae.out _).trans (((cell_far (p := ⟨ac, _, none⟩) ae.out _).trans (hHeld.2.2.2))))))))⟩ (fun hHeld => ?_)
 clear hK K
 refine done_ (done_of HT_.out (by kernel_rfl)) ?_
 have hnb15 := bf.out; have hnc15 := bg.out; have hnb16 := ae.out; have hnc16 := aC.out
 have bE : w9.cell? ⟨ai, 0, none⟩ = some (.slice aI aA.length aJ) := (blk_cell aa.out 0).trans rfl
 have bF : w9.cell? ⟨ai, 1, none⟩ = some (.int .i64 a0_1) := (blk_cell aa.out 1).trans rfl
 have bG : w9.cell? ⟨ai, 2, none⟩ = some (.slice aN ah.length aK) := (blk_cell aa.out 2).trans rfl
 have bH : w9.cell? ⟨ai, 3, none⟩ = some (.slice aQ al.length aM) := (blk_cell aa.out 3).trans rfl
 have bI := blk_frozen aa.out 0; have bJ := blk_frozen aa.out 1; have bK := blk_frozen aa.out 2; have bL := blk_frozen aa.out 3
 try go_wp2
 go_loopg [17] k (fun kq v17 w' => ∃ (ak : Int) (ao : List (S69)) (u233002 : Value), v17 = .int .i64 ak ∧ Aside0 (impl_copyLoop.l0 kq ah (ah.length : Int) ak aA a0_1 ah al an a0_1 ao = some (r1, r2, r3, r4)) ∧ Aside0 (kq ≤ k) ∧ Aside0 (Kd.R (Kd.int .i64) 3 w' w.heap.size (fun _ => True) (.slice ax an.length ay) an) ∧ Aside0 (Kd.S k69 69 w' w.heap.size (fun k_ => some k_ ≠ ((.slice ax an.length ay) : Value).ownBlock) u233002 ao) ∧ Aside0 (w'.heap[ai]? = some (.cells #[(.slice aI aA.length aJ), .int .i64 a0_1, (.slice aN ah.length aK), (.slice aQ al.length aM)] 28 (0, 0))) ∧ Aside0 (w'.heap[aj]? = some (.cells #[(.slice none 0 0), .int .i64 0, (.slice none 0 0), (.slice none 0 0)] 28 (0, 0))) ∧ Aside0 (w'.heap[ac]? = some (.cells #[(.slice ax an.length ay), .int .i64 a0_1, u233002, (.slice none 0 0)] 28 (0, 0))) ∧ Aside0 (Below w.heap.size w w'))
 case atStart => exact ⟨(0), (([] : List (S69))), (.slice none 0 0), (by first | rfl | (simp; done) | (simp [*]; done)), H', ⟨Nat.le_refl _⟩, ⟨by (with_reducible repeat (first | apply Kd.R_alloc | apply Kd.R_drewN | apply Kd.R_drew)); exact Kd.R_mono (Kd.R_far (p := ⟨ac, 3, none⟩) (Kd.R_far (p := ⟨ac, 2, none⟩) (Kd.R_far (p := ⟨ac, 1, none⟩) (Kd.R_far (p := ⟨ac, 0, none⟩) (Kd.R_types a4.out ab.out (by decide)) (fun _ hk => hk.2) (.slice ax an.length ay)) (fun _ hk => hk.2) (.int .i64 a0_1)) (fun _ hk => hk.2) (.slice none 0 0)) (fun _ hk => hk.2) (.slice none 0 0)) (fun _ hk => trivial)⟩, ⟨by first | exact Kd.S_nil _ _ _ _ _ | exact Kd.N_nil _ _ _ _ _ | exact Kd.V_nil _ _ _ _ _ | exact Kd.Q_nil _ _ _ _ _ | exact Kd.R_nil _ _ _ _ _⟩, ⟨by (with_reducible repeat (first | refine zN ?_ _ | refine zD ?_ | refine zA ?_ _)); refine blk_far ?_ ae.out _; (with_reducible repeat (first | refine zN ?_ _ | refine zD ?_ | refine zA ?_ _)); refine blk_far ?_ ae.out _; (with_reducible repeat (first | refine zN ?_ _ | refine zD ?_ | refine zA ?_ _)); refine blk_far ?_ ae.out _; (with_reducible repeat (first | refine zN ?_ _ | refine zD ?_ | refine zA ?_ _)); refine blk_far ?_ ae.out _; (with_reducible repeat (first | refine zN ?_ _ | refine zD ?_ | refine zA ?_ _)); exact aa.out⟩, ⟨by (with_reducible repeat (first | refine zN ?_ _ | refine zD ?_ | refine zA ?_ _)); refine blk_far ?_ aq.out _; (with_reducible repeat (first | refine zN ?_ _ | refine zD ?_ | refine zA ?_ _)); refine blk_far ?_ aq.out _; (with_reducible repeat (first | refine zN ?_ _ | refine zD ?_ | refine zA ?_ _)); refine blk_far ?_ aq.out _; (with_reducible repeat (first | refine zN ?_ _ | refine zD ?_ | refine zA ?_ _)); refine blk_far ?_ aq.out _; (with_reducible repeat (first | refine zN ?_ _ | refine zD ?_ | refine zA ?_ _)); exact ag.out⟩, ⟨by (with_reducible repeat (first | refine zN ?_ _ | refine zD ?_ | refine zA ?_ _)); refine blk_put (cs := #[.slice ax an.length ay, .int .i64 a0_1, .slice none 0 0, .slice none 0 0]) ?_ 3 _ rfl; (with_reducible repeat (first | refine zN ?_ _ | refine zD ?_ | refine zA ?_ _)); refine blk_put (cs := #[.slice ax an.length ay, .int .i64 a0_1, .slice none 0 0, .slice none 0 0]) ?_ 2 _ rfl; (with_reducible repeat (first | refine zN ?_ _ | refine zD ?_ | refine zA ?_ _)); refine blk_put (cs := #[.slice ax an.length ay, .int .i64 0, .slice none 0 0, .slice none 0 0]) ?_ 1 _ rfl; (with_reducible repeat (first | refine zN ?_ _ | refine zD ?_ | refine zA ?_ _)); refine blk_put (cs := #[.slice none 0 0, .int .i64 0, .slice none 0 0, .slice none 0 0]) ?_ 0 _ rfl; (with_reducible repeat (first | refine zN ?_ _ | refine zD ?_ | refine zA ?_ _)); exact ab.out⟩, ⟨zb HB⟩⟩
 case round =>
  clear H'
  try clear c1
  try clear p2
  try clear c5
  try clear c15
  try clear c16
  try clear bE
  try clear bF
  try clear bG
  try clear bH
  try clear bI
  try clear bJ
  try clear bK
  try clear bL
  obtain ⟨ak, ao, u233002, rfl, HA, HK1, af, ad, aa, ag, ab, HB⟩ := hrel
  cases gk with
  | zero => exact absurd HA.out (by simp [impl_copyLoop.l0])
  | succ k1 =>
   have H := HA.out; clear HA
   simp only [impl_copyLoop.l0] at H
   by_cases dd : ak < (ah.length : Int)
   ·rw [if_pos dd] at H
    have c0 : decide (ak < (ah.length : Int)) = true := decide_eq_true dd
    clear dd
    by_cases dm : 0 ≤ ak
    ·rw [if_pos dm] at H
     have dn : decide (0 ≤ ak) = true := decide_eq_true dm
     clear dm
     by_cases dp : ak < (ah.length : Int)
     ·rw [if_pos dp] at H
      have dq : decide (ak < (ah.length : Int)) = true := decide_eq_true dp
      clear dp; replace H := Option.bind_eq_some_iff.mp H
      obtain ⟨a0, dr, H⟩ := H
      replace H : (if ao.length < 3518437208883 then (impl_copyLoop.l0 k1 ah (ah.length : Int) (wrap64 (ak + 1)) aA a0_1 ah al an a0_1 (ao ++ [(⟨(rd_T69 ah ak).f0, (rd_T69 ah ak).f1, a0⟩ : S69)])) else (none)) = some (r1, r2, r3, r4) := H
      have A21 := zK dr; clear dr
      by_cases dt : ao.length < 3518437208883
      ·rw [if_pos dt] at H
       have du := zK dt; clear dt
       obtain ⟨bX, bw⟩ : ∃ y_ : List (S69), y_ = (ao ++ [(⟨(rd_T69 ah ak).f0, (rd_T69 ah ak).f1, a0⟩ : S69)]) := ⟨_, rfl⟩
       replace H : (impl_copyLoop.l0 k1 ah (ah.length : Int) (wrap64 (ak + 1)) aA a0_1 ah al an a0_1 bX) = some (r1, r2, r3, r4) := by first | (rw [bw]; with_reducible exact H) | (have H2_ := (Option.bind_some _ _).symm.trans H; rw [bw]; with_reducible exact H2_) | (have H2_ := (Option.bind_some _ _).symm.trans H; with_reducible exact H2_) | with_reducible exact H | (rw [bw]; exact H) | exact H
       have Ny238 := zK bw; clear bw; have H' := zK H; clear H
       have b4 : 0 ≤ (ak : Int) := zd
       have b5 : ak < (ah.length : Int) := zd
       obtain ⟨br, ba, bb, e233, bj, bk, bl, bM, bN⟩ := at_T69 dj.out ak b4 b5
       cases e233
       replace bj := (HB.out.cell (World.block_lt_of_cell? w _ bj)).trans bj
       replace bk := (HB.out.cell (World.block_lt_of_cell? w _ bk)).trans bk
       replace bl := (HB.out.cell (World.block_lt_of_cell? w _ bl)).trans bl
       have b6 := zK bN; have b7 := zK bM; clear bN bM; replace b4 := eq_true b4; replace b5 := eq_true b5
       go_wp2_with (first | ((with_reducible refine gate_dst (N := 5) rfl ?_); refine box_event ?hg (N := 5) ?hd (cs := #[.int .i64 0, .int .i64 0, .slice none 0 0]) (t := 69) ?hr ?_; (case hd => rfl); (case hg => rfl); (case hr => first | (go_simp; done) | (go_simp; rfl)); intro ar hg w23 hbox hb; have aR := zK (Kd.R_below (zR af) hb); have aT := zK (Kd.S_below (Kd.S_elderB (zT ad) ar (Nat.le_of_eq hg.symm)) hb); have aU := zK (blk_below (g := ai) (o := .cells #[.slice aI aA.length aJ, .int .i64 a0_1, .slice (some br) ah.length aK, .slice aQ al.length aM] 28 (0, 0)) (zk aa) hb); have aV := zK (blk_below (g := aj) (o := .cells #[.slice none 0 0, .int .i64 0, .slice none 0 0, .slice none 0 0] 28 (0, 0)) (zk ag) hb); have a1 := zK (blk_below (g := ac) (o := .cells #[.slice ax an.length ay, .int .i64 a0_1, u233002, .slice none 0 0] 28 (0, 0)) (zk ab) hb); have a2 := zK (below_step (zb HB) hb); have a3 := zK (hbox); have be := zK ((by rw [hg]; exact (below_size (zb HB)) : w.heap.size ≤ ar)); have bq := zK ((by rw [hg]; exact (below_size (zb HB)) : w.heap.size ≤ ar)); have bC := zK ((by rw [hg]; exact Nat.ne_of_lt (blk_lt (g := ai) (o := .cells #[.slice aI aA.length aJ, .int .i64 a0_1, .slice (some br) ah.length aK, .slice aQ al.length aM] 28 (0, 0)) (zk aa)) : ai ≠ ar)); have bm := zK ((by rw [hg]; exact Nat.ne_of_gt (blk_lt (g := ai) (o := .cells #[.slice aI aA.length aJ, .int .i64 a0_1, .slice (some br) ah.length aK, .slice aQ al.length aM] 28 (0, 0)) (zk aa)) : ar ≠ ai)); have bY := zK ((by rw [hg]; exact Nat.ne_of_lt (blk_lt (g := aj) (o := .cells #[.slice none 0 0, .int .i64 0, .slice none 0 0, .slice none 0 0] 28 (0, 0)) (zk ag)) : aj ≠ ar)); have bZ := zK ((by rw [hg]; exact Nat.ne_of_gt (blk_lt (g := aj) (o := .cells #[.slice none 0 0, .int .i64 0, .slice none 0 0, .slice none 0 0] 28 (0, 0)) (zk ag)) : ar ≠ aj)); have b0 := zK ((by rw [hg]; exact Nat.ne_of_lt (blk_lt (g := ac) (o := .cells #[.slice ax an.length ay, .int .i64 a0_1, u233002, .slice none 0 0] 28 (0, 0)) (zk ab)) : ac ≠ ar)); have b1 := zK ((by rw [hg]; exact Nat.ne_of_gt (blk_lt (g := ac) (o := .cells #[.slice ax an.length ay, .int .i64 a0_1, u233002, .slice none 0 0] 28 (0, 0)) (zk ab)) : ar ≠ ac)); clear af; clear ad; clear aa; clear ag; clear ab; clear HB; have af := aR; have ad := aT; have aa := aU; have ag := aV; have ab := a1; have HB := a2; have aw := a3; have GW234 := be; have bn := bq; have aX := bC; have bQ := bm; have aY := bY; have bR := bZ; have aZ := b0; have bS := b1; clear aR aT aU aV a1 a2 a3 be bq bC bm bY bZ b0 b1; clear hb hbox hg; have hnb24 := bQ.out; have hnc24 := aX.out; have hnb25 := bR.out; have hnc25 := aY.out; have hnb26 := bS.out; have hnc26 := aZ.out; have b8 : w23.cell? ⟨ar, 0, none⟩ = some (.int .i64 0) := (blk_cell aw.out 0).trans rfl; have b9 : w23.cell? ⟨ar, 1, none⟩ = some (.int .i64 0) := (blk_cell aw.out 1).trans rfl; have ca : w23.cell? ⟨ar, 2, none⟩ = some (.slice none 0 0) := (blk_cell aw.out 2).trans rfl; have cb := blk_frozen aw.out 0; have cc := blk_frozen aw.out 1; have cd := blk_frozen aw.out 2) | ((with_reducible refine gate_callee (f := 58) rfl ?_); refine goesL_ (some 23) rfl rfl Try.func58 (by kernel_rfl) rfl #[.slice ba ((rd_T69 ah ak).f2).length bb] rfl (by (try simp only [List.map_toArray, List.map_cons, List.map_nil]); first | done | rfl | (simp only [List.length_drop, List.length_take]; rfl)) ?_; (with_reducible refine (slices_Clone_int_int.calls _ _ ((rd_T69 ah ak).f2) a0 _ ?side1 ?side2 A21.out).mono ?_); (case side1 => exact Kd.C_below b6.out (zb HB)); (case side2 => exact b7.out); rintro e w28 ⟨v236, rfl, ho0, hb⟩; refine ⟨_, rfl, ?_⟩; have aR := zK (Kd.R_elder' (by (with_reducible repeat (first | apply Kd.R_alloc | apply Kd.R_drewN | apply Kd.R_drew)); exact (Kd.R_mono (Kd.R_far (p := ⟨ar, 2, none⟩) (Kd.R_far (p := ⟨ar, 1, none⟩) (Kd.R_far (p := ⟨ar, 0, none⟩) (Kd.R_types af.out aw.out (by decide)) (fun _ hk => hk.2) (.int .i64 ((rd_T69 ah ak).f0))) (fun _ hk => hk.2) (.int .i64 ((rd_T69 ah ak).f1))) (fun _ hk => hk.2) (.slice ba ((rd_T69 ah ak).f2).length bb)) (fun _ h_ => h_.1))) (Kd.R_base ho0) hb); have aT := zK (Kd.S_elder' (by (with_reducible repeat (first | apply Kd.S_alloc | apply Kd.S_drewN | apply Kd.S_drew)); exact (Kd.S_mono (Kd.S_far (p := ⟨ar, 2, none⟩) (Kd.S_far (p := ⟨ar, 1, none⟩) (Kd.S_far (p := ⟨ar, 0, none⟩) (Kd.S_mono ad.out (fun k_ hk => (⟨hk, hk.2⟩ : _ ∧ k_ ≠ ar))) (fun _ hk => hk.2) (.int .i64 ((rd_T69 ah ak).f0))) (fun _ hk => hk.2) (.int .i64 ((rd_T69 ah ak).f1))) (fun _ hk => hk.2) (.slice ba ((rd_T69 ah ak).f2).length bb)) (fun _ h_ => h_.1))) (Kd.R_base ho0) hb); have aU := zK (Kd.R_lower (Kd.R_new' ho0 (Kd.R_lt (by (with_reducible repeat (first | apply Kd.R_alloc | apply Kd.R_drewN | apply Kd.R_drew)); exact (Kd.R_mono (Kd.R_far (p := ⟨ar, 2, none⟩) (Kd.R_far (p := ⟨ar, 1, none⟩) (Kd.R_far (p := ⟨ar, 0, none⟩) (Kd.R_types af.out aw.out (by decide)) (fun _ hk => hk.2) (.int .i64 ((rd_T69 ah ak).f0))) (fun _ hk => hk.2) (.int .i64 ((rd_T69 ah ak).f1))) (fun _ hk => hk.2) (.slice ba ((rd_T69 ah ak).f2).length bb)) (fun _ h_ => h_.1))))) (below_size (zb HB))); have aV := zK (blk_below (g := ai) (o := .cells #[.slice aI aA.length aJ, .int .i64 a0_1, .slice (some br) ah.length aK, .slice aQ al.length aM] 28 (0, 0)) (by (with_reducible repeat (first | refine zN ?_ _ | refine zD ?_ | refine zA ?_ _)); refine blk_far ?_ aX.out _; (with_reducible repeat (first | refine zN ?_ _ | refine zD ?_ | refine zA ?_ _)); refine blk_far ?_ aX.out _; (with_reducible repeat (first | refine zN ?_ _ | refine zD ?_ | refine zA ?_ _)); refine blk_far ?_ aX.out _; (with_reducible repeat (first | refine zN ?_ _ | refine zD ?_ | refine zA ?_ _)); exact aa.out) hb); have a1 := zK (blk_below (g := aj) (o := .cells #[.slice none 0 0, .int .i64 0, .slice none 0 0, .slice none 0 0] 28 (0, 0)) (by (with_reducible repeat (first | refine zN ?_ _ | refine zD ?_ | refine zA ?_ _)); refine blk_far ?_ aY.out _; (with_reducible repeat (first | refine zN ?_ _ | refine zD ?_ | refine zA ?_ _)); refine blk_far ?_ aY.out _; (with_reducible repeat (first | refine zN ?_ _ | refine zD ?_ | refine zA ?_ _)); refine blk_far ?_ aY.out _; (with_reducible repeat (first | refine zN ?_ _ | refine zD ?_ | refine zA ?_ _)); exact ag.out) hb); have a2 := zK (blk_below (g := ac) (o := .cells #[.slice ax an.length ay, .int .i64 a0_1, u233002, .slice none 0 0] 28 (0, 0)) (by (with_reducible repeat (first | refine zN ?_ _ | refine zD ?_ | refine zA ?_ _)); refine blk_far ?_ aZ.out _; (with_reducible repeat (first | refine zN ?_ _ | refine zD ?_ | refine zA ?_ _)); refine blk_far ?_ aZ.out _; (with_reducible repeat (first | refine zN ?_ _ | refine zD ?_ | refine zA ?_ _)); refine blk_far ?_ aZ.out _; (with_reducible repeat (first | refine zN ?_ _ | refine zD ?_ | refine zA ?_ _)); exact ab.out) hb); have a3 := zK (blk_below (g := ar) (o := .cells #[.int .i64 ((rd_T69 ah ak).f0), .int .i64 ((rd_T69 ah ak).f1), .slice ba ((rd_T69 ah ak).f2).length bb] 69 (0, 0)) (by (with_reducible repeat (first | refine zN ?_ _ | refine zD ?_ | refine zA ?_ _)); refine blk_put (cs := #[.int .i64 ((rd_T69 ah ak).f0), .int .i64 ((rd_T69 ah ak).f1), .slice none 0 0]) ?_ 2 _ rfl; (with_reducible repeat (first | refine zN ?_ _ | refine zD ?_ | refine zA ?_ _)); refine blk_put (cs := #[.int .i64 ((rd_T69 ah ak).f0), .int .i64 0, .slice none 0 0]) ?_ 1 _ rfl; (with_reducible repeat (first | refine zN ?_ _ | refine zD ?_ | refine zA ?_ _)); refine blk_put (cs := #[.int .i64 0, .int .i64 0, .slice none 0 0]) ?_ 0 _ rfl; (with_reducible repeat (first | refine zN ?_ _ | refine zD ?_ | refine zA ?_ _)); exact aw.out) hb); have be := zK (below_step (zb HB) hb); clear af; clear ad; clear aa; clear ag; clear ab; clear aw; clear HB; have af := aR; have ad := aT; have bo := aU; have aa := aV; have ag := a1; have ab := a2; have aw := a3; have HB := be; clear aR aT aU aV a1 a2 a3 be; (try clear hb); (try clear hk); (try clear ho0); obtain ⟨bh, bi, eo29⟩ := Kd.R_slice bo.out; subst eo29; have ce : w28.cell? ⟨ar, 0, none⟩ = some (.int .i64 ((rd_T69 ah ak).f0)) := (blk_cell aw.out 0).trans rfl; have cf : w28.cell? ⟨ar, 1, none⟩ = some (.int .i64 ((rd_T69 ah ak).f1)) := (blk_cell aw.out 1).trans rfl; have cg : w28.cell? ⟨ar, 2, none⟩ = some (.slice ba ((rd_T69 ah ak).f2).length bb) := (blk_cell aw.out 2).trans rfl; have ch := blk_frozen aw.out 0; have ci := blk_frozen aw.out 1; have cj := blk_frozen aw.out 2) | ((with_reducible refine gate_store (t := 24) (p := 24) rfl ?_); refine store_event (t := 24) (p := 24) (v := ?vo_w31) (w1 := (w28.setCell ⟨ar, 2, none⟩ (.slice bh a0.length bi))) ?hg ?ho ?hn ?hr ?_; (case ho => rfl); (case hg => rfl); (case hn => rfl); (case hr => first | (go_simp; done) | (go_simp; rfl)); intro bB hw; have aR : Aside0 (Kd.R (Kd.int .i64) 3 bB w.heap.size (fun k_ => some k_ ≠ (.slice bh a0.length bi : Value).ownBlock) (.slice ax an.length ay) an) := ⟨(by rw [hw]; exact (by (with_reducible repeat (first | apply Kd.R_alloc | apply Kd.R_drewN | apply Kd.R_drew)); exact Kd.R_mono (Kd.R_far (p := ⟨ar, 2, none⟩) (Kd.R_types af.out aw.out (by decide)) (fun _ hk => hk.2) (.slice bh a0.length bi)) (fun _ hk => hk.1.2)))⟩; have aT : Aside0 (Kd.S k69 69 bB w.heap.size (fun k_ => some k_ ≠ (.slice ax an.length ay : Value).ownBlock ∧ some k_ ≠ (.slice bh a0.length bi : Value).ownBlock ∧ k_ ≠ ar) u233002 ao) := ⟨(by rw [hw]; exact (by (with_reducible repeat (first | apply Kd.S_alloc | apply Kd.S_drewN | apply Kd.S_drew)); exact Kd.S_mono (Kd.S_far (p := ⟨ar, 2, none⟩) (Kd.S_mono ad.out (fun k_ hk => (⟨hk, hk.1.2⟩ : _ ∧ k_ ≠ ar))) (fun _ hk => hk.2) (.slice bh a0.length bi)) (fun _ hk => ⟨hk.1.1.1, ⟨hk.1.2, hk.1.1.2⟩⟩)))⟩; have aU : Aside0 (Kd.R (Kd.int .i64) 3 bB w.heap.size (fun k_ => some k_ ≠ (.slice ax an.length ay : Value).ownBlock) (.slice bh a0.length bi) a0) := ⟨(by rw [hw]; exact (by (with_reducible repeat (first | apply Kd.R_alloc | apply Kd.R_drewN | apply Kd.R_drew)); exact Kd.R_mono (Kd.R_far (p := ⟨ar, 2, none⟩) (Kd.R_types bo.out aw.out (by decide)) (fun _ hk => hk.2) (.slice bh a0.length bi)) (fun _ hk => hk.1.2)))⟩; have aV : Aside0 (bB.heap[ai]? = some (.cells #[.slice aI aA.length aJ, .int .i64 a0_1, .slice (some br) ah.length aK, .slice aQ al.length aM] 28 (0, 0))) := ⟨(by rw [hw]; exact (by (with_reducible repeat (first | refine zN ?_ _ | refine zD ?_ | refine zA ?_ _)); refine blk_far ?_ aX.out _; (with_reducible repeat (first | refine zN ?_ _ | refine zD ?_ | refine zA ?_ _)); exact aa.out))⟩; have a1 : Aside0 (bB.heap[aj]? = some (.cells #[.slice none 0 0, .int .i64 0, .slice none 0 0, .slice none 0 0] 28 (0, 0))) := ⟨(by rw [hw]; exact (by (with_reducible repeat (first | refine zN ?_ _ | refine zD ?_ | refine zA ?_ _)); refine blk_far ?_ aY.out _; (with_reducible repeat (first | refine zN ?_ _ | refine zD ?_ | refine zA ?_ _)); exact ag.out))⟩; have a2 : Aside0 (bB.heap[ac]? = some (.cells #[.slice ax an.length ay, .int .i64 a0_1, u233002, .slice none 0 0] 28 (0, 0))) := ⟨(by rw [hw]; exact (by (with_reducible repeat (first | refine zN ?_ _ | refine zD ?_ | refine zA ?_ _)); refine blk_far ?_ aZ.out _; (with_reducible repeat (first | refine zN ?_ _ | refine zD ?_ | refine zA ?_ _)); exact ab.out))⟩; have a3 : Aside0 (bB.heap[ar]? = some (.cells #[.int .i64 ((rd_T69 ah ak).f0), .int .i64 ((rd_T69 ah ak).f1), .slice bh a0.length bi] 69 (0, 0))) := ⟨(by rw [hw]; exact (by (with_reducible repeat (first | refine zN ?_ _ | refine zD ?_ | refine zA ?_ _)); refine blk_put (cs := #[.int .i64 ((rd_T69 ah ak).f0), .int .i64 ((rd_T69 ah ak).f1), .slice ba ((rd_T69 ah ak).f2).length bb]) ?_ 2 _ rfl; (with_reducible repeat (first | refine zN ?_ _ | refine zD ?_ | refine zA ?_ _)); exact aw.out))⟩; have be : Aside0 (Below w.heap.size w bB) := ⟨(by rw [hw]; exact (zb HB))⟩; clear hw; clear af; clear ad; clear bo; clear aa; clear ag; clear ab; clear aw; clear HB; have af := aR; have ad := aT; have bo := aU; have aa := aV; have ag := a1; have ab := a2; have aw := a3; have HB := be; clear aR aT aU aV a1 a2 a3 be; have hnb32 := aC.out; have hnc32 := ae.out; have hnb33 := aH.out; have hnc33 := aq.out; have ck : bB.cell? ⟨ac, 0, none⟩ = some (.slice ax an.length ay) := (blk_cell ab.out 0).trans rfl; have cl : bB.cell? ⟨ac, 1, none⟩ = some (.int .i64 a0_1) := (blk_cell ab.out 1).trans rfl; have cm : bB.cell? ⟨ac, 2, none⟩ = some (u233002) := (blk_cell ab.out 2).trans rfl; have cn : bB.cell? ⟨ac, 3, none⟩ = some (.slice none 0 0) := (blk_cell ab.out 3).trans rfl; have co := blk_frozen ab.out 0; have cp := blk_frozen ab.out 1; have cq := blk_frozen ab.out 2; have cr := blk_frozen ab.out 3; have ct : bB.cell? ⟨ar, 0, none⟩ = some (.int .i64 ((rd_T69 ah ak).f0)) := (blk_cell aw.out 0).trans rfl; have cu : bB.cell? ⟨ar, 1, none⟩ = some (.int .i64 ((rd_T69 ah ak).f1)) := (blk_cell aw.out 1).trans rfl; have cv : bB.cell? ⟨ar, 2, none⟩ = some (.slice bh a0.length bi) := (blk_cell aw.out 2).trans rfl; have cw := blk_frozen aw.out 0; have cx := blk_frozen aw.out 1; have cy := blk_frozen aw.out 2) | ((with_reducible refine gate_builtin (b := .append) (xs := #[.tmp 26, .tmp 28]) rfl ?_); at_builtin; refine Kd.S_append k69 (w0 := w) w.heap.size rfl (.tmp 26) (.tmp 28) 25 69 (.agg #[(.int .i64 0), (.int .i64 0), (.slice none 0 0)]) 40 rfl Try.underlying25 info69 rfl (by decide) (by omega) u233002 ao (⟨(rd_T69 ah ak).f0, (rd_T69 ah ak).f1, a0⟩ : S69) [.int .i64 ((rd_T69 ah ak).f0), .int .i64 ((rd_T69 ah ak).f1), .slice bh a0.length bi] (fun k_ => some k_ ≠ (.slice ax an.length ay : Value).ownBlock ∧ k_ ≠ ar) (fun k_ => some k_ = (.slice bh a0.length bi : Value).ownBlock) rfl rfl ?aP (fun k_ hk_ => ((Kd.R_mono (ok' := fun k_ => ((fun k_ => some k_ ≠ (.slice ax an.length ay : Value).ownBlock ∧ k_ ≠ ar)) k_ ∧ some k_ ≠ (u233002 : Value).ownBlock) (Kd.R_types (Kd.R_apart' (bo.out) (Kd.S_typed ad.out) (by decide)) aw.out (by decide)) (fun k_ hk => ⟨⟨hk.1.1, hk.2⟩, hk.1.2⟩))).1 k_ hk_.symm) ?aF ?aO ?aB ?aS ?aL ?_; (case aP => exact k69_mkM _ _ _ (⟨(rd_T69 ah ak).f0, (rd_T69 ah ak).f1, a0⟩ : S69) (Kd.R_mono (Kd.R_tight rfl (Kd.R_mono (ok' := fun k_ => ((fun k_ => some k_ ≠ (.slice ax an.length ay : Value).ownBlock ∧ k_ ≠ ar)) k_ ∧ some k_ ≠ (u233002 : Value).ownBlock) (Kd.R_types (Kd.R_apart' (bo.out) (Kd.S_typed ad.out) (by decide)) aw.out (by decide)) (fun k_ hk => ⟨⟨hk.1.1, hk.2⟩, hk.1.2⟩))) (fun _ h_ => h_))); (case aB => exact (zb HB)); (case aF => exact (fun k_ hk => ⟨Kd.fresh' (Kd.R_lt (zR af)) k_ hk, Kd.freshB (g := ar) (o := .cells #[.int .i64 ((rd_T69 ah ak).f0), .int .i64 ((rd_T69 ah ak).f1), .slice bh a0.length bi] 69 (0, 0)) (zk aw) k_ hk⟩)); (case aO => exact (by (with_reducible repeat (first | apply Kd.S_alloc | apply Kd.S_drewN | apply Kd.S_drew)); exact Kd.S_mono ad.out (fun k_ hk => ⟨⟨hk.1, hk.2.2⟩, fun e_ => hk.2.1 e_⟩))); (case aS => exact (below_size (zb HB))); (case aL => have := du.out; omega); intro v239 w36 ho hb hg hat; rw [← Ny238.out] at ho; have aR := zK (Kd.R_over' (zR af) (Kd.S_typed (zT ad)) (by decide) hg); have aT := zK (blk_grown (g := ai) (o := .cells #[.slice aI aA.length aJ, .int .i64 a0_1, .slice (some br) ah.length aK, .slice aQ al.length aM] 28 (0, 0)) (zk aa) hg (Kd.S_ne ad.out aa.out (by decide))); have aU := zK (blk_grown (g := aj) (o := .cells #[.slice none 0 0, .int .i64 0, .slice none 0 0, .slice none 0 0] 28 (0, 0)) (zk ag) hg (Kd.S_ne ad.out ag.out (by decide))); have aV := zK (blk_grown (g := ac) (o := .cells #[.slice ax an.length ay, .int .i64 a0_1, u233002, .slice none 0 0] 28 (0, 0)) (zk ab) hg (Kd.S_ne ad.out ab.out (by decide))); have a1 := zK (blk_grown (g := ar) (o := .cells #[.int .i64 ((rd_T69 ah ak).f0), .int .i64 ((rd_T69 ah ak).f1), .slice bh a0.length bi] 69 (0, 0)) (zk aw) hg (Kd.S_away ad.out (fun _ hk => hk.2.2))); have a2 := zK (hb); have a3 := zK (ho); clear af; clear aa; clear ag; clear ab; clear aw; clear HB; clear ad; clear bo; have af := aR; have aa := aT; have ag := aU; have ab := aV; have aw := a1; have HB := a2; have da := a3; clear aR aT aU aV a1 a2 a3; clear ho hb hg hat; obtain ⟨de, df, eo37⟩ := Kd.S_slice da.out; subst eo37; have cz : w36.cell? ⟨ac, 0, none⟩ = some (.slice ax an.length ay) := (blk_cell ab.out 0).trans rfl; have cA : w36.cell? ⟨ac, 1, none⟩ = some (.int .i64 a0_1) := (blk_cell ab.out 1).trans rfl; have cB : w36.cell? ⟨ac, 2, none⟩ = some (u233002) := (blk_cell ab.out 2).trans rfl; have cC : w36.cell? ⟨ac, 3, none⟩ = some (.slice none 0 0) := (blk_cell ab.out 3).trans rfl; have cD := blk_frozen ab.out 0; have cE := blk_frozen ab.out 1; have cF := blk_frozen ab.out 2; have cG := blk_frozen ab.out 3))
       go_roundg k1
       case measure => have := HK1.out; omega
       case rel => exact ⟨(wrap64 (ak + 1)), (bX), (.slice de bX.length df), (by first | rfl | (simp; done) | (simp [*]; done)), H', ⟨by have := HK1.out; omega⟩, ⟨by (with_reducible repeat (first | apply Kd.R_alloc | apply Kd.R_drewN | apply Kd.R_drew)); exact Kd.R_mono (Kd.R_far (p := ⟨ac, 2, none⟩) (Kd.R_types af.out ab.out (by decide)) (fun _ hk => hk.2) (.slice de bX.length df)) (fun _ hk => trivial)⟩, ⟨by (with_reducible repeat (first | apply Kd.S_alloc | apply Kd.S_drewN | apply Kd.S_drew)); exact Kd.S_mono (Kd.S_far (p := ⟨ac, 2, none⟩) (Kd.S_types da.out ab.out (by decide)) (fun _ hk => hk.2) (.slice de bX.length df)) (fun _ hk => hk.1.1)⟩, ⟨by (with_reducible repeat (first | refine zN ?_ _ | refine zD ?_ | refine zA ?_ _)); refine blk_far ?_ ae.out _; (with_reducible repeat (first | refine zN ?_ _ | refine zD ?_ | refine zA ?_ _)); exact aa.out⟩, ⟨by (with_reducible repeat (first | refine zN ?_ _ | refine zD ?_ | refine zA ?_ _)); refine blk_far ?_ aq.out _; (with_reducible repeat (first | refine zN ?_ _ | refine zD ?_ | refine zA ?_ _)); exact ag.out⟩, ⟨by (with_reducible repeat (first | refine zN ?_ _ | refine zD ?_ | refine zA ?_ _)); refine blk_put (cs := #[.slice ax an.length ay, .int .i64 a0_1, u233002, .slice none 0 0]) ?_ 2 _ rfl; (with_reducible repeat (first | refine zN ?_ _ | refine zD ?_ | refine zA ?_ _)); exact ab.out⟩, ⟨zb HB⟩⟩
      ·rw [if_neg dt] at H
       exact absurd H (by simp)
     ·rw [if_neg dp] at H
      exact absurd H (by simp)
    ·rw [if_neg dm] at H
     exact absurd H (by simp)
   ·rw [if_neg dd] at H
    have c0 : decide (ak < (ah.length : Int)) = false := decide_eq_false dd
    clear dd; have H' := zK H; clear H; have hnb39 := bf.out; have hnc39 := bg.out; have hnb40 := ae.out; have hnc40 := aC.out
    have cH : wr.cell? ⟨ai, 0, none⟩ = some (.slice aI aA.length aJ) := (blk_cell aa.out 0).trans rfl
    have cI : wr.cell? ⟨ai, 1, none⟩ = some (.int .i64 a0_1) := (blk_cell aa.out 1).trans rfl
    have cJ : wr.cell? ⟨ai, 2, none⟩ = some (.slice aN ah.length aK) := (blk_cell aa.out 2).trans rfl
    have cK : wr.cell? ⟨ai, 3, none⟩ = some (.slice aQ al.length aM) := (blk_cell aa.out 3).trans rfl
    have cL := blk_frozen aa.out 0; have cM := blk_frozen aa.out 1; have cN := blk_frozen aa.out 2; have cO := blk_frozen aa.out 3
    obtain ⟨wN_, hwN_⟩ : ∃ w_ : World, w_ = wr := ⟨_, rfl⟩
    have HN := zK (show Below 0 wN_ wr from by rw [hwN_]; exact Below.refl _ _)
    have HW_N := zK (show w.heap.size ≤ wN_.heap.size from by rw [hwN_]; exact below_size HB.out)
    have hch_ := zK (Kd.S_mono (ok' := fun k_ => (fun k_ => some k_ ≠ ((.slice ax an.length ay) : Value).ownBlock) k_ ∧ k_ < wN_.heap.size) (Kd.S_bound ad.out) (fun k_ hk_ => ⟨by first | exact hk_.1 | exact hk_.1.1, by rw [hwN_]; exact hk_.2.2.1⟩))
    clear ad hwN_; have ad := hch_; clear hch_
    go_wp2
    go_loopg [35] k1 (fun kq v35 w' => ∃ (ap : Int) (aD : List (S74)) (u233003 : Value), v35 = .int .i64 ap ∧ Aside0 (impl_copyLoop.l1 kq al (al.length : Int) ap an a0_1 ao aD = some (r1, r2, r3, r4)) ∧ Aside0 (kq ≤ k1) ∧ Aside0 (Kd.R (Kd.int .i64) 3 w' w.heap.size (fun _ => True) (.slice ax an.length ay) an) ∧ Aside0 (Kd.S k69 69 w' w.heap.size (fun k_ => some k_ ≠ ((.slice ax an.length ay) : Value).ownBlock ∧ k_ < wN_.heap.size) u233002 ao) ∧ Aside0 (Kd.S k74 74 w' wN_.heap.size (fun k_ => some k_ ≠ ((.slice ax an.length ay) : Value).ownBlock) u233003 aD) ∧ Aside0 (w'.heap[ai]? = some (.cells #[(.slice aI aA.length aJ), .int .i64 a0_1, (.slice aN ah.length aK), (.slice aQ al.length aM)] 28 (0, 0))) ∧ Aside0 (w'.heap[aj]? = some (.cells #[(.slice none 0 0), .int .i64 0, (.slice none 0 0), (.slice none 0 0)] 28 (0, 0))) ∧ Aside0 (w'.heap[ac]? = some (.cells #[(.slice ax an.length ay), .int .i64 a0_1, u233002, u233003] 28 (0, 0))) ∧ Aside0 (Below w.heap.size w w') ∧ Aside0 (Below 0 wN_ w'))
    case atStart => exact ⟨(0), (([] : List (S74))), (.slice none 0 0), (by first | rfl | (simp; done) | (simp [*]; done)), H', ⟨Nat.le_refl _⟩, ⟨zR af⟩, ⟨zT ad⟩, ⟨by first | exact Kd.S_nil _ _ _ _ _ | exact Kd.N_nil _ _ _ _ _ | exact Kd.V_nil _ _ _ _ _ | exact Kd.Q_nil _ _ _ _ _ | exact Kd.R_nil _ _ _ _ _⟩, ⟨zk aa⟩, ⟨zk ag⟩, ⟨zk ab⟩, ⟨zb HB⟩, ⟨zb HN⟩⟩
    case round =>
     clear H'
     try clear c1
     try clear c2
     try clear p2
     try clear q2
     try clear hx2
     try clear c3
     try clear c4
     try clear c5
     try clear p6
     try clear c15
     try clear c16
     try clear dd
     try clear c0
     try clear dm
     try clear dn
     try clear dp
     try clear dq
     try clear dt
     try clear c23
     try clear p23
     try clear q23
     try clear hx23
     try clear c24
     try clear c25
     try clear c26
     try clear c32
     try clear c33
     try clear c39
     try clear c40
     try clear bE
     try clear bF
     try clear bG
     try clear bH
     try clear b8
     try clear b9
     try clear ca
     try clear ce
     try clear cf
     try clear cg
     try clear ck
     try clear cl
     try clear cm
     try clear cn
     try clear ct
     try clear cu
     try clear cv
     try clear cz
     try clear cA
     try clear cB
     try clear cC
     try clear cH
     try clear cI
     try clear cJ
     try clear cK
     try clear bI
     try clear bJ
     try clear bK
     try clear bL
     try clear cb
     try clear cc
     try clear cd
     try clear ch
     try clear ci
     try clear cj
     try clear co
     try clear cp
     try clear cq
     try clear cr
     try clear cw
     try clear cx
     try clear cy
     try clear cD
     try clear cE
     try clear cF
     try clear cG
     try clear cL
     try clear cM
     try clear cN
     try clear cO
     try clear bj
     try clear bk
     try clear bl
     try clear p2
     try clear b4
     try clear b5
     obtain ⟨ap, aD, u233003, rfl, HA, HK2, af, ad, am, aa, ag, ab, HB, HN⟩ := hrel
     cases gk with
     | zero => exact absurd HA.out (by simp [impl_copyLoop.l1])
     | succ k2 =>
      have H := HA.out; clear HA
      simp only [impl_copyLoop.l1] at H
      by_cases di : ap < (al.length : Int)
      ·rw [if_pos di] at H
       have dv : decide (ap < (al.length : Int)) = true := decide_eq_true di
       clear di
       by_cases c43 : 0 ≤ ap
       ·rw [if_pos c43] at H
        have c43b0 : decide (0 ≤ ap) = true := decide_eq_true c43
        clear c43
        by_cases c44 : ap < (al.length : Int)
        ·rw [if_pos c44] at H
         have c44b0 : decide (ap < (al.length : Int)) = true := decide_eq_true c44
         clear c44; replace H := Option.bind_eq_some_iff.mp H
         obtain ⟨aW, dw, H⟩ := H
         replace H : (if aD.length < 4398046511104 then (impl_copyLoop.l1 k2 al (al.length : Int) (wrap64 (ap + 1)) an a0_1 ao (aD ++ [(⟨(rd_T74 al ap).f0, aW⟩ : S74)])) else (none)) = some (r1, r2, r3, r4) := H
         have A45 := zK dw; clear dw
         by_cases c46 : aD.length < 4398046511104
         ·rw [if_pos c46] at H
          have dx := zK c46; clear c46
          obtain ⟨bT, bx⟩ : ∃ y_ : List (S74), y_ = (aD ++ [(⟨(rd_T74 al ap).f0, aW⟩ : S74)]) := ⟨_, rfl⟩
          replace H : (impl_copyLoop.l1 k2 al (al.length : Int) (wrap64 (ap + 1)) an a0_1 ao bT) = some (r1, r2, r3, r4) := by first | (rw [bx]; with_reducible exact H) | (have H2_ := (Option.bind_some _ _).symm.trans H; rw [bx]; with_reducible exact H2_) | (have H2_ := (Option.bind_some _ _).symm.trans H; with_reducible exact H2_) | with_reducible exact H | (rw [bx]; exact H) | exact H
          have Ny246 := zK bx; clear bx; have H' := zK H; clear H
          have dg : 0 ≤ (ap : Int) := zd
          have dh : ap < (al.length : Int) := zd
          obtain ⟨bs, a5, a6, e241, bu, bv, bO, bP⟩ := at_T74 dk.out ap dg dh
          cases e241
          replace bu := (HB.out.cell (World.block_lt_of_cell? w _ bu)).trans bu
          replace bv := (HB.out.cell (World.block_lt_of_cell? w _ bv)).trans bv
          have cP := zK bP; have cQ := zK bO; clear bP bO; replace dg := eq_true dg; replace dh := eq_true dh
          go_wp2_with (first | ((with_reducible refine gate_dst (N := 7) rfl ?_); refine box_event ?hg (N := 7) ?hd (cs := #[.int .i64 0, .slice none 0 0]) (t := 74) ?hr ?_; (case hd => rfl); (case hg => rfl); (case hr => first | (go_simp; done) | (go_simp; rfl)); intro au hg w47 hbox hb; have aR := zK (Kd.R_below (zR af) hb); have aT := zK (Kd.S_below (zT ad) hb); have aU := zK (Kd.S_below (Kd.S_elderB (zT am) au (Nat.le_of_eq hg.symm)) hb); have aV := zK (blk_below (g := ai) (o := .cells #[.slice aI aA.length aJ, .int .i64 a0_1, .slice aN ah.length aK, .slice (some bs) al.length aM] 28 (0, 0)) (zk aa) hb); have a1 := zK (blk_below (g := aj) (o := .cells #[.slice none 0 0, .int .i64 0, .slice none 0 0, .slice none 0 0] 28 (0, 0)) (zk ag) hb); have a2 := zK (blk_below (g := ac) (o := .cells #[.slice ax an.length ay, .int .i64 a0_1, u233002, u233003] 28 (0, 0)) (zk ab) hb); have a3 := zK (below_step (zb HB) hb); have nN_ := zK (below_step0 (zb HN) hb); have be := zK (hbox); have bq := zK ((by rw [hg]; exact (below_size (zb HB)) : w.heap.size ≤ au)); have bC := zK ((by rw [hg]; exact (below_size (zb HB)) : w.heap.size ≤ au)); have bm := zK ((by rw [hg]; exact Nat.ne_of_lt (blk_lt (g := ai) (o := .cells #[.slice aI aA.length aJ, .int .i64 a0_1, .slice aN ah.length aK, .slice (some bs) al.length aM] 28 (0, 0)) (zk aa)) : ai ≠ au)); have bY := zK ((by rw [hg]; exact Nat.ne_of_gt (blk_lt (g := ai) (o := .cells #[.slice aI aA.length aJ, .int .i64 a0_1, .slice aN ah.length aK, .slice (some bs) al.length aM] 28 (0, 0)) (zk aa)) : au ≠ ai)); have bZ := zK ((by rw [hg]; exact Nat.ne_of_lt (blk_lt (g := aj) (o := .cells #[.slice none 0 0, .int .i64 0, .slice none 0 0, .slice none 0 0] 28 (0, 0)) (zk ag)) : aj ≠ au)); have b0 := zK ((by rw [hg]; exact Nat.ne_of_gt (blk_lt (g := aj) (o := .cells #[.slice none 0 0, .int .i64 0, .slice none 0 0, .slice none 0 0] 28 (0, 0)) (zk ag)) : au ≠ aj)); have b1 := zK ((by rw [hg]; exact Nat.ne_of_lt (blk_lt (g := ac) (o := .cells #[.slice ax an.length ay, .int .i64 a0_1, u233002, u233003] 28 (0, 0)) (zk ab)) : ac ≠ au)); have dy := zK ((by rw [hg]; exact Nat.ne_of_gt (blk_lt (g := ac) (o := .cells #[.slice ax an.length ay, .int .i64 a0_1, u233002, u233003] 28 (0, 0)) (zk ab)) : au ≠ ac)); clear af; clear ad; clear am; clear aa; clear ag; clear ab; clear HB; clear HN; have af := aR; have ad := aT; have am := aU; have aa := aV; have ag := a1; have ab := a2; have HB := a3; have HN := nN_; clear nN_; have aE := be; have GW242 := bq; have bz := bC; have a7 := bm; have bU := bY; have a8 := bZ; have bV := b0; have a9 := b1; have bW := dy; clear aR aT aU aV a1 a2 a3 be bq bC bm bY bZ b0 b1 dy; clear hb hbox hg; have hnb48 := bU.out; have hnc48 := a7.out; have hnb49 := bV.out; have hnc49 := a8.out; have hnb50 := bW.out; have hnc50 := a9.out; have hcz51_0 : w47.cell? ⟨au, 0, none⟩ = some (.int .i64 0) := (blk_cell aE.out 0).trans rfl; have hcz51_1 : w47.cell? ⟨au, 1, none⟩ = some (.slice none 0 0) := (blk_cell aE.out 1).trans rfl; have hfz51_0 := blk_frozen aE.out 0; have hfz51_1 := blk_frozen aE.out 1) | ((with_reducible refine gate_callee (f := 58) rfl ?_); refine goesL_ (some 41) rfl rfl Try.func58 (by kernel_rfl) rfl #[.slice a5 ((rd_T74 al ap).f1).length a6] rfl (by (try simp only [List.map_toArray, List.map_cons, List.map_nil]); first | done | rfl | (simp only [List.length_drop, List.length_take]; rfl)) ?_; (with_reducible refine (slices_Clone_int_int.calls _ _ ((rd_T74 al ap).f1) aW _ ?side1 ?side2 A45.out).mono ?_); (case side1 => exact Kd.C_below cP.out (zb HB)); (case side2 => exact cQ.out); rintro e w52 ⟨v244, rfl, ho0, hb⟩; refine ⟨_, rfl, ?_⟩; have aR := zK (Kd.R_elder' (by (with_reducible repeat (first | apply Kd.R_alloc | apply Kd.R_drewN | apply Kd.R_drew)); exact (Kd.R_mono (Kd.R_far (p := ⟨au, 1, none⟩) (Kd.R_far (p := ⟨au, 0, none⟩) (Kd.R_types af.out aE.out (by decide)) (fun _ hk => hk.2) (.int .i64 ((rd_T74 al ap).f0))) (fun _ hk => hk.2) (.slice a5 ((rd_T74 al ap).f1).length a6)) (fun _ h_ => h_.1))) (Kd.R_base ho0) hb); have aT := zK (Kd.S_elder' (by (with_reducible repeat (first | apply Kd.S_alloc | apply Kd.S_drewN | apply Kd.S_drew)); exact (Kd.S_mono (Kd.S_far (p := ⟨au, 1, none⟩) (Kd.S_far (p := ⟨au, 0, none⟩) (Kd.S_types ad.out aE.out (by decide)) (fun _ hk => hk.2) (.int .i64 ((rd_T74 al ap).f0))) (fun _ hk => hk.2) (.slice a5 ((rd_T74 al ap).f1).length a6)) (fun _ h_ => h_.1))) (Kd.R_base ho0) hb); have aU := zK (Kd.S_elder' (by (with_reducible repeat (first | apply Kd.S_alloc | apply Kd.S_drewN | apply Kd.S_drew)); exact (Kd.S_mono (Kd.S_far (p := ⟨au, 1, none⟩) (Kd.S_far (p := ⟨au, 0, none⟩) (Kd.S_mono am.out (fun k_ hk => (⟨hk, hk.2⟩ : _ ∧ k_ ≠ au))) (fun _ hk => hk.2) (.int .i64 ((rd_T74 al ap).f0))) (fun _ hk => hk.2) (.slice a5 ((rd_T74 al ap).f1).length a6)) (fun _ h_ => h_.1))) (Kd.R_base ho0) hb); have aV := zK (Kd.R_lower (Kd.R_new' ho0 (Kd.R_lt (by (with_reducible repeat (first | apply Kd.R_alloc | apply Kd.R_drewN | apply Kd.R_drew)); exact (Kd.R_mono (Kd.R_far (p := ⟨au, 1, none⟩) (Kd.R_far (p := ⟨au, 0, none⟩) (Kd.R_types af.out aE.out (by decide)) (fun _ hk => hk.2) (.int .i64 ((rd_T74 al ap).f0))) (fun _ hk => hk.2) (.slice a5 ((rd_T74 al ap).f1).length a6)) (fun _ h_ => h_.1))))) (size0 (zb HN))); have a1 := zK (blk_below (g := ai) (o := .cells #[.slice aI aA.length aJ, .int .i64 a0_1, .slice aN ah.length aK, .slice (some bs) al.length aM] 28 (0, 0)) (by (with_reducible repeat (first | refine zN ?_ _ | refine zD ?_ | refine zA ?_ _)); refine blk_far ?_ a7.out _; (with_reducible repeat (first | refine zN ?_ _ | refine zD ?_ | refine zA ?_ _)); refine blk_far ?_ a7.out _; (with_reducible repeat (first | refine zN ?_ _ | refine zD ?_ | refine zA ?_ _)); exact aa.out) hb); have a2 := zK (blk_below (g := aj) (o := .cells #[.slice none 0 0, .int .i64 0, .slice none 0 0, .slice none 0 0] 28 (0, 0)) (by (with_reducible repeat (first | refine zN ?_ _ | refine zD ?_ | refine zA ?_ _)); refine blk_far ?_ a8.out _; (with_reducible repeat (first | refine zN ?_ _ | refine zD ?_ | refine zA ?_ _)); refine blk_far ?_ a8.out _; (with_reducible repeat (first | refine zN ?_ _ | refine zD ?_ | refine zA ?_ _)); exact ag.out) hb); have a3 := zK (blk_below (g := ac) (o := .cells #[.slice ax an.length ay, .int .i64 a0_1, u233002, u233003] 28 (0, 0)) (by (with_reducible repeat (first | refine zN ?_ _ | refine zD ?_ | refine zA ?_ _)); refine blk_far ?_ a9.out _; (with_reducible repeat (first | refine zN ?_ _ | refine zD ?_ | refine zA ?_ _)); refine blk_far ?_ a9.out _; (with_reducible repeat (first | refine zN ?_ _ | refine zD ?_ | refine zA ?_ _)); exact ab.out) hb); have be := zK (blk_below (g := au) (o := .cells #[.int .i64 ((rd_T74 al ap).f0), .slice a5 ((rd_T74 al ap).f1).length a6] 74 (0, 0)) (by (with_reducible repeat (first | refine zN ?_ _ | refine zD ?_ | refine zA ?_ _)); refine blk_put (cs := #[.int .i64 ((rd_T74 al ap).f0), .slice none 0 0]) ?_ 1 _ rfl; (with_reducible repeat (first | refine zN ?_ _ | refine zD ?_ | refine zA ?_ _)); refine blk_put (cs := #[.int .i64 0, .slice none 0 0]) ?_ 0 _ rfl; (with_reducible repeat (first | refine zN ?_ _ | refine zD ?_ | refine zA ?_ _)); exact aE.out) hb); have bq := zK (below_step (zb HB) hb); have nN_ := zK (below_step0 (zb HN) hb); clear af; clear ad; clear am; clear aa; clear ag; clear ab; clear aE; clear HB; clear HN; have af := aR; have ad := aT; have am := aU; have bp := aV; have aa := a1; have ag := a2; have ab := a3; have aE := be; have HB := bq; have HN := nN_; clear nN_; clear aR aT aU aV a1 a2 a3 be bq; (try clear hb); (try clear hk); (try clear ho0); obtain ⟨bc, bd, eo53⟩ := Kd.R_slice bp.out; subst eo53; have hcz54_0 : w52.cell? ⟨au, 0, none⟩ = some (.int .i64 ((rd_T74 al ap).f0)) := (blk_cell aE.out 0).trans rfl; have hcz54_1 : w52.cell? ⟨au, 1, none⟩ = some (.slice a5 ((rd_T74 al ap).f1).length a6) := (blk_cell aE.out 1).trans rfl; have hfz54_0 := blk_frozen aE.out 0; have hfz54_1 := blk_frozen aE.out 1) | ((with_reducible refine gate_store (t := 24) (p := 42) rfl ?_); refine store_event (t := 24) (p := 42) (v := ?vo_w55) (w1 := (w52.setCell ⟨au, 1, none⟩ (.slice bc aW.length bd))) ?hg ?ho ?hn ?hr ?_; (case ho => rfl); (case hg => rfl); (case hn => rfl); (case hr => first | (go_simp; done) | (go_simp; rfl)); intro bA hw; have aR : Aside0 (Kd.R (Kd.int .i64) 3 bA w.heap.size (fun k_ => some k_ ≠ (.slice bc aW.length bd : Value).ownBlock) (.slice ax an.length ay) an) := ⟨(by rw [hw]; exact (by (with_reducible repeat (first | apply Kd.R_alloc | apply Kd.R_drewN | apply Kd.R_drew)); exact Kd.R_mono (Kd.R_far (p := ⟨au, 1, none⟩) (Kd.R_types af.out aE.out (by decide)) (fun _ hk => hk.2) (.slice bc aW.length bd)) (fun _ hk => hk.1.2)))⟩; have aT : Aside0 (Kd.S k69 69 bA w.heap.size (fun k_ => (some k_ ≠ (.slice ax an.length ay : Value).ownBlock ∧ k_ < wN_.heap.size) ∧ some k_ ≠ (.slice bc aW.length bd : Value).ownBlock) u233002 ao) := ⟨(by rw [hw]; exact (by (with_reducible repeat (first | apply Kd.S_alloc | apply Kd.S_drewN | apply Kd.S_drew)); exact Kd.S_mono (Kd.S_far (p := ⟨au, 1, none⟩) (Kd.S_types ad.out aE.out (by decide)) (fun _ hk => hk.2) (.slice bc aW.length bd)) (fun _ hk => ⟨hk.1.1, hk.1.2⟩)))⟩; have aU : Aside0 (Kd.S k74 74 bA wN_.heap.size (fun k_ => some k_ ≠ (.slice ax an.length ay : Value).ownBlock ∧ some k_ ≠ (.slice bc aW.length bd : Value).ownBlock ∧ k_ ≠ au) u233003 aD) := ⟨(by rw [hw]; exact (by (with_reducible repeat (first | apply Kd.S_alloc | apply Kd.S_drewN | apply Kd.S_drew)); exact Kd.S_mono (Kd.S_far (p := ⟨au, 1, none⟩) (Kd.S_mono am.out (fun k_ hk => (⟨hk, hk.1.2⟩ : _ ∧ k_ ≠ au))) (fun _ hk => hk.2) (.slice bc aW.length bd)) (fun _ hk => ⟨hk.1.1.1, ⟨hk.1.2, hk.1.1.2⟩⟩)))⟩; have aV : Aside0 (Kd.R (Kd.int .i64) 3 bA wN_.heap.size (fun k_ => some k_ ≠ (.slice ax an.length ay : Value).ownBlock) (.slice bc aW.length bd) aW) := ⟨(by rw [hw]; exact (by (with_reducible repeat (first | apply Kd.R_alloc | apply Kd.R_drewN | apply Kd.R_drew)); exact Kd.R_mono (Kd.R_far (p := ⟨au, 1, none⟩) (Kd.R_types bp.out aE.out (by decide)) (fun _ hk => hk.2) (.slice bc aW.length bd)) (fun _ hk => hk.1.2)))⟩; have a1 : Aside0 (bA.heap[ai]? = some (.cells #[.slice aI aA.length aJ, .int .i64 a0_1, .slice aN ah.length aK, .slice (some bs) al.length aM] 28 (0, 0))) := ⟨(by rw [hw]; exact (by (with_reducible repeat (first | refine zN ?_ _ | refine zD ?_ | refine zA ?_ _)); refine blk_far ?_ a7.out _; (with_reducible repeat (first | refine zN ?_ _ | refine zD ?_ | refine zA ?_ _)); exact aa.out))⟩; have a2 : Aside0 (bA.heap[aj]? = some (.cells #[.slice none 0 0, .int .i64 0, .slice none 0 0, .slice none 0 0] 28 (0, 0))) := ⟨(by rw [hw]; exact (by (with_reducible repeat (first | refine zN ?_ _ | refine zD ?_ | refine zA ?_ _)); refine blk_far ?_ a8.out _; (with_reducible repeat (first | refine zN ?_ _ | refine zD ?_ | refine zA ?_ _)); exact ag.out))⟩; have a3 : Aside0 (bA.heap[ac]? = some (.cells #[.slice ax an.length ay, .int .i64 a0_1, u233002, u233003] 28 (0, 0))) := ⟨(by rw [hw]; exact (by (with_reducible repeat (first | refine zN ?_ _ | refine zD ?_ | refine zA ?_ _)); refine blk_far ?_ a9.out _; (with_reducible repeat (first | refine zN ?_ _ | refine zD ?_ | refine zA ?_ _)); exact ab.out))⟩; have be : Aside0 (bA.heap[au]? = some (.cells #[.int .i64 ((rd_T74 al ap).f0), .slice bc aW.length bd] 74 (0, 0))) := ⟨(by rw [hw]; exact (by (with_reducible repeat (first | refine zN ?_ _ | refine zD ?_ | refine zA ?_ _)); refine blk_put (cs := #[.int .i64 ((rd_T74 al ap).f0), .slice a5 ((rd_T74 al ap).f1).length a6]) ?_ 1 _ rfl; (with_reducible repeat (first | refine zN ?_ _ | refine zD ?_ | refine zA ?_ _)); exact aE.out))⟩; have bq : Aside0 (Below w.heap.size w bA) := ⟨(by rw [hw]; exact (zb HB))⟩; have nN_ : Aside0 (Below 0 wN_ bA) := ⟨(by rw [hw]; exact (zb HN))⟩; clear hw; clear af; clear ad; clear am; clear bp; clear aa; clear ag; clear ab; clear aE; clear HB; clear HN; have af := aR; have ad := aT; have am := aU; have bp := aV; have aa := a1; have ag := a2; have ab := a3; have aE := be; have HB := bq; have HN := nN_; clear nN_; clear aR aT aU aV a1 a2 a3 be bq; have hnb56 := aC.out; have hnc56 := ae.out; have hnb57 := aH.out; have hnc57 := aq.out; have hcz58_0 : bA.cell? ⟨ac, 0, none⟩ = some (.slice ax an.length ay) := (blk_cell ab.out 0).trans rfl; have hcz58_1 : bA.cell? ⟨ac, 1, none⟩ = some (.int .i64 a0_1) := (blk_cell ab.out 1).trans rfl; have hcz58_2 : bA.cell? ⟨ac, 2, none⟩ = some (u233002) := (blk_cell ab.out 2).trans rfl; have hcz58_3 : bA.cell? ⟨ac, 3, none⟩ = some (u233003) := (blk_cell ab.out 3).trans rfl; have hfz58_0 := blk_frozen ab.out 0; have hfz58_1 := blk_frozen ab.out 1; have hfz58_2 := blk_frozen ab.out 2; have hfz58_3 := blk_frozen ab.out 3; have hcz59_0 : bA.cell? ⟨au, 0, none⟩ = some (.int .i64 ((rd_T74 al ap).f0)) := (blk_cell aE.out 0).trans rfl; have hcz59_1 : bA.cell? ⟨au, 1, none⟩ = some (.slice bc aW.length bd) := (blk_cell aE.out 1).trans rfl; have hfz59_0 := blk_frozen aE.out 0; have hfz59_1 := blk_frozen aE.out 1) | ((with_reducible refine gate_builtin (b := .append) (xs := #[.tmp 44, .tmp 46]) rfl ?_); at_builtin; refine Kd.S_append k74 (w0 := ?aW0) wN_.heap.size rfl (.tmp 44) (.tmp 46) 26 74 (.agg #[(.int .i64 0), (.slice none 0 0)]) 32 rfl Try.underlying26 info74 rfl (by decide) (by omega) u233003 aD (⟨(rd_T74 al ap).f0, aW⟩ : S74) [.int .i64 ((rd_T74 al ap).f0), .slice bc aW.length bd] (fun k_ => some k_ ≠ (.slice ax an.length ay : Value).ownBlock ∧ k_ ≠ au) (fun k_ => some k_ = (.slice bc aW.length bd : Value).ownBlock) rfl rfl ?aP (fun k_ hk_ => ((Kd.R_mono (ok' := fun k_ => ((fun k_ => some k_ ≠ (.slice ax an.length ay : Value).ownBlock ∧ k_ ≠ au)) k_ ∧ some k_ ≠ (u233003 : Value).ownBlock) (Kd.R_types (Kd.R_apart' (bp.out) (Kd.S_typed am.out) (by decide)) aE.out (by decide)) (fun k_ hk => ⟨⟨hk.1.1, hk.2⟩, hk.1.2⟩))).1 k_ hk_.symm) ?aF ?aO ?aB ?aS ?aL ?_; (case aP => exact k74_mkM _ _ _ (⟨(rd_T74 al ap).f0, aW⟩ : S74) (Kd.R_mono (Kd.R_tight rfl (Kd.R_mono (ok' := fun k_ => ((fun k_ => some k_ ≠ (.slice ax an.length ay : Value).ownBlock ∧ k_ ≠ au)) k_ ∧ some k_ ≠ (u233003 : Value).ownBlock) (Kd.R_types (Kd.R_apart' (bp.out) (Kd.S_typed am.out) (by decide)) aE.out (by decide)) (fun k_ hk => ⟨⟨hk.1.1, hk.2⟩, hk.1.2⟩))) (fun _ h_ => h_))); (case aB => exact Below.refl _ _); (case aF => exact (fun k_ hk => ⟨Kd.fresh' (Kd.R_lt (zR af)) k_ hk, Kd.freshB (g := au) (o := .cells #[.int .i64 ((rd_T74 al ap).f0), .slice bc aW.length bd] 74 (0, 0)) (zk aE) k_ hk⟩)); (case aO => exact (by (with_reducible repeat (first | apply Kd.S_alloc | apply Kd.S_drewN | apply Kd.S_drew)); exact Kd.S_mono am.out (fun k_ hk => ⟨⟨hk.1, hk.2.2⟩, fun e_ => hk.2.1 e_⟩))); (case aS => exact size0 (zb HN)); (case aL => have := dx.out; omega); intro v247 w60 ho hb hg hat; rw [← Ny246.out] at ho; have aR := zK (Kd.R_over' (zR af) (Kd.S_typed (zT am)) (by decide) hg); have aT := zK (Kd.S_over' (zT ad) (Kd.S_typed (zT am)) (by decide) hg); have aU := zK (blk_grown (g := ai) (o := .cells #[.slice aI aA.length aJ, .int .i64 a0_1, .slice aN ah.length aK, .slice (some bs) al.length aM] 28 (0, 0)) (zk aa) hg (Kd.S_ne am.out aa.out (by decide))); have aV := zK (blk_grown (g := aj) (o := .cells #[.slice none 0 0, .int .i64 0, .slice none 0 0, .slice none 0 0] 28 (0, 0)) (zk ag) hg (Kd.S_ne am.out ag.out (by decide))); have a1 := zK (blk_grown (g := ac) (o := .cells #[.slice ax an.length ay, .int .i64 a0_1, u233002, u233003] 28 (0, 0)) (zk ab) hg (Kd.S_ne am.out ab.out (by decide))); have a2 := zK (blk_grown (g := au) (o := .cells #[.int .i64 ((rd_T74 al ap).f0), .slice bc aW.length bd] 74 (0, 0)) (zk aE) hg (Kd.S_away am.out (fun _ hk => hk.2.2))); have a3 := zK (below_via (n := w.heap.size) (w := w) (zb HB) HW_N.out hb); have nN_ := zK (below_via (n := 0) (w := wN_) (zb HN) (Nat.zero_le _) hb); have be := zK (ho); clear af; clear ad; clear aa; clear ag; clear ab; clear aE; clear HB; clear HN; clear am; clear bp; have af := aR; have ad := aT; have aa := aU; have ag := aV; have ab := a1; have aE := a2; have HB := a3; have HN := nN_; clear nN_; have db := be; clear aR aT aU aV a1 a2 a3 be; clear ho hb hg hat; obtain ⟨cR, cS, eo61⟩ := Kd.S_slice db.out; subst eo61; have hcz62_0 : w60.cell? ⟨ac, 0, none⟩ = some (.slice ax an.length ay) := (blk_cell ab.out 0).trans rfl; have hcz62_1 : w60.cell? ⟨ac, 1, none⟩ = some (.int .i64 a0_1) := (blk_cell ab.out 1).trans rfl; have hcz62_2 : w60.cell? ⟨ac, 2, none⟩ = some (u233002) := (blk_cell ab.out 2).trans rfl; have hcz62_3 : w60.cell? ⟨ac, 3, none⟩ = some (u233003) := (blk_cell ab.out 3).trans rfl; have hfz62_0 := blk_frozen ab.out 0; have hfz62_1 := blk_frozen ab.out 1; have hfz62_2 := blk_frozen ab.out 2; have hfz62_3 := blk_frozen ab.out 3))
          go_roundg k2
          case measure => have := HK1.out; have := HK2.out; omega
          case rel => exact ⟨(wrap64 (ap + 1)), (bT), (.slice cR bT.length cS), (by first | rfl | (simp; done) | (simp [*]; done)), H', ⟨by have := HK1.out; have := HK2.out; omega⟩, ⟨by (with_reducible repeat (first | apply Kd.R_alloc | apply Kd.R_drewN | apply Kd.R_drew)); exact Kd.R_mono (Kd.R_far (p := ⟨ac, 3, none⟩) (Kd.R_types af.out ab.out (by decide)) (fun _ hk => hk.2) (.slice cR bT.length cS)) (fun _ hk => trivial)⟩, ⟨by (with_reducible repeat (first | apply Kd.S_alloc | apply Kd.S_drewN | apply Kd.S_drew)); exact Kd.S_mono (Kd.S_far (p := ⟨ac, 3, none⟩) (Kd.S_types ad.out ab.out (by decide)) (fun _ hk => hk.2) (.slice cR bT.length cS)) (fun _ hk => hk.1.1)⟩, ⟨by (with_reducible repeat (first | apply Kd.S_alloc | apply Kd.S_drewN | apply Kd.S_drew)); exact Kd.S_mono (Kd.S_far (p := ⟨ac, 3, none⟩) (Kd.S_types db.out ab.out (by decide)) (fun _ hk => hk.2) (.slice cR bT.length cS)) (fun _ hk => hk.1.1)⟩, ⟨by (with_reducible repeat (first | refine zN ?_ _ | refine zD ?_ | refine zA ?_ _)); refine blk_far ?_ ae.out _; (with_reducible repeat (first | refine zN ?_ _ | refine zD ?_ | refine zA ?_ _)); exact aa.out⟩, ⟨by (with_reducible repeat (first | refine zN ?_ _ | refine zD ?_ | refine zA ?_ _)); refine blk_far ?_ aq.out _; (with_reducible repeat (first | refine zN ?_ _ | refine zD ?_ | refine zA ?_ _)); exact ag.out⟩, ⟨by (with_reducible repeat (first | refine zN ?_ _ | refine zD ?_ | refine zA ?_ _)); refine blk_put (cs := #[.slice ax an.length ay, .int .i64 a0_1, u233002, u233003]) ?_ 3 _ rfl; (with_reducible repeat (first | refine zN ?_ _ | refine zD ?_ | refine zA ?_ _)); exact ab.out⟩, ⟨zb HB⟩, ⟨zb HN⟩⟩
         ·rw [if_neg c46] at H
          exact absurd H (by simp)
        ·rw [if_neg c44] at H
         exact absurd H (by simp)
       ·rw [if_neg c43] at H
        exact absurd H (by simp)
      ·rw [if_neg di] at H
       have dv : decide (ap < (al.length : Int)) = false := decide_eq_false di
       clear di
       simp only [Option.some.injEq, Prod.mk.injEq] at H
       obtain ⟨rfl, rfl, rfl, rfl⟩ := H
       have hnb63 := aC.out; have hnc63 := ae.out; have hnb64 := aH.out; have hnc64 := aq.out
       have hcz65_0 : wr.cell? ⟨ac, 0, none⟩ = some (.slice ax an.length ay) := (blk_cell ab.out 0).trans rfl
       have hcz65_1 : wr.cell? ⟨ac, 1, none⟩ = some (.int .i64 a0_1) := (blk_cell ab.out 1).trans rfl
       have hcz65_2 : wr.cell? ⟨ac, 2, none⟩ = some (u233002) := (blk_cell ab.out 2).trans rfl
       have hcz65_3 : wr.cell? ⟨ac, 3, none⟩ = some (u233003) := (blk_cell ab.out 3).trans rfl
       have hfz65_0 := blk_frozen ab.out 0; have hfz65_1 := blk_frozen ab.out 1; have hfz65_2 := blk_frozen ab.out 2; have hfz65_3 := blk_frozen ab.out 3; have hnb66 := bg.out; have hnc66 := bf.out
       have hcz67_0 : wr.cell? ⟨aj, 0, none⟩ = some (.slice none 0 0) := (blk_cell ag.out 0).trans rfl
       have hcz67_1 : wr.cell? ⟨aj, 1, none⟩ = some (.int .i64 0) := (blk_cell ag.out 1).trans rfl
       have hcz67_2 : wr.cell? ⟨aj, 2, none⟩ = some (.slice none 0 0) := (blk_cell ag.out 2).trans rfl
       have hcz67_3 : wr.cell? ⟨aj, 3, none⟩ = some (.slice none 0 0) := (blk_cell ag.out 3).trans rfl
       have hfz67_0 := blk_frozen ag.out 0; have hfz67_1 := blk_frozen ag.out 1; have hfz67_2 := blk_frozen ag.out 2; have hfz67_3 := blk_frozen ag.out 3
       obtain ⟨b2, b3, eo68⟩ := Kd.S_slice ad.out
       subst eo68
       obtain ⟨cT, cU, eo69⟩ := Kd.S_slice am.out
       subst eo69
       go_wp2
       refine bodyPost_ret (results_cell_row rfl _ _ aj 28 #[.slice ax an.length ay, .int .i64 a0_1, .slice b2 ao.length b3, .slice cT aD.length cU] (0, 0) _ rfl (by (with_reducible repeat (first | refine zN ?_ _ | refine zD ?_ | refine zA ?_ _)); refine blk_put (cs := #[.slice ax an.length ay, .int .i64 a0_1, .slice b2 ao.length b3, .slice none 0 0]) ?_ 3 _ rfl; (with_reducible repeat (first | refine zN ?_ _ | refine zD ?_ | refine zA ?_ _)); refine blk_put (cs := #[.slice ax an.length ay, .int .i64 a0_1, .slice none 0 0, .slice none 0 0]) ?_ 2 _ rfl; (with_reducible repeat (first | refine zN ?_ _ | refine zD ?_ | refine zA ?_ _)); refine blk_put (cs := #[.slice ax an.length ay, .int .i64 0, .slice none 0 0, .slice none 0 0]) ?_ 1 _ rfl; (with_reducible repeat (first | refine zN ?_ _ | refine zD ?_ | refine zA ?_ _)); refine blk_put (cs := #[.slice none 0 0, .int .i64 0, .slice none 0 0, .slice none 0 0]) ?_ 0 _ rfl; (with_reducible repeat (first | refine zN ?_ _ | refine zD ?_ | refine zA ?_ _)); exact ag.out) Try.underlying28 rfl (by kernel_rfl)) rfl ?_
       exact ⟨_, _, _, wN_.heap.size, by first | rfl | (simp [errW_none, errW_some] <;> rfl) | (simp [*, errW_none, errW_some] <;> rfl), by (with_reducible repeat (first | apply Kd.R_alloc | apply Kd.R_drewN | apply Kd.R_drew)); exact Kd.R_mono (Kd.R_far (p := ⟨aj, 3, none⟩) (Kd.R_far (p := ⟨aj, 2, none⟩) (Kd.R_far (p := ⟨aj, 1, none⟩) (Kd.R_far (p := ⟨aj, 0, none⟩) (Kd.R_types af.out ag.out (by decide)) (fun _ hk => hk.2) (.slice ax an.length ay)) (fun _ hk => hk.2) (.int .i64 a0_1)) (fun _ hk => hk.2) (.slice b2 ao.length b3)) (fun _ hk => hk.2) (.slice cT aD.length cU)) (fun _ hk => trivial), by (with_reducible repeat (first | apply Kd.S_alloc | apply Kd.S_drewN | apply Kd.S_drew)); exact Kd.S_mono (Kd.S_far (p := ⟨aj, 3, none⟩) (Kd.S_far (p := ⟨aj, 2, none⟩) (Kd.S_far (p := ⟨aj, 1, none⟩) (Kd.S_far (p := ⟨aj, 0, none⟩) (Kd.S_types ad.out ag.out (by decide)) (fun _ hk => hk.2) (.slice ax an.length ay)) (fun _ hk => hk.2) (.int .i64 a0_1)) (fun _ hk => hk.2) (.slice b2 ao.length b3)) (fun _ hk => hk.2) (.slice cT aD.length cU)) (fun _ hk => hk.1), by (with_reducible repeat (first | apply Kd.S_alloc | apply Kd.S_drewN | apply Kd.S_drew)); exact Kd.S_mono (Kd.S_far (p := ⟨aj, 3, none⟩) (Kd.S_far (p := ⟨aj, 2, none⟩) (Kd.S_far (p := ⟨aj, 1, none⟩) (Kd.S_far (p := ⟨aj, 0, none⟩) (Kd.S_types am.out ag.out (by decide)) (fun _ hk => hk.2) (.slice ax an.length ay)) (fun _ hk => hk.2) (.int .i64 a0_1)) (fun _ hk => hk.2) (.slice b2 ao.length b3)) (fun _ hk => hk.2) (.slice cT aD.length cU)) (fun _ hk => hk.1), HW_N.out, by repeat (first | (with_reducible first | exact HB.out | apply zB | apply zC | apply zE | refine zS ?_ av.out | refine zS ?_ az.out | refine zS ?_ aG.out) | exact HB.out)⟩
mutual
def spec_l05Copy.l0 : Nat → List (S69) → Int → List Int → Int → List (S69) → List (S74) → Option (List Int × Int × (List (S69)) × (List (S74)))
 | 0, _, _, _, _, _, _ => none
 | k + 1, x3, x4, x290000, x290001, x290002, x290003 => if x4 < (x290002.length : Int) then (if 0 ≤ x4 then ((some (([] : List Int) : List Int)).bind fun y302 => (if y302.length + ((rd_T69 x290002 x4).f2).length < 17592186044416 then (if x3.length < 3518437208883 then (spec_l05Copy.l0 k (x3 ++ [(⟨(rd_T69 x290002 x4).f0, (rd_T69 x290002 x4).f1, (y302 ++ ((rd_T69 x290002 x4).f2))⟩ : S69)]) (wrap64 (x4 + 1)) x290000 x290001 x290002 x290003) else (none)) else (none))) else (none)) else (spec_l05Copy.l1 k (([] : List (S74))) 0 x290000 x290001 x3 x290003)
def spec_l05Copy.l1 : Nat → List (S74) → Int → List Int → Int → List (S69) → List (S74) → Option (List Int × Int × (List (S69)) × (List (S74)))
 | 0, _, _, _, _, _, _ => none
 | k + 1, x6, x7, x290000, x290001, x290002, x290003 => if x7 < (x290003.length : Int) then (if 0 ≤ x7 then ((some (([] : List Int) : List Int)).bind fun y316 => (if y316.length + ((rd_T74 x290003 x7).f1).length < 17592186044416 then (if x6.length < 4398046511104 then (spec_l05Copy.l1 k (x6 ++ [(⟨(rd_T74 x290003 x7).f0, (y316 ++ ((rd_T74 x290003 x7).f1))⟩ : S74)]) (wrap64 (x7 + 1)) x290000 x290001 x290002 x290003) else (none)) else (none))) else (none)) else (some (x290000, x290001, x290002, x6))
end
def spec_l05Copy.f (k : Nat) (l0_0 : List Int) (a0_1 : Int) (l0_2 : List (S69)) (l0_3 : List (S74)) : Option (List Int × Int × (List (S69)) × (List (S74))) := (some (([] : List Int) : List Int)).bind fun y291 => (if y291.length + l0_0.length < 17592186044416 then (spec_l05Copy.l0 k (([] : List (S69))) 0 (y291 ++ l0_0) a0_1 l0_2 l0_3) else (none))
set_option maxHeartbeats 8000000 in
set_option maxRecDepth 100000 in
theorem spec_l05Copy.calls2 (k : Nat) (be : Option Addr) (bf : Nat) (aI : List Int) (a0_1 : Int) (a4 : Option Addr) (aA : Nat) (ae : List (S69)) (az : Option Addr) (aw : Nat) (af : List (S74)) (r1 : List Int) (r2 : Int) (r3 : List (S69)) (r4 : List (S74)) (w : World) (cU : Kd.C (Kd.int .i64) w be aI.length aI) (hc0_0 : aI.length ≤ bf) (cV : Kd.C k69 w a4 ae.length ae) (hc0_2 : ae.length ≤ aA) (cW : Kd.C k74 w az af.length af) (hc0_3 : af.length ≤ aw) (h : spec_l05Copy.f k aI a0_1 ae af = some (r1, r2, r3, r4)) :
  Calls Try.prog 68 #[.agg #[.slice be aI.length bf, .int .i64 a0_1, .slice a4 ae.length aA, .slice az af.length aw]] w fun e w' => ∃ (v0_ v2_ v3_ : Value) (N_ : Nat), e = .returned (.agg #[v0_, .int .i64 r2, v2_, v3_]) ∧ Kd.R (Kd.int .i64) 3 w' w.heap.size (fun _ => True) v0_ r1 ∧ Kd.S k69 69 w' w.heap.size (fun k_ => some k_ ≠ (v0_ : Value).ownBlock ∧ k_ < N_) v2_ r3 ∧ Kd.S k74 74 w' N_ (fun k_ => some k_ ≠ (v0_ : Value).ownBlock) v3_ r4 ∧ w.heap.size ≤ N_ ∧ Below w.heap.size w w' := by
 have hu28 := Try.underlying28; have hu69 := Try.underlying69; have hu74 := Try.underlying74; have db := zK cU; have HC0_0 := zK hc0_0; clear cU hc0_0; have dc := zK cV; have HC0_2 := zK hc0_2; clear cV hc0_2; have dd := zK cW; have HC0_3 := zK hc0_3; clear cW hc0_3
 have HB := zK (Below.refl w.heap.size w)
 have H : ((some (([] : List Int) : List Int)).bind fun bn => (if bn.length + aI.length < 17592186044416 then (spec_l05Copy.l0 k (([] : List (S69))) 0 (bn ++ aI) a0_1 ae af) else (none))) = some (r1, r2, r3, r4) := h
 clear h
 obtain ⟨bn, bo⟩ : ∃ y_ : List Int, y_ = (([] : List Int)) := ⟨_, rfl⟩
 replace H : (if bn.length + aI.length < 17592186044416 then (spec_l05Copy.l0 k (([] : List (S69))) 0 (bn ++ aI) a0_1 ae af) else (none)) = some (r1, r2, r3, r4) := by first | (rw [bo]; with_reducible exact H) | (have H2_ := (Option.bind_some _ _).symm.trans H; rw [bo]; with_reducible exact H2_) | (have H2_ := (Option.bind_some _ _).symm.trans H; with_reducible exact H2_) | with_reducible exact H | (rw [bo]; exact H) | exact H
 have Ny291 := zK bo; clear bo
 by_cases c2 : bn.length + aI.length < 17592186044416
 ·rw [if_pos c2] at H
  have LMc2 := zK c2; clear c2
  obtain ⟨ag, bp⟩ : ∃ y_ : List Int, y_ = (bn ++ aI) := ⟨_, rfl⟩
  replace H : (spec_l05Copy.l0 k (([] : List (S69))) 0 ag a0_1 ae af) = some (r1, r2, r3, r4) := by first | (rw [bp]; with_reducible exact H) | (have H2_ := (Option.bind_some _ _).symm.trans H; rw [bp]; with_reducible exact H2_) | (have H2_ := (Option.bind_some _ _).symm.trans H; with_reducible exact H2_) | with_reducible exact H | (rw [bp]; exact H) | exact H
  have Ny294 := zK bp; clear bp
  obtain ⟨de, bq⟩ : ∃ y_ : List (S69), y_ = (([] : List (S69))) := ⟨_, rfl⟩
  replace H : (spec_l05Copy.l0 k de 0 ag a0_1 ae af) = some (r1, r2, r3, r4) := by first | (rw [bq]; with_reducible exact H) | (have H2_ := (Option.bind_some _ _).symm.trans H; rw [bq]; with_reducible exact H2_) | (have H2_ := (Option.bind_some _ _).symm.trans H; with_reducible exact H2_) | with_reducible exact H | (rw [bq]; exact H) | exact H
  have Ny297 := zK bq; clear bq; have H' := zK H; clear H
  go_enter Try.func68, Try.ntmps68
  go_wp2_with (first | ((with_reducible refine gate_dst (N := 1) rfl ?_); refine box_event ?hg (N := 1) ?hd (cs := #[.slice be aI.length bf, .int .i64 a0_1, .slice a4 ae.length aA, .slice az af.length aw]) (t := 28) ?hr ?_; (case hd => rfl); (case hg => rfl); (case hr => first | (go_simp; done) | (go_simp; rfl)); intro ad hg w3 hbox hb; have aC := zK (below_step (zb HB) hb); have aD := zK (hbox); have aE := zK ((by rw [hg]; exact (below_size (zb HB)) : w.heap.size ≤ ad)); have aG := zK ((by rw [hg]; exact (below_size (zb HB)) : w.heap.size ≤ ad)); clear HB; have HB := aC; have aa := aD; have GW289 := aE; have ar := aG; clear aC aD aE aG; clear hb hbox hg) | ((with_reducible refine gate_dst (N := 2) rfl ?_); refine box_event ?hg (N := 2) ?hd (cs := #[.slice none 0 0, .int .i64 0, .slice none 0 0, .slice none 0 0]) (t := 28) ?hr ?_; (case hd => rfl); (case hg => rfl); (case hr => first | (go_simp; done) | (go_simp; rfl)); intro ah hg w4 hbox hb; have aC := zK (blk_below (g := ad) (o := .cells #[.slice be aI.length bf, .int .i64 a0_1, .slice a4 ae.length aA, .slice az af.length aw] 28 (0, 0)) (zk aa) hb); have aD := zK (below_step (zb HB) hb); have aE := zK (hbox); have aG := zK ((by rw [hg]; exact (below_size (zb HB)) : w.heap.size ≤ ah)); have aW := zK ((by rw [hg]; exact (below_size (zb HB)) : w.heap.size ≤ ah)); have aZ := zK ((by rw [hg]; exact Nat.ne_of_lt (blk_lt (g := ad) (o := .cells #[.slice be aI.length bf, .int .i64 a0_1, .slice a4 ae.length aA, .slice az af.length aw] 28 (0, 0)) (zk aa)) : ad ≠ ah)); have a7 := zK ((by rw [hg]; exact Nat.ne_of_gt (blk_lt (g := ad) (o := .cells #[.slice be aI.length bf, .int .i64 a0_1, .slice a4 ae.length aA, .slice az af.length aw] 28 (0, 0)) (zk aa)) : ah ≠ ad)); clear aa; clear HB; have aa := aC; have HB := aD; have ac := aE; have GW290 := aG; have au := aW; have aM := aZ; have ax := a7; clear aC aD aE aG aW aZ a7; clear hb hbox hg) | ((with_reducible refine gate_dst (N := 9) rfl ?_); refine Kd.R_lit (Kd.int .i64) _ 3 ?hg (N := 9) ?hd (xs := ([] : List Int)) (inner := []) (ok := fun _ => True) (okp := fun _ => True) ?hr ?hp (fun _ hk => hk) trivial (Below.refl _ _) (Nat.le_refl _) (by simp) ?_; (case hd => rfl); (case hg => rfl); (case hr => first | (go_simp; done) | (go_simp; rfl)); (case hp => exact (Reps.none _ _)); intro v292 w5 ho6 hb hg_ hnew_; clear hg_ hnew_; (first | rw [← Ny291.out] at ho6 | (simp only [Int.reduceToNat] at ho6; rw [← Ny291.out] at ho6)); have aC := zK (Kd.R_lower ho6 (below_size (zb HB))); have aD := zK (blk_below (g := ad) (o := .cells #[.slice be aI.length bf, .int .i64 a0_1, .slice a4 ae.length aA, .slice az af.length aw] 28 (0, 0)) (zk aa) hb); have aE := zK (blk_below (g := ah) (o := .cells #[.slice none 0 0, .int .i64 0, .slice none 0 0, .slice none 0 0] 28 (0, 0)) (zk ac) hb); have aG := zK (below_step (zb HB) hb); clear aa; clear ac; clear HB; have bF := aC; have aa := aD; have ac := aE; have HB := aG; clear aC aD aE aG; clear hb ho6; have hnb7 := aM.out; have hnc7 := ax.out; have bX : w5.cell? ⟨ad, 0, none⟩ = some (.slice be aI.length bf) := (blk_cell aa.out 0).trans rfl; have bY : w5.cell? ⟨ad, 1, none⟩ = some (.int .i64 a0_1) := (blk_cell aa.out 1).trans rfl; have bZ : w5.cell? ⟨ad, 2, none⟩ = some (.slice a4 ae.length aA) := (blk_cell aa.out 2).trans rfl; have b0 : w5.cell? ⟨ad, 3, none⟩ = some (.slice az af.length aw) := (blk_cell aa.out 3).trans rfl; have b1 := blk_frozen aa.out 0; have b2 := blk_frozen aa.out 1; have b3 := blk_frozen aa.out 2; have b4 := blk_frozen aa.out 3) | ((with_reducible refine gate_builtin (b := .append) (xs := #[.tmp 9, .tmp 11]) rfl ?_); at_builtin; refine Kd.R_append_rows (Kd.int .i64) (w0 := w) w.heap.size rfl (.tmp 9) (.tmp 11) 24 3 (.int .i64 0) 8 rfl Try.underlying24 info3 rfl (by decide) (by omega) v292 bn aI _ _ _ (fun _ => True) (fun _ => False) rfl rfl ?aO ?aR (fun _ _ h => h) (fun _ h => h.elim) ?aF ?aB ?aS ?aL ?_; (case aR => repeat (first | exact (Kd.C_below db.out HB.out) | (with_reducible refine Kd.C_alloc ?_ _) | (with_reducible refine Kd.C_drewN ?_ _) | (with_reducible refine Kd.C_drew ?_))); (case aB => exact (zb HB)); (case aF => exact (fun _ _ => trivial)); (case aO => exact (zR bF)); (case aS => exact (below_size (zb HB))); (case aL => have := LMc2.out; omega); intro v295 w9 ho hb hg hat; rw [← Ny294.out] at ho; have aC := zK (blk_grown (g := ad) (o := .cells #[.slice be aI.length bf, .int .i64 a0_1, .slice a4 ae.length aA, .slice az af.length aw] 28 (0, 0)) (zk aa) hg (Kd.R_ne bF.out aa.out (by decide))); have aD := zK (blk_grown (g := ah) (o := .cells #[.slice none 0 0, .int .i64 0, .slice none 0 0, .slice none 0 0] 28 (0, 0)) (zk ac) hg (Kd.R_ne bF.out ac.out (by decide))); have aE := zK (hb); have aG := zK (ho); clear aa; clear ac; clear HB; clear bF; have aa := aC; have ac := aD; have HB := aE; have bk := aG; clear aC aD aE aG; clear ho hb hg hat; obtain ⟨ao, ap, eo10⟩ := Kd.R_slice bk.out; subst eo10; have bG : w9.cell? ⟨ad, 0, none⟩ = some (.slice be aI.length bf) := (blk_cell aa.out 0).trans rfl; have bH : w9.cell? ⟨ad, 1, none⟩ = some (.int .i64 a0_1) := (blk_cell aa.out 1).trans rfl; have bI : w9.cell? ⟨ad, 2, none⟩ = some (.slice a4 ae.length aA) := (blk_cell aa.out 2).trans rfl; have bJ : w9.cell? ⟨ad, 3, none⟩ = some (.slice az af.length aw) := (blk_cell aa.out 3).trans rfl; have bK := blk_frozen aa.out 0; have bL := blk_frozen aa.out 1; have bM := blk_frozen aa.out 2; have bN := blk_frozen aa.out 3) | ((with_reducible refine gate_dst (N := 14) rfl ?_); refine Kd.S_lit k69 _ 69 ?hg (N := 14) ?hd (xs := ([] : List (S69))) (inner := []) (ok := fun _ => True) (okp := fun _ => True) ?hr ?hp (fun _ hk => hk) trivial (Below.refl _ _) (Nat.le_refl _) (by simp) ?_; (case hd => rfl); (case hg => rfl); (case hr => first | (go_simp; done) | (go_simp; rfl)); (case hp => exact (Reps.none _ _)); intro v298 w12 ho13 hb hg_ hnew_; clear hg_ hnew_; (first | rw [← Ny297.out] at ho13 | (simp only [Int.reduceToNat] at ho13; rw [← Ny297.out] at ho13)); have aC := zK (Kd.R_below (by (with_reducible repeat (first | apply Kd.R_alloc | apply Kd.R_drewN | apply Kd.R_drew)); exact (Kd.R_mono (Kd.R_far (p := ⟨ad, 0, none⟩) (Kd.R_types bk.out aa.out (by decide)) (fun _ hk => hk.2) (.slice ao ag.length ap)) (fun _ h_ => h_.1))) hb); have aD := zK (Kd.S_lower (Kd.S_new' ho13 (Kd.R_lt (by (with_reducible repeat (first | apply Kd.R_alloc | apply Kd.R_drewN | apply Kd.R_drew)); exact (Kd.R_mono (Kd.R_far (p := ⟨ad, 0, none⟩) (Kd.R_types bk.out aa.out (by decide)) (fun _ hk => hk.2) (.slice ao ag.length ap)) (fun _ h_ => h_.1))))) (below_size (zb HB))); have aE := zK (blk_below (g := ad) (o := .cells #[.slice ao ag.length ap, .int .i64 a0_1, .slice a4 ae.length aA, .slice az af.length aw] 28 (0, 0)) (by (with_reducible repeat (first | refine zN ?_ _ | refine zD ?_ | refine zA ?_ _)); refine blk_put (cs := #[.slice be aI.length bf, .int .i64 a0_1, .slice a4 ae.length aA, .slice az af.length aw]) ?_ 0 _ rfl; (with_reducible repeat (first | refine zN ?_ _ | refine zD ?_ | refine zA ?_ _)); exact aa.out) hb); have aG := zK (blk_below (g := ah) (o := .cells #[.slice none 0 0, .int .i64 0, .slice none 0 0, .slice none 0 0] 28 (0, 0)) (by (with_reducible repeat (first | refine zN ?_ _ | refine zD ?_ | refine zA ?_ _)); refine blk_far ?_ ax.out _; (with_reducible repeat (first | refine zN ?_ _ | refine zD ?_ | refine zA ?_ _)); exact ac.out) hb); have aW := zK (below_step (zb HB) hb); clear bk; clear aa; clear ac; clear HB; have bk := aC; have df := aD; have aa := aE; have ac := aG; have HB := aW; clear aC aD aE aG aW; clear hb ho13))
  go_loopg [3, 4] k (fun kq v3 v4 w' => ∃ (av : List (S69)) (ai : Int), v4 = .int .i64 ai ∧ Aside0 (spec_l05Copy.l0 kq av ai ag a0_1 ae af = some (r1, r2, r3, r4)) ∧ Aside0 (kq ≤ k) ∧ Aside0 (Kd.S k69 69 w' w.heap.size (fun k_ => some k_ ≠ ((.slice ao ag.length ap) : Value).ownBlock) v3 av) ∧ Aside0 (Kd.R (Kd.int .i64) 3 w' w.heap.size (fun _ => True) (.slice ao ag.length ap) ag) ∧ Aside0 (w'.heap[ad]? = some (.cells #[(.slice ao ag.length ap), .int .i64 a0_1, (.slice a4 ae.length aA), (.slice az af.length aw)] 28 (0, 0))) ∧ Aside0 (w'.heap[ah]? = some (.cells #[(.slice none 0 0), .int .i64 0, (.slice none 0 0), (.slice none 0 0)] 28 (0, 0))) ∧ Aside0 (Below w.heap.size w w'))
  case atStart => exact ⟨(de), (0), (by first | rfl | (simp; done) | (simp [*]; done)), H', ⟨Nat.le_refl _⟩, ⟨by (with_reducible repeat (first | apply Kd.S_alloc | apply Kd.S_drewN | apply Kd.S_drew)); exact Kd.S_mono df.out (fun _ hk => hk.2)⟩, ⟨zR bk⟩, ⟨zk aa⟩, ⟨zk ac⟩, ⟨zb HB⟩⟩
  case round =>
   clear H'
   try clear c2
   try clear p2
   try clear c6
   try clear c7
   try clear bG
   try clear bH
   try clear bI
   try clear bJ
   try clear bX
   try clear bY
   try clear bZ
   try clear b0
   try clear bK
   try clear bL
   try clear bM
   try clear bN
   try clear b1
   try clear b2
   try clear b3
   try clear b4
   obtain ⟨av, ai, rfl, HA, HK1, ay, ab, aa, ac, HB⟩ := hrel
   cases gk with
   | zero => exact absurd HA.out (by simp [spec_l05Copy.l0])
   | succ k1 =>
    have H := HA.out; clear HA
    simp only [spec_l05Copy.l0] at H
    by_cases cY : ai < (ae.length : Int)
    ·rw [if_pos cY] at H
     have cX : decide (ai < (ae.length : Int)) = true := decide_eq_true cY
     clear cY
     by_cases dg : 0 ≤ ai
     ·rw [if_pos dg] at H
      have dh : decide (0 ≤ ai) = true := decide_eq_true dg
      clear dg
      obtain ⟨b5, br⟩ : ∃ y_ : List Int, y_ = (([] : List Int)) := ⟨_, rfl⟩
      replace H : (if b5.length + ((rd_T69 ae ai).f2).length < 17592186044416 then (if av.length < 3518437208883 then (spec_l05Copy.l0 k1 (av ++ [(⟨(rd_T69 ae ai).f0, (rd_T69 ae ai).f1, (b5 ++ ((rd_T69 ae ai).f2))⟩ : S69)]) (wrap64 (ai + 1)) ag a0_1 ae af) else (none)) else (none)) = some (r1, r2, r3, r4) := by first | (rw [br]; with_reducible exact H) | (have H2_ := (Option.bind_some _ _).symm.trans H; rw [br]; with_reducible exact H2_) | (have H2_ := (Option.bind_some _ _).symm.trans H; with_reducible exact H2_) | with_reducible exact H | (rw [br]; exact H) | exact H
      have Ny302 := zK br; clear br
      by_cases di : b5.length + ((rd_T69 ae ai).f2).length < 17592186044416
      ·rw [if_pos di] at H
       have dj := zK di; clear di
       obtain ⟨aX, bs⟩ : ∃ y_ : List Int, y_ = (b5 ++ ((rd_T69 ae ai).f2)) := ⟨_, rfl⟩
       replace H : (if av.length < 3518437208883 then (spec_l05Copy.l0 k1 (av ++ [(⟨(rd_T69 ae ai).f0, (rd_T69 ae ai).f1, aX⟩ : S69)]) (wrap64 (ai + 1)) ag a0_1 ae af) else (none)) = some (r1, r2, r3, r4) := by first | (rw [bs]; with_reducible exact H) | (have H2_ := (Option.bind_some _ _).symm.trans H; rw [bs]; with_reducible exact H2_) | (have H2_ := (Option.bind_some _ _).symm.trans H; with_reducible exact H2_) | with_reducible exact H | (rw [bs]; exact H) | exact H
       have Ny305 := zK bs; clear bs
       by_cases dk : av.length < 3518437208883
       ·rw [if_pos dk] at H
        have dl := zK dk; clear dk
        obtain ⟨dm, bu⟩ : ∃ y_ : List (S69), y_ = (av ++ [(⟨(rd_T69 ae ai).f0, (rd_T69 ae ai).f1, aX⟩ : S69)]) := ⟨_, rfl⟩
        replace H : (spec_l05Copy.l0 k1 dm (wrap64 (ai + 1)) ag a0_1 ae af) = some (r1, r2, r3, r4) := by first | (rw [bu]; with_reducible exact H) | (have H2_ := (Option.bind_some _ _).symm.trans H; rw [bu]; with_reducible exact H2_) | (have H2_ := (Option.bind_some _ _).symm.trans H; with_reducible exact H2_) | with_reducible exact H | (rw [bu]; exact H) | exact H
        have Ny308 := zK bu; clear bu; have H' := zK H; clear H; have hnb18 := aM.out; have hnc18 := ax.out
        have cb : wr.cell? ⟨ad, 0, none⟩ = some (.slice ao ag.length ap) := (blk_cell aa.out 0).trans rfl
        have cc : wr.cell? ⟨ad, 1, none⟩ = some (.int .i64 a0_1) := (blk_cell aa.out 1).trans rfl
        have cd : wr.cell? ⟨ad, 2, none⟩ = some (.slice a4 ae.length aA) := (blk_cell aa.out 2).trans rfl
        have ce : wr.cell? ⟨ad, 3, none⟩ = some (.slice az af.length aw) := (blk_cell aa.out 3).trans rfl
        have cf := blk_frozen aa.out 0; have cg := blk_frozen aa.out 1; have ch := blk_frozen aa.out 2; have ci := blk_frozen aa.out 3
        have cj : 0 ≤ (ai : Int) := zd
        have ck : ai < (ae.length : Int) := zd
        obtain ⟨bg, a0, a1, e300, bb, bc, bd, bO, bP⟩ := at_T69 dc.out ai cj ck
        cases e300
        replace bb := (HB.out.cell (World.block_lt_of_cell? w _ bb)).trans bb
        replace bc := (HB.out.cell (World.block_lt_of_cell? w _ bc)).trans bc
        replace bd := (HB.out.cell (World.block_lt_of_cell? w _ bd)).trans bd
        have cl := zK bP; have HC300_2 := zK bO; clear bP bO; replace cj := eq_true cj; replace ck := eq_true ck
        go_wp2_with (first | ((with_reducible refine gate_dst (N := 5) rfl ?_); refine box_event ?hg (N := 5) ?hd (cs := #[.int .i64 0, .int .i64 0, .slice none 0 0]) (t := 69) ?hr ?_; (case hd => rfl); (case hg => rfl); (case hr => first | (go_simp; done) | (go_simp; rfl)); intro aj hg w20 hbox hb; have aC := zK (Kd.S_below (Kd.S_elderB (zT ay) aj (Nat.le_of_eq hg.symm)) hb); have aD := zK (Kd.R_below (zR ab) hb); have aE := zK (blk_below (g := ad) (o := .cells #[.slice ao ag.length ap, .int .i64 a0_1, .slice (some bg) ae.length aA, .slice az af.length aw] 28 (0, 0)) (zk aa) hb); have aG := zK (blk_below (g := ah) (o := .cells #[.slice none 0 0, .int .i64 0, .slice none 0 0, .slice none 0 0] 28 (0, 0)) (zk ac) hb); have aW := zK (below_step (zb HB) hb); have aZ := zK (hbox); have a7 := zK ((by rw [hg]; exact (below_size (zb HB)) : w.heap.size ≤ aj)); have bQ := zK ((by rw [hg]; exact (below_size (zb HB)) : w.heap.size ≤ aj)); have dn := zK ((by rw [hg]; exact Nat.ne_of_lt (blk_lt (g := ad) (o := .cells #[.slice ao ag.length ap, .int .i64 a0_1, .slice (some bg) ae.length aA, .slice az af.length aw] 28 (0, 0)) (zk aa)) : ad ≠ aj)); have dp := zK ((by rw [hg]; exact Nat.ne_of_gt (blk_lt (g := ad) (o := .cells #[.slice ao ag.length ap, .int .i64 a0_1, .slice (some bg) ae.length aA, .slice az af.length aw] 28 (0, 0)) (zk aa)) : aj ≠ ad)); have b6 := zK ((by rw [hg]; exact Nat.ne_of_lt (blk_lt (g := ah) (o := .cells #[.slice none 0 0, .int .i64 0, .slice none 0 0, .slice none 0 0] 28 (0, 0)) (zk ac)) : ah ≠ aj)); have b7 := zK ((by rw [hg]; exact Nat.ne_of_gt (blk_lt (g := ah) (o := .cells #[.slice none 0 0, .int .i64 0, .slice none 0 0, .slice none 0 0] 28 (0, 0)) (zk ac)) : aj ≠ ah)); clear ay; clear ab; clear aa; clear ac; clear HB; have ay := aC; have ab := aD; have aa := aE; have ac := aG; have HB := aW; have ak := aZ; have GW301 := a7; have ba := bQ; have aN := dn; have bT := dp; have aQ := b6; have bU := b7; clear aC aD aE aG aW aZ a7 bQ dn dp b6 b7; clear hb hbox hg; have hnb21 := bT.out; have hnc21 := aN.out; have hnb22 := bU.out; have hnc22 := aQ.out; have cm : w20.cell? ⟨aj, 0, none⟩ = some (.int .i64 0) := (blk_cell ak.out 0).trans rfl; have cn : w20.cell? ⟨aj, 1, none⟩ = some (.int .i64 0) := (blk_cell ak.out 1).trans rfl; have co : w20.cell? ⟨aj, 2, none⟩ = some (.slice none 0 0) := (blk_cell ak.out 2).trans rfl; have cp := blk_frozen ak.out 0; have cq := blk_frozen ak.out 1; have cr := blk_frozen ak.out 2) | ((with_reducible refine gate_dst (N := 27) rfl ?_); refine Kd.R_lit (Kd.int .i64) _ 3 ?hg (N := 27) ?hd (xs := ([] : List Int)) (inner := []) (ok := fun _ => True) (okp := fun _ => True) ?hr ?hp (fun _ hk => hk) trivial (Below.refl _ _) (Nat.le_refl _) (by simp) ?_; (case hd => rfl); (case hg => rfl); (case hr => first | (go_simp; done) | (go_simp; rfl)); (case hp => exact (Reps.none _ _)); intro v303 w24 ho25 hb hg_ hnew_; clear hg_ hnew_; (first | rw [← Ny302.out] at ho25 | (simp only [Int.reduceToNat] at ho25; rw [← Ny302.out] at ho25)); have aC := zK (Kd.S_elder' (by (with_reducible repeat (first | apply Kd.S_alloc | apply Kd.S_drewN | apply Kd.S_drew)); exact (Kd.S_mono (Kd.S_far (p := ⟨aj, 2, none⟩) (Kd.S_far (p := ⟨aj, 1, none⟩) (Kd.S_far (p := ⟨aj, 0, none⟩) (Kd.S_mono ay.out (fun k_ hk => (⟨hk, hk.2⟩ : _ ∧ k_ ≠ aj))) (fun _ hk => hk.2) (.int .i64 ((rd_T69 ae ai).f0))) (fun _ hk => hk.2) (.int .i64 ((rd_T69 ae ai).f1))) (fun _ hk => hk.2) (.slice a0 ((rd_T69 ae ai).f2).length a1)) (fun _ h_ => h_.1))) (Kd.R_base ho25) hb); have aD := zK (Kd.R_elder' (by (with_reducible repeat (first | apply Kd.R_alloc | apply Kd.R_drewN | apply Kd.R_drew)); exact (Kd.R_mono (Kd.R_far (p := ⟨aj, 2, none⟩) (Kd.R_far (p := ⟨aj, 1, none⟩) (Kd.R_far (p := ⟨aj, 0, none⟩) (Kd.R_types ab.out ak.out (by decide)) (fun _ hk => hk.2) (.int .i64 ((rd_T69 ae ai).f0))) (fun _ hk => hk.2) (.int .i64 ((rd_T69 ae ai).f1))) (fun _ hk => hk.2) (.slice a0 ((rd_T69 ae ai).f2).length a1)) (fun _ h_ => h_.1))) (Kd.R_base ho25) hb); have aE := zK (Kd.R_lower (Kd.R_new' ho25 (Kd.R_lt (by (with_reducible repeat (first | apply Kd.R_alloc | apply Kd.R_drewN | apply Kd.R_drew)); exact (Kd.R_mono (Kd.R_far (p := ⟨aj, 2, none⟩) (Kd.R_far (p := ⟨aj, 1, none⟩) (Kd.R_far (p := ⟨aj, 0, none⟩) (Kd.R_types ab.out ak.out (by decide)) (fun _ hk => hk.2) (.int .i64 ((rd_T69 ae ai).f0))) (fun _ hk => hk.2) (.int .i64 ((rd_T69 ae ai).f1))) (fun _ hk => hk.2) (.slice a0 ((rd_T69 ae ai).f2).length a1)) (fun _ h_ => h_.1))))) (below_size (zb HB))); have aG := zK (blk_below (g := ad) (o := .cells #[.slice ao ag.length ap, .int .i64 a0_1, .slice (some bg) ae.length aA, .slice az af.length aw] 28 (0, 0)) (by (with_reducible repeat (first | refine zN ?_ _ | refine zD ?_ | refine zA ?_ _)); refine blk_far ?_ aN.out _; (with_reducible repeat (first | refine zN ?_ _ | refine zD ?_ | refine zA ?_ _)); refine blk_far ?_ aN.out _; (with_reducible repeat (first | refine zN ?_ _ | refine zD ?_ | refine zA ?_ _)); refine blk_far ?_ aN.out _; (with_reducible repeat (first | refine zN ?_ _ | refine zD ?_ | refine zA ?_ _)); exact aa.out) hb); have aW := zK (blk_below (g := ah) (o := .cells #[.slice none 0 0, .int .i64 0, .slice none 0 0, .slice none 0 0] 28 (0, 0)) (by (with_reducible repeat (first | refine zN ?_ _ | refine zD ?_ | refine zA ?_ _)); refine blk_far ?_ aQ.out _; (with_reducible repeat (first | refine zN ?_ _ | refine zD ?_ | refine zA ?_ _)); refine blk_far ?_ aQ.out _; (with_reducible repeat (first | refine zN ?_ _ | refine zD ?_ | refine zA ?_ _)); refine blk_far ?_ aQ.out _; (with_reducible repeat (first | refine zN ?_ _ | refine zD ?_ | refine zA ?_ _)); exact ac.out) hb); have aZ := zK (blk_below (g := aj) (o := .cells #[.int .i64 ((rd_T69 ae ai).f0), .int .i64 ((rd_T69 ae ai).f1), .slice a0 ((rd_T69 ae ai).f2).length a1] 69 (0, 0)) (by (with_reducible repeat (first | refine zN ?_ _ | refine zD ?_ | refine zA ?_ _)); refine blk_put (cs := #[.int .i64 ((rd_T69 ae ai).f0), .int .i64 ((rd_T69 ae ai).f1), .slice none 0 0]) ?_ 2 _ rfl; (with_reducible repeat (first | refine zN ?_ _ | refine zD ?_ | refine zA ?_ _)); refine blk_put (cs := #[.int .i64 ((rd_T69 ae ai).f0), .int .i64 0, .slice none 0 0]) ?_ 1 _ rfl; (with_reducible repeat (first | refine zN ?_ _ | refine zD ?_ | refine zA ?_ _)); refine blk_put (cs := #[.int .i64 0, .int .i64 0, .slice none 0 0]) ?_ 0 _ rfl; (with_reducible repeat (first | refine zN ?_ _ | refine zD ?_ | refine zA ?_ _)); exact ak.out) hb); have a7 := zK (below_step (zb HB) hb); clear ay; clear ab; clear aa; clear ac; clear ak; clear HB; have ay := aC; have ab := aD; have bv := aE; have aa := aG; have ac := aW; have ak := aZ; have HB := a7; clear aC aD aE aG aW aZ a7; clear hb ho25; have ct : w24.cell? ⟨aj, 0, none⟩ = some (.int .i64 ((rd_T69 ae ai).f0)) := (blk_cell ak.out 0).trans rfl; have cu : w24.cell? ⟨aj, 1, none⟩ = some (.int .i64 ((rd_T69 ae ai).f1)) := (blk_cell ak.out 1).trans rfl; have cv : w24.cell? ⟨aj, 2, none⟩ = some (.slice a0 ((rd_T69 ae ai).f2).length a1) := (blk_cell ak.out 2).trans rfl; have cw := blk_frozen ak.out 0; have cx := blk_frozen ak.out 1; have cy := blk_frozen ak.out 2) | ((with_reducible refine gate_builtin (b := .append) (xs := #[.tmp 27, .tmp 29]) rfl ?_); at_builtin; refine Kd.R_append_rows (Kd.int .i64) (w0 := w) w.heap.size rfl (.tmp 27) (.tmp 29) 24 3 (.int .i64 0) 8 rfl Try.underlying24 info3 rfl (by decide) (by omega) v303 b5 ((rd_T69 ae ai).f2) _ _ _ (fun k_ => some k_ ≠ (.slice ao ag.length ap : Value).ownBlock) (fun _ => False) rfl rfl ?aO ?aR (fun _ _ h => h) (fun _ h => h.elim) ?aF ?aB ?aS ?aL ?_; (case aR => repeat (first | exact (Kd.C_below cl.out HB.out) | (with_reducible refine Kd.C_alloc ?_ _) | (with_reducible refine Kd.C_drewN ?_ _) | (with_reducible refine Kd.C_drew ?_))); (case aB => exact (zb HB)); (case aF => exact (fun k_ hk => Kd.fresh' (Kd.R_lt (zR ab)) k_ hk)); (case aO => exact (by (with_reducible repeat (first | apply Kd.R_alloc | apply Kd.R_drewN | apply Kd.R_drew)); exact Kd.R_mono bv.out (fun _ hk => hk.2))); (case aS => exact (below_size (zb HB))); (case aL => have := dj.out; omega); intro v306 w27 ho hb hg hat; rw [← Ny305.out] at ho; have aC := zK (Kd.S_after (ok := (fun k_ => some k_ ≠ (.slice ao ag.length ap : Value).ownBlock ∧ k_ ≠ aj)) (zT ay) hg hat); have aD := zK (Kd.R_after (ok := (fun _ => True)) (zR ab) hg hat); have aE := zK (blk_grown (g := ad) (o := .cells #[.slice ao ag.length ap, .int .i64 a0_1, .slice (some bg) ae.length aA, .slice az af.length aw] 28 (0, 0)) (zk aa) hg (Kd.R_ne bv.out aa.out (by decide))); have aG := zK (blk_grown (g := ah) (o := .cells #[.slice none 0 0, .int .i64 0, .slice none 0 0, .slice none 0 0] 28 (0, 0)) (zk ac) hg (Kd.R_ne bv.out ac.out (by decide))); have aW := zK (blk_grown (g := aj) (o := .cells #[.int .i64 ((rd_T69 ae ai).f0), .int .i64 ((rd_T69 ae ai).f1), .slice a0 ((rd_T69 ae ai).f2).length a1] 69 (0, 0)) (zk ak) hg (Kd.R_ne bv.out ak.out (by decide))); have aZ := zK (hb); have a7 := zK (ho); clear ay; clear ab; clear aa; clear ac; clear ak; clear HB; clear bv; have ay := aC; have ab := aD; have aa := aE; have ac := aG; have ak := aW; have HB := aZ; have bh := a7; clear aC aD aE aG aW aZ a7; clear ho hb hg hat; obtain ⟨a8, a9, eo28⟩ := Kd.R_slice bh.out; subst eo28; have cz : w27.cell? ⟨aj, 0, none⟩ = some (.int .i64 ((rd_T69 ae ai).f0)) := (blk_cell ak.out 0).trans rfl; have cA : w27.cell? ⟨aj, 1, none⟩ = some (.int .i64 ((rd_T69 ae ai).f1)) := (blk_cell ak.out 1).trans rfl; have cB : w27.cell? ⟨aj, 2, none⟩ = some (.slice a0 ((rd_T69 ae ai).f2).length a1) := (blk_cell ak.out 2).trans rfl; have cC := blk_frozen ak.out 0; have cD := blk_frozen ak.out 1; have cE := blk_frozen ak.out 2) | ((with_reducible refine gate_store (t := 24) (p := 31) rfl ?_); refine store_event (t := 24) (p := 31) (v := ?vo_w30) (w1 := (w27.setCell ⟨aj, 2, none⟩ (.slice a8 aX.length a9))) ?hg ?ho ?hn ?hr ?_; (case ho => rfl); (case hg => rfl); (case hn => rfl); (case hr => first | (go_simp; done) | (go_simp; rfl)); intro ca hw; have aC : Aside0 (Kd.S k69 69 ca w.heap.size (fun k_ => some k_ ≠ (.slice ao ag.length ap : Value).ownBlock ∧ some k_ ≠ (.slice a8 aX.length a9 : Value).ownBlock ∧ k_ ≠ aj) u3 av) := ⟨(by rw [hw]; exact (by (with_reducible repeat (first | apply Kd.S_alloc | apply Kd.S_drewN | apply Kd.S_drew)); exact Kd.S_mono (Kd.S_far (p := ⟨aj, 2, none⟩) (Kd.S_mono ay.out (fun k_ hk => (⟨hk, hk.1.2⟩ : _ ∧ k_ ≠ aj))) (fun _ hk => hk.2) (.slice a8 aX.length a9)) (fun _ hk => ⟨hk.1.1.1, ⟨hk.1.2, hk.1.1.2⟩⟩)))⟩; have aD : Aside0 (Kd.R (Kd.int .i64) 3 ca w.heap.size (fun k_ => some k_ ≠ (.slice a8 aX.length a9 : Value).ownBlock) (.slice ao ag.length ap) ag) := ⟨(by rw [hw]; exact (by (with_reducible repeat (first | apply Kd.R_alloc | apply Kd.R_drewN | apply Kd.R_drew)); exact Kd.R_mono (Kd.R_far (p := ⟨aj, 2, none⟩) (Kd.R_types ab.out ak.out (by decide)) (fun _ hk => hk.2) (.slice a8 aX.length a9)) (fun _ hk => hk.1.2)))⟩; have aE : Aside0 (Kd.R (Kd.int .i64) 3 ca w.heap.size (fun k_ => some k_ ≠ (.slice ao ag.length ap : Value).ownBlock) (.slice a8 aX.length a9) aX) := ⟨(by rw [hw]; exact (by (with_reducible repeat (first | apply Kd.R_alloc | apply Kd.R_drewN | apply Kd.R_drew)); exact Kd.R_mono (Kd.R_far (p := ⟨aj, 2, none⟩) (Kd.R_types bh.out ak.out (by decide)) (fun _ hk => hk.2) (.slice a8 aX.length a9)) (fun _ hk => hk.1)))⟩; have aG : Aside0 (ca.heap[ad]? = some (.cells #[.slice ao ag.length ap, .int .i64 a0_1, .slice (some bg) ae.length aA, .slice az af.length aw] 28 (0, 0))) := ⟨(by rw [hw]; exact (by (with_reducible repeat (first | refine zN ?_ _ | refine zD ?_ | refine zA ?_ _)); refine blk_far ?_ aN.out _; (with_reducible repeat (first | refine zN ?_ _ | refine zD ?_ | refine zA ?_ _)); exact aa.out))⟩; have aW : Aside0 (ca.heap[ah]? = some (.cells #[.slice none 0 0, .int .i64 0, .slice none 0 0, .slice none 0 0] 28 (0, 0))) := ⟨(by rw [hw]; exact (by (with_reducible repeat (first | refine zN ?_ _ | refine zD ?_ | refine zA ?_ _)); refine blk_far ?_ aQ.out _; (with_reducible repeat (first | refine zN ?_ _ | refine zD ?_ | refine zA ?_ _)); exact ac.out))⟩; have aZ : Aside0 (ca.heap[aj]? = some (.cells #[.int .i64 ((rd_T69 ae ai).f0), .int .i64 ((rd_T69 ae ai).f1), .slice a8 aX.length a9] 69 (0, 0))) := ⟨(by rw [hw]; exact (by (with_reducible repeat (first | refine zN ?_ _ | refine zD ?_ | refine zA ?_ _)); refine blk_put (cs := #[.int .i64 ((rd_T69 ae ai).f0), .int .i64 ((rd_T69 ae ai).f1), .slice a0 ((rd_T69 ae ai).f2).length a1]) ?_ 2 _ rfl; (with_reducible repeat (first | refine zN ?_ _ | refine zD ?_ | refine zA ?_ _)); exact ak.out))⟩; have a7 : Aside0 (Below w.heap.size w ca) := ⟨(by rw [hw]; exact (zb HB))⟩; clear hw; clear ay; clear ab; clear bh; clear aa; clear ac; clear ak; clear HB; have ay := aC; have ab := aD; have bh := aE; have aa := aG; have ac := aW; have ak := aZ; have HB := a7; clear aC aD aE aG aW aZ a7; have cF : ca.cell? ⟨aj, 0, none⟩ = some (.int .i64 ((rd_T69 ae ai).f0)) := (blk_cell ak.out 0).trans rfl; have cG : ca.cell? ⟨aj, 1, none⟩ = some (.int .i64 ((rd_T69 ae ai).f1)) := (blk_cell ak.out 1).trans rfl; have cH : ca.cell? ⟨aj, 2, none⟩ = some (.slice a8 aX.length a9) := (blk_cell ak.out 2).trans rfl; have cI := blk_frozen ak.out 0; have cJ := blk_frozen ak.out 1; have cK := blk_frozen ak.out 2) | ((with_reducible refine gate_builtin (b := .append) (xs := #[.tmp 32, .tmp 34]) rfl ?_); at_builtin; refine Kd.S_append k69 (w0 := w) w.heap.size rfl (.tmp 32) (.tmp 34) 25 69 (.agg #[(.int .i64 0), (.int .i64 0), (.slice none 0 0)]) 40 rfl Try.underlying25 info69 rfl (by decide) (by omega) u3 av (⟨(rd_T69 ae ai).f0, (rd_T69 ae ai).f1, aX⟩ : S69) [.int .i64 ((rd_T69 ae ai).f0), .int .i64 ((rd_T69 ae ai).f1), .slice a8 aX.length a9] (fun k_ => some k_ ≠ (.slice ao ag.length ap : Value).ownBlock ∧ k_ ≠ aj) (fun k_ => some k_ = (.slice a8 aX.length a9 : Value).ownBlock) rfl rfl ?aP (fun k_ hk_ => ((Kd.R_mono (ok' := fun k_ => ((fun k_ => some k_ ≠ (.slice ao ag.length ap : Value).ownBlock ∧ k_ ≠ aj)) k_ ∧ some k_ ≠ (u3 : Value).ownBlock) (Kd.R_types (Kd.R_apart' (bh.out) (Kd.S_typed ay.out) (by decide)) ak.out (by decide)) (fun k_ hk => ⟨⟨hk.1.1, hk.2⟩, hk.1.2⟩))).1 k_ hk_.symm) ?aF ?aO ?aB ?aS ?aL ?_; (case aP => exact k69_mkM _ _ _ (⟨(rd_T69 ae ai).f0, (rd_T69 ae ai).f1, aX⟩ : S69) (Kd.R_mono (Kd.R_tight rfl (Kd.R_mono (ok' := fun k_ => ((fun k_ => some k_ ≠ (.slice ao ag.length ap : Value).ownBlock ∧ k_ ≠ aj)) k_ ∧ some k_ ≠ (u3 : Value).ownBlock) (Kd.R_types (Kd.R_apart' (bh.out) (Kd.S_typed ay.out) (by decide)) ak.out (by decide)) (fun k_ hk => ⟨⟨hk.1.1, hk.2⟩, hk.1.2⟩))) (fun _ h_ => h_))); (case aB => exact (zb HB)); (case aF => exact (fun k_ hk => ⟨Kd.fresh' (Kd.R_lt (zR ab)) k_ hk, Kd.freshB (g := aj) (o := .cells #[.int .i64 ((rd_T69 ae ai).f0), .int .i64 ((rd_T69 ae ai).f1), .slice a8 aX.length a9] 69 (0, 0)) (zk ak) k_ hk⟩)); (case aO => exact (by (with_reducible repeat (first | apply Kd.S_alloc | apply Kd.S_drewN | apply Kd.S_drew)); exact Kd.S_mono ay.out (fun k_ hk => ⟨⟨hk.1, hk.2.2⟩, fun e_ => hk.2.1 e_⟩))); (case aS => exact (below_size (zb HB))); (case aL => have := dl.out; omega); intro v309 w32 ho hb hg hat; rw [← Ny308.out] at ho; have aC := zK (Kd.R_over' (zR ab) (Kd.S_typed (zT ay)) (by decide) hg); have aD := zK (blk_grown (g := ad) (o := .cells #[.slice ao ag.length ap, .int .i64 a0_1, .slice (some bg) ae.length aA, .slice az af.length aw] 28 (0, 0)) (zk aa) hg (Kd.S_ne ay.out aa.out (by decide))); have aE := zK (blk_grown (g := ah) (o := .cells #[.slice none 0 0, .int .i64 0, .slice none 0 0, .slice none 0 0] 28 (0, 0)) (zk ac) hg (Kd.S_ne ay.out ac.out (by decide))); have aG := zK (blk_grown (g := aj) (o := .cells #[.int .i64 ((rd_T69 ae ai).f0), .int .i64 ((rd_T69 ae ai).f1), .slice a8 aX.length a9] 69 (0, 0)) (zk ak) hg (Kd.S_away ay.out (fun _ hk => hk.2.2))); have aW := zK (hb); have aZ := zK (ho); clear ab; clear aa; clear ac; clear ak; clear HB; clear ay; clear bh; have ab := aC; have aa := aD; have ac := aE; have ak := aG; have HB := aW; have dq := aZ; clear aC aD aE aG aW aZ; clear ho hb hg hat))
        go_roundg k1
        case measure => have := HK1.out; omega
        case rel => exact ⟨(dm), (wrap64 (ai + 1)), (by first | rfl | (simp; done) | (simp [*]; done)), H', ⟨by have := HK1.out; omega⟩, ⟨by (with_reducible repeat (first | apply Kd.S_alloc | apply Kd.S_drewN | apply Kd.S_drew)); exact Kd.S_mono dq.out (fun _ hk => hk.1)⟩, ⟨by (with_reducible repeat (first | apply Kd.R_alloc | apply Kd.R_drewN | apply Kd.R_drew)); exact Kd.R_mono ab.out (fun _ hk => trivial)⟩, ⟨zk aa⟩, ⟨zk ac⟩, ⟨zb HB⟩⟩
       ·rw [if_neg dk] at H
        exact absurd H (by simp)
      ·rw [if_neg di] at H
       exact absurd H (by simp)
     ·rw [if_neg dg] at H
      exact absurd H (by simp)
    ·rw [if_neg cY] at H
     have cX : decide (ai < (ae.length : Int)) = false := decide_eq_false cY
     clear cY
     obtain ⟨dr, bw⟩ : ∃ y_ : List (S74), y_ = (([] : List (S74))) := ⟨_, rfl⟩
     replace H : (spec_l05Copy.l1 k1 dr 0 ag a0_1 av af) = some (r1, r2, r3, r4) := by first | (rw [bw]; with_reducible exact H) | (have H2_ := (Option.bind_some _ _).symm.trans H; rw [bw]; with_reducible exact H2_) | (have H2_ := (Option.bind_some _ _).symm.trans H; with_reducible exact H2_) | with_reducible exact H | (rw [bw]; exact H) | exact H
     have Ny311 := zK bw; clear bw; have H' := zK H; clear H; have hnb33 := aM.out; have hnc33 := ax.out
     have cL : wr.cell? ⟨ad, 0, none⟩ = some (.slice ao ag.length ap) := (blk_cell aa.out 0).trans rfl
     have cM : wr.cell? ⟨ad, 1, none⟩ = some (.int .i64 a0_1) := (blk_cell aa.out 1).trans rfl
     have cN : wr.cell? ⟨ad, 2, none⟩ = some (.slice a4 ae.length aA) := (blk_cell aa.out 2).trans rfl
     have cO : wr.cell? ⟨ad, 3, none⟩ = some (.slice az af.length aw) := (blk_cell aa.out 3).trans rfl
     have cP := blk_frozen aa.out 0; have cQ := blk_frozen aa.out 1; have cR := blk_frozen aa.out 2; have cS := blk_frozen aa.out 3
     obtain ⟨aJ, aK, eo35⟩ := Kd.S_slice ay.out
     subst eo35
     obtain ⟨wN_, hwN_⟩ : ∃ w_ : World, w_ = wr := ⟨_, rfl⟩
     have HN := zK (show Below 0 wN_ wr from by rw [hwN_]; exact Below.refl _ _)
     have HW_N := zK (show w.heap.size ≤ wN_.heap.size from by rw [hwN_]; exact below_size HB.out)
     have hch_ := zK (Kd.S_mono (ok' := fun k_ => (fun k_ => some k_ ≠ ((.slice ao ag.length ap) : Value).ownBlock) k_ ∧ k_ < wN_.heap.size) (Kd.S_bound ay.out) (fun k_ hk_ => ⟨by first | exact hk_.1 | exact hk_.1.1, by rw [hwN_]; exact hk_.2.2.1⟩))
     clear ay hwN_; have ay := hch_; clear hch_
     go_wp2_with (first | ((with_reducible refine gate_dst (N := 38) rfl ?_); refine Kd.S_lit k74 _ 74 ?hg (N := 38) ?hd (xs := ([] : List (S74))) (inner := []) (ok := fun _ => True) (okp := fun _ => True) ?hr ?hp (fun _ hk => hk) trivial (Below.refl _ _) (Nat.le_refl _) (by simp) ?_; (case hd => rfl); (case hg => rfl); (case hr => first | (go_simp; done) | (go_simp; rfl)); (case hp => exact (Reps.none _ _)); intro v312 w36 ho37 hb hg_ hnew_; clear hg_ hnew_; (first | rw [← Ny311.out] at ho37 | (simp only [Int.reduceToNat] at ho37; rw [← Ny311.out] at ho37)); have aC := zK (Kd.S_below (by (with_reducible repeat (first | apply Kd.S_alloc | apply Kd.S_drewN | apply Kd.S_drew)); exact (Kd.S_mono (Kd.S_far (p := ⟨ad, 2, none⟩) (Kd.S_types ay.out aa.out (by decide)) (fun _ hk => hk.2) (.slice aJ av.length aK)) (fun _ h_ => h_.1))) hb); have aD := zK (Kd.R_below (by (with_reducible repeat (first | apply Kd.R_alloc | apply Kd.R_drewN | apply Kd.R_drew)); exact (Kd.R_mono (Kd.R_far (p := ⟨ad, 2, none⟩) (Kd.R_types ab.out aa.out (by decide)) (fun _ hk => hk.2) (.slice aJ av.length aK)) (fun _ h_ => h_.1))) hb); have aE := zK (Kd.S_lower (Kd.S_new' ho37 (Kd.R_lt (by (with_reducible repeat (first | apply Kd.R_alloc | apply Kd.R_drewN | apply Kd.R_drew)); exact (Kd.R_mono (Kd.R_far (p := ⟨ad, 2, none⟩) (Kd.R_types ab.out aa.out (by decide)) (fun _ hk => hk.2) (.slice aJ av.length aK)) (fun _ h_ => h_.1))))) (size0 (zb HN))); have aG := zK (blk_below (g := ad) (o := .cells #[.slice ao ag.length ap, .int .i64 a0_1, .slice aJ av.length aK, .slice az af.length aw] 28 (0, 0)) (by (with_reducible repeat (first | refine zN ?_ _ | refine zD ?_ | refine zA ?_ _)); refine blk_put (cs := #[.slice ao ag.length ap, .int .i64 a0_1, .slice a4 ae.length aA, .slice az af.length aw]) ?_ 2 _ rfl; (with_reducible repeat (first | refine zN ?_ _ | refine zD ?_ | refine zA ?_ _)); exact aa.out) hb); have aW := zK (blk_below (g := ah) (o := .cells #[.slice none 0 0, .int .i64 0, .slice none 0 0, .slice none 0 0] 28 (0, 0)) (by (with_reducible repeat (first | refine zN ?_ _ | refine zD ?_ | refine zA ?_ _)); refine blk_far ?_ ax.out _; (with_reducible repeat (first | refine zN ?_ _ | refine zD ?_ | refine zA ?_ _)); exact ac.out) hb); have aZ := zK (below_step (zb HB) hb); have nN_ := zK (below_step0 (zb HN) hb); clear ay; clear ab; clear aa; clear ac; clear HB; clear HN; have ay := aC; have ab := aD; have ds := aE; have aa := aG; have ac := aW; have HB := aZ; have HN := nN_; clear nN_; clear aC aD aE aG aW aZ; clear hb ho37))
     go_loopg [6, 7] k1 (fun kq v6 v7 w' => ∃ (aY : List (S74)) (aq : Int), v7 = .int .i64 aq ∧ Aside0 (spec_l05Copy.l1 kq aY aq ag a0_1 av af = some (r1, r2, r3, r4)) ∧ Aside0 (kq ≤ k1) ∧ Aside0 (Kd.S k74 74 w' wN_.heap.size (fun k_ => some k_ ≠ ((.slice ao ag.length ap) : Value).ownBlock) v6 aY) ∧ Aside0 (Kd.R (Kd.int .i64) 3 w' w.heap.size (fun _ => True) (.slice ao ag.length ap) ag) ∧ Aside0 (Kd.S k69 69 w' w.heap.size (fun k_ => some k_ ≠ ((.slice ao ag.length ap) : Value).ownBlock ∧ k_ < wN_.heap.size) (.slice aJ av.length aK) av) ∧ Aside0 (w'.heap[ad]? = some (.cells #[(.slice ao ag.length ap), .int .i64 a0_1, (.slice aJ av.length aK), (.slice az af.length aw)] 28 (0, 0))) ∧ Aside0 (w'.heap[ah]? = some (.cells #[(.slice none 0 0), .int .i64 0, (.slice none 0 0), (.slice none 0 0)] 28 (0, 0))) ∧ Aside0 (Below w.heap.size w w') ∧ Aside0 (Below 0 wN_ w'))
     case atStart => exact ⟨(dr), (0), (by first | rfl | (simp; done) | (simp [*]; done)), H', ⟨Nat.le_refl _⟩, ⟨by (with_reducible repeat (first | apply Kd.S_alloc | apply Kd.S_drewN | apply Kd.S_drew)); exact Kd.S_mono ds.out (fun _ hk => hk.2)⟩, ⟨zR ab⟩, ⟨zT ay⟩, ⟨zk aa⟩, ⟨zk ac⟩, ⟨zb HB⟩, ⟨zb HN⟩⟩
     case round =>
      clear H'
      try clear c1
      try clear c2
      try clear p2
      try clear c3
      try clear p3
      try clear q3
      try clear hx3
      try clear c6
      try clear p6
      try clear c7
      try clear cY
      try clear cX
      try clear dg
      try clear dh
      try clear di
      try clear dk
      try clear c18
      try clear c21
      try clear c22
      try clear c30
      try clear p30
      try clear q30
      try clear hx30
      try clear c33
      try clear bG
      try clear bH
      try clear bI
      try clear bJ
      try clear cb
      try clear cc
      try clear cd
      try clear ce
      try clear cm
      try clear cn
      try clear co
      try clear ct
      try clear cu
      try clear cv
      try clear cz
      try clear cA
      try clear cB
      try clear cF
      try clear cG
      try clear cH
      try clear cL
      try clear cM
      try clear cN
      try clear cO
      try clear bX
      try clear bY
      try clear bZ
      try clear b0
      try clear bK
      try clear bL
      try clear bM
      try clear bN
      try clear cf
      try clear cg
      try clear ch
      try clear ci
      try clear cp
      try clear cq
      try clear cr
      try clear cw
      try clear cx
      try clear cy
      try clear cC
      try clear cD
      try clear cE
      try clear cI
      try clear cJ
      try clear cK
      try clear cP
      try clear cQ
      try clear cR
      try clear cS
      try clear b1
      try clear b2
      try clear b3
      try clear b4
      try clear bb
      try clear bc
      try clear bd
      try clear p2
      try clear cj
      try clear ck
      obtain ⟨aY, aq, rfl, HA, HK2, aH, ab, al, aa, ac, HB, HN⟩ := hrel
      cases gk with
      | zero => exact absurd HA.out (by simp [spec_l05Copy.l1])
      | succ k2 =>
       have H := HA.out; clear HA
       simp only [spec_l05Copy.l1] at H
       by_cases da : aq < (af.length : Int)
       ·rw [if_pos da] at H
        have dt : decide (aq < (af.length : Int)) = true := decide_eq_true da
        clear da
        by_cases c39 : 0 ≤ aq
        ·rw [if_pos c39] at H
         have c39b0 : decide (0 ≤ aq) = true := decide_eq_true c39
         clear c39
         obtain ⟨b8, bx⟩ : ∃ y_ : List Int, y_ = (([] : List Int)) := ⟨_, rfl⟩
         replace H : (if b8.length + ((rd_T74 af aq).f1).length < 17592186044416 then (if aY.length < 4398046511104 then (spec_l05Copy.l1 k2 (aY ++ [(⟨(rd_T74 af aq).f0, (b8 ++ ((rd_T74 af aq).f1))⟩ : S74)]) (wrap64 (aq + 1)) ag a0_1 av af) else (none)) else (none)) = some (r1, r2, r3, r4) := by first | (rw [bx]; with_reducible exact H) | (have H2_ := (Option.bind_some _ _).symm.trans H; rw [bx]; with_reducible exact H2_) | (have H2_ := (Option.bind_some _ _).symm.trans H; with_reducible exact H2_) | with_reducible exact H | (rw [bx]; exact H) | exact H
         have Ny316 := zK bx; clear bx
         by_cases c40 : b8.length + ((rd_T74 af aq).f1).length < 17592186044416
         ·rw [if_pos c40] at H
          have du := zK c40; clear c40
          obtain ⟨aT, bz⟩ : ∃ y_ : List Int, y_ = (b8 ++ ((rd_T74 af aq).f1)) := ⟨_, rfl⟩
          replace H : (if aY.length < 4398046511104 then (spec_l05Copy.l1 k2 (aY ++ [(⟨(rd_T74 af aq).f0, aT⟩ : S74)]) (wrap64 (aq + 1)) ag a0_1 av af) else (none)) = some (r1, r2, r3, r4) := by first | (rw [bz]; with_reducible exact H) | (have H2_ := (Option.bind_some _ _).symm.trans H; rw [bz]; with_reducible exact H2_) | (have H2_ := (Option.bind_some _ _).symm.trans H; with_reducible exact H2_) | with_reducible exact H | (rw [bz]; exact H) | exact H
          have Ny319 := zK bz; clear bz
          by_cases c41 : aY.length < 4398046511104
          ·rw [if_pos c41] at H
           have dv := zK c41; clear c41
           obtain ⟨dw, bA⟩ : ∃ y_ : List (S74), y_ = (aY ++ [(⟨(rd_T74 af aq).f0, aT⟩ : S74)]) := ⟨_, rfl⟩
           replace H : (spec_l05Copy.l1 k2 dw (wrap64 (aq + 1)) ag a0_1 av af) = some (r1, r2, r3, r4) := by first | (rw [bA]; with_reducible exact H) | (have H2_ := (Option.bind_some _ _).symm.trans H; rw [bA]; with_reducible exact H2_) | (have H2_ := (Option.bind_some _ _).symm.trans H; with_reducible exact H2_) | with_reducible exact H | (rw [bA]; exact H) | exact H
           have Ny322 := zK bA; clear bA; have H' := zK H; clear H; have hnb42 := aM.out; have hnc42 := ax.out
           have hcz43_0 : wr.cell? ⟨ad, 0, none⟩ = some (.slice ao ag.length ap) := (blk_cell aa.out 0).trans rfl
           have hcz43_1 : wr.cell? ⟨ad, 1, none⟩ = some (.int .i64 a0_1) := (blk_cell aa.out 1).trans rfl
           have hcz43_2 : wr.cell? ⟨ad, 2, none⟩ = some (.slice aJ av.length aK) := (blk_cell aa.out 2).trans rfl
           have hcz43_3 : wr.cell? ⟨ad, 3, none⟩ = some (.slice az af.length aw) := (blk_cell aa.out 3).trans rfl
           have hfz43_0 := blk_frozen aa.out 0; have hfz43_1 := blk_frozen aa.out 1; have hfz43_2 := blk_frozen aa.out 2; have hfz43_3 := blk_frozen aa.out 3
           have cZ : 0 ≤ (aq : Int) := zd
           have c0 : aq < (af.length : Int) := zd
           obtain ⟨bi, aU, aV, e314, bl, bm, bR, bS⟩ := at_T74 dd.out aq cZ c0
           cases e314
           replace bl := (HB.out.cell (World.block_lt_of_cell? w _ bl)).trans bl
           replace bm := (HB.out.cell (World.block_lt_of_cell? w _ bm)).trans bm
           have cT := zK bS; have HC314_1 := zK bR; clear bS bR; replace cZ := eq_true cZ; replace c0 := eq_true c0
           go_wp2_with (first | ((with_reducible refine gate_dst (N := 8) rfl ?_); refine box_event ?hg (N := 8) ?hd (cs := #[.int .i64 0, .slice none 0 0]) (t := 74) ?hr ?_; (case hd => rfl); (case hg => rfl); (case hr => first | (go_simp; done) | (go_simp; rfl)); intro am hg w44 hbox hb; have aC := zK (Kd.S_below (Kd.S_elderB (zT aH) am (Nat.le_of_eq hg.symm)) hb); have aD := zK (Kd.R_below (zR ab) hb); have aE := zK (Kd.S_below (zT al) hb); have aG := zK (blk_below (g := ad) (o := .cells #[.slice ao ag.length ap, .int .i64 a0_1, .slice aJ av.length aK, .slice (some bi) af.length aw] 28 (0, 0)) (zk aa) hb); have aW := zK (blk_below (g := ah) (o := .cells #[.slice none 0 0, .int .i64 0, .slice none 0 0, .slice none 0 0] 28 (0, 0)) (zk ac) hb); have aZ := zK (below_step (zb HB) hb); have nN_ := zK (below_step0 (zb HN) hb); have a7 := zK (hbox); have bQ := zK ((by rw [hg]; exact (below_size (zb HB)) : w.heap.size ≤ am)); have dn := zK ((by rw [hg]; exact (below_size (zb HB)) : w.heap.size ≤ am)); have dp := zK ((by rw [hg]; exact Nat.ne_of_lt (blk_lt (g := ad) (o := .cells #[.slice ao ag.length ap, .int .i64 a0_1, .slice aJ av.length aK, .slice (some bi) af.length aw] 28 (0, 0)) (zk aa)) : ad ≠ am)); have b6 := zK ((by rw [hg]; exact Nat.ne_of_gt (blk_lt (g := ad) (o := .cells #[.slice ao ag.length ap, .int .i64 a0_1, .slice aJ av.length aK, .slice (some bi) af.length aw] 28 (0, 0)) (zk aa)) : am ≠ ad)); have b7 := zK ((by rw [hg]; exact Nat.ne_of_lt (blk_lt (g := ah) (o := .cells #[.slice none 0 0, .int .i64 0, .slice none 0 0, .slice none 0 0] 28 (0, 0)) (zk ac)) : ah ≠ am)); have dx := zK ((by rw [hg]; exact Nat.ne_of_gt (blk_lt (g := ah) (o := .cells #[.slice none 0 0, .int .i64 0, .slice none 0 0, .slice none 0 0] 28 (0, 0)) (zk ac)) : am ≠ ah)); clear aH; clear ab; clear al; clear aa; clear ac; clear HB; clear HN; have aH := aC; have ab := aD; have al := aE; have aa := aG; have ac := aW; have HB := aZ; have HN := nN_; clear nN_; have an := a7; have GW315 := bQ; have bB := dn; have a2 := dp; have bV := b6; have a3 := b7; have bW := dx; clear aC aD aE aG aW aZ a7 bQ dn dp b6 b7 dx; clear hb hbox hg; have hnb45 := bV.out; have hnc45 := a2.out; have hnb46 := bW.out; have hnc46 := a3.out; have hcz47_0 : w44.cell? ⟨am, 0, none⟩ = some (.int .i64 0) := (blk_cell an.out 0).trans rfl; have hcz47_1 : w44.cell? ⟨am, 1, none⟩ = some (.slice none 0 0) := (blk_cell an.out 1).trans rfl; have hfz47_0 := blk_frozen an.out 0; have hfz47_1 := blk_frozen an.out 1) | ((with_reducible refine gate_dst (N := 51) rfl ?_); refine Kd.R_lit (Kd.int .i64) _ 3 ?hg (N := 51) ?hd (xs := ([] : List Int)) (inner := []) (ok := fun _ => True) (okp := fun _ => True) ?hr ?hp (fun _ hk => hk) trivial (Below.refl _ _) (Nat.le_refl _) (by simp) ?_; (case hd => rfl); (case hg => rfl); (case hr => first | (go_simp; done) | (go_simp; rfl)); (case hp => exact (Reps.none _ _)); intro v317 w48 ho49 hb hg_ hnew_; clear hg_ hnew_; (first | rw [← Ny316.out] at ho49 | (simp only [Int.reduceToNat] at ho49; rw [← Ny316.out] at ho49)); have aC := zK (Kd.S_elder' (by (with_reducible repeat (first | apply Kd.S_alloc | apply Kd.S_drewN | apply Kd.S_drew)); exact (Kd.S_mono (Kd.S_far (p := ⟨am, 1, none⟩) (Kd.S_far (p := ⟨am, 0, none⟩) (Kd.S_mono aH.out (fun k_ hk => (⟨hk, hk.2⟩ : _ ∧ k_ ≠ am))) (fun _ hk => hk.2) (.int .i64 ((rd_T74 af aq).f0))) (fun _ hk => hk.2) (.slice aU ((rd_T74 af aq).f1).length aV)) (fun _ h_ => h_.1))) (Kd.R_base ho49) hb); have aD := zK (Kd.R_elder' (by (with_reducible repeat (first | apply Kd.R_alloc | apply Kd.R_drewN | apply Kd.R_drew)); exact (Kd.R_mono (Kd.R_far (p := ⟨am, 1, none⟩) (Kd.R_far (p := ⟨am, 0, none⟩) (Kd.R_types ab.out an.out (by decide)) (fun _ hk => hk.2) (.int .i64 ((rd_T74 af aq).f0))) (fun _ hk => hk.2) (.slice aU ((rd_T74 af aq).f1).length aV)) (fun _ h_ => h_.1))) (Kd.R_base ho49) hb); have aE := zK (Kd.S_elder' (by (with_reducible repeat (first | apply Kd.S_alloc | apply Kd.S_drewN | apply Kd.S_drew)); exact (Kd.S_mono (Kd.S_far (p := ⟨am, 1, none⟩) (Kd.S_far (p := ⟨am, 0, none⟩) (Kd.S_types al.out an.out (by decide)) (fun _ hk => hk.2) (.int .i64 ((rd_T74 af aq).f0))) (fun _ hk => hk.2) (.slice aU ((rd_T74 af aq).f1).length aV)) (fun _ h_ => h_.1))) (Kd.R_base ho49) hb); have aG := zK (Kd.R_lower (Kd.R_new' ho49 (Kd.R_lt (by (with_reducible repeat (first | apply Kd.R_alloc | apply Kd.R_drewN | apply Kd.R_drew)); exact (Kd.R_mono (Kd.R_far (p := ⟨am, 1, none⟩) (Kd.R_far (p := ⟨am, 0, none⟩) (Kd.R_types ab.out an.out (by decide)) (fun _ hk => hk.2) (.int .i64 ((rd_T74 af aq).f0))) (fun _ hk => hk.2) (.slice aU ((rd_T74 af aq).f1).length aV)) (fun _ h_ => h_.1))))) (size0 (zb HN))); have aW := zK (blk_below (g := ad) (o := .cells #[.slice ao ag.length ap, .int .i64 a0_1, .slice aJ av.length aK, .slice (some bi) af.length aw] 28 (0, 0)) (by (with_reducible repeat (first | refine zN ?_ _ | refine zD ?_ | refine zA ?_ _)); refine blk_far ?_ a2.out _; (with_reducible repeat (first | refine zN ?_ _ | refine zD ?_ | refine zA ?_ _)); refine blk_far ?_ a2.out _; (with_reducible repeat (first | refine zN ?_ _ | refine zD ?_ | refine zA ?_ _)); exact aa.out) hb); have aZ := zK (blk_below (g := ah) (o := .cells #[.slice none 0 0, .int .i64 0, .slice none 0 0, .slice none 0 0] 28 (0, 0)) (by (with_reducible repeat (first | refine zN ?_ _ | refine zD ?_ | refine zA ?_ _)); refine blk_far ?_ a3.out _; (with_reducible repeat (first | refine zN ?_ _ | refine zD ?_ | refine zA ?_ _)); refine blk_far ?_ a3.out _; (with_reducible repeat (first | refine zN ?_ _ | refine zD ?_ | refine zA ?_ _)); exact ac.out) hb); have a7 := zK (blk_below (g := am) (o := .cells #[.int .i64 ((rd_T74 af aq).f0), .slice aU ((rd_T74 af aq).f1).length aV] 74 (0, 0)) (by (with_reducible repeat (first | refine zN ?_ _ | refine zD ?_ | refine zA ?_ _)); refine blk_put (cs := #[.int .i64 ((rd_T74 af aq).f0), .slice none 0 0]) ?_ 1 _ rfl; (with_reducible repeat (first | refine zN ?_ _ | refine zD ?_ | refine zA ?_ _)); refine blk_put (cs := #[.int .i64 0, .slice none 0 0]) ?_ 0 _ rfl; (with_reducible repeat (first | refine zN ?_ _ | refine zD ?_ | refine zA ?_ _)); exact an.out) hb); have bQ := zK (below_step (zb HB) hb); have nN_ := zK (below_step0 (zb HN) hb); clear aH; clear ab; clear al; clear aa; clear ac; clear an; clear HB; clear HN; have aH := aC; have ab := aD; have al := aE; have bC := aG; have aa := aW; have ac := aZ; have an := a7; have HB := bQ; have HN := nN_; clear nN_; clear aC aD aE aG aW aZ a7 bQ; clear hb ho49; have hcz50_0 : w48.cell? ⟨am, 0, none⟩ = some (.int .i64 ((rd_T74 af aq).f0)) := (blk_cell an.out 0).trans rfl; have hcz50_1 : w48.cell? ⟨am, 1, none⟩ = some (.slice aU ((rd_T74 af aq).f1).length aV) := (blk_cell an.out 1).trans rfl; have hfz50_0 := blk_frozen an.out 0; have hfz50_1 := blk_frozen an.out 1) | ((with_reducible refine gate_builtin (b := .append) (xs := #[.tmp 51, .tmp 53]) rfl ?_); at_builtin; refine Kd.R_append_rows (Kd.int .i64) (w0 := ?aW0) wN_.heap.size rfl (.tmp 51) (.tmp 53) 24 3 (.int .i64 0) 8 rfl Try.underlying24 info3 rfl (by decide) (by omega) v317 b8 ((rd_T74 af aq).f1) _ _ _ (fun k_ => some k_ ≠ (.slice ao ag.length ap : Value).ownBlock) (fun _ => False) rfl rfl ?aO ?aR (fun _ _ h => h) (fun _ h => h.elim) ?aF ?aB ?aS ?aL ?_; (case aR => repeat (first | exact (Kd.C_below cT.out HB.out) | (with_reducible refine Kd.C_alloc ?_ _) | (with_reducible refine Kd.C_drewN ?_ _) | (with_reducible refine Kd.C_drew ?_))); (case aB => exact Below.refl _ _); (case aF => exact (fun k_ hk => Kd.fresh' (Kd.R_lt (zR ab)) k_ hk)); (case aO => exact (by (with_reducible repeat (first | apply Kd.R_alloc | apply Kd.R_drewN | apply Kd.R_drew)); exact Kd.R_mono bC.out (fun _ hk => hk.2))); (case aS => exact size0 (zb HN)); (case aL => have := du.out; omega); intro v320 w51 ho hb hg hat; rw [← Ny319.out] at ho; have aC := zK (Kd.S_after (ok := (fun k_ => some k_ ≠ (.slice ao ag.length ap : Value).ownBlock ∧ k_ ≠ am)) (zT aH) hg hat); have aD := zK (Kd.R_after (ok := (fun _ => True)) (zR ab) hg hat); have aE := zK (Kd.S_after (ok := (fun k_ => some k_ ≠ (.slice ao ag.length ap : Value).ownBlock ∧ k_ < wN_.heap.size)) (zT al) hg hat); have aG := zK (blk_grown (g := ad) (o := .cells #[.slice ao ag.length ap, .int .i64 a0_1, .slice aJ av.length aK, .slice (some bi) af.length aw] 28 (0, 0)) (zk aa) hg (Kd.R_ne bC.out aa.out (by decide))); have aW := zK (blk_grown (g := ah) (o := .cells #[.slice none 0 0, .int .i64 0, .slice none 0 0, .slice none 0 0] 28 (0, 0)) (zk ac) hg (Kd.R_ne bC.out ac.out (by decide))); have aZ := zK (blk_grown (g := am) (o := .cells #[.int .i64 ((rd_T74 af aq).f0), .slice aU ((rd_T74 af aq).f1).length aV] 74 (0, 0)) (zk an) hg (Kd.R_ne bC.out an.out (by decide))); have a7 := zK (below_via (n := w.heap.size) (w := w) (zb HB) HW_N.out hb); have nN_ := zK (below_via (n := 0) (w := wN_) (zb HN) (Nat.zero_le _) hb); have bQ := zK (ho); clear aH; clear ab; clear al; clear aa; clear ac; clear an; clear HB; clear HN; clear bC; have aH := aC; have ab := aD; have al := aE; have aa := aG; have ac := aW; have an := aZ; have HB := a7; have HN := nN_; clear nN_; have bj := bQ; clear aC aD aE aG aW aZ a7 bQ; clear ho hb hg hat; obtain ⟨a5, a6, eo52⟩ := Kd.R_slice bj.out; subst eo52; have hcz53_0 : w51.cell? ⟨am, 0, none⟩ = some (.int .i64 ((rd_T74 af aq).f0)) := (blk_cell an.out 0).trans rfl; have hcz53_1 : w51.cell? ⟨am, 1, none⟩ = some (.slice aU ((rd_T74 af aq).f1).length aV) := (blk_cell an.out 1).trans rfl; have hfz53_0 := blk_frozen an.out 0; have hfz53_1 := blk_frozen an.out 1) | ((with_reducible refine gate_store (t := 24) (p := 55) rfl ?_); refine store_event (t := 24) (p := 55) (v := ?vo_w54) (w1 := (w51.setCell ⟨am, 1, none⟩ (.slice a5 aT.length a6))) ?hg ?ho ?hn ?hr ?_; (case ho => rfl); (case hg => rfl); (case hn => rfl); (case hr => first | (go_simp; done) | (go_simp; rfl)); intro b9 hw; have aC : Aside0 (Kd.S k74 74 b9 wN_.heap.size (fun k_ => some k_ ≠ (.slice ao ag.length ap : Value).ownBlock ∧ some k_ ≠ (.slice a5 aT.length a6 : Value).ownBlock ∧ k_ ≠ am) u6 aY) := ⟨(by rw [hw]; exact (by (with_reducible repeat (first | apply Kd.S_alloc | apply Kd.S_drewN | apply Kd.S_drew)); exact Kd.S_mono (Kd.S_far (p := ⟨am, 1, none⟩) (Kd.S_mono aH.out (fun k_ hk => (⟨hk, hk.1.2⟩ : _ ∧ k_ ≠ am))) (fun _ hk => hk.2) (.slice a5 aT.length a6)) (fun _ hk => ⟨hk.1.1.1, ⟨hk.1.2, hk.1.1.2⟩⟩)))⟩; have aD : Aside0 (Kd.R (Kd.int .i64) 3 b9 w.heap.size (fun k_ => some k_ ≠ (.slice a5 aT.length a6 : Value).ownBlock) (.slice ao ag.length ap) ag) := ⟨(by rw [hw]; exact (by (with_reducible repeat (first | apply Kd.R_alloc | apply Kd.R_drewN | apply Kd.R_drew)); exact Kd.R_mono (Kd.R_far (p := ⟨am, 1, none⟩) (Kd.R_types ab.out an.out (by decide)) (fun _ hk => hk.2) (.slice a5 aT.length a6)) (fun _ hk => hk.1.2)))⟩; have aE : Aside0 (Kd.S k69 69 b9 w.heap.size (fun k_ => (some k_ ≠ (.slice ao ag.length ap : Value).ownBlock ∧ k_ < wN_.heap.size) ∧ some k_ ≠ (.slice a5 aT.length a6 : Value).ownBlock) (.slice aJ av.length aK) av) := ⟨(by rw [hw]; exact (by (with_reducible repeat (first | apply Kd.S_alloc | apply Kd.S_drewN | apply Kd.S_drew)); exact Kd.S_mono (Kd.S_far (p := ⟨am, 1, none⟩) (Kd.S_types al.out an.out (by decide)) (fun _ hk => hk.2) (.slice a5 aT.length a6)) (fun _ hk => ⟨hk.1.1, hk.1.2⟩)))⟩; have aG : Aside0 (Kd.R (Kd.int .i64) 3 b9 wN_.heap.size (fun k_ => some k_ ≠ (.slice ao ag.length ap : Value).ownBlock) (.slice a5 aT.length a6) aT) := ⟨(by rw [hw]; exact (by (with_reducible repeat (first | apply Kd.R_alloc | apply Kd.R_drewN | apply Kd.R_drew)); exact Kd.R_mono (Kd.R_far (p := ⟨am, 1, none⟩) (Kd.R_types bj.out an.out (by decide)) (fun _ hk => hk.2) (.slice a5 aT.length a6)) (fun _ hk => hk.1)))⟩; have aW : Aside0 (b9.heap[ad]? = some (.cells #[.slice ao ag.length ap, .int .i64 a0_1, .slice aJ av.length aK, .slice (some bi) af.length aw] 28 (0, 0))) := ⟨(by rw [hw]; exact (by (with_reducible repeat (first | refine zN ?_ _ | refine zD ?_ | refine zA ?_ _)); refine blk_far ?_ a2.out _; (with_reducible repeat (first | refine zN ?_ _ | refine zD ?_ | refine zA ?_ _)); exact aa.out))⟩; have aZ : Aside0 (b9.heap[ah]? = some (.cells #[.slice none 0 0, .int .i64 0, .slice none 0 0, .slice none 0 0] 28 (0, 0))) := ⟨(by rw [hw]; exact (by (with_reducible repeat (first | refine zN ?_ _ | refine zD ?_ | refine zA ?_ _)); refine blk_far ?_ a3.out _; (with_reducible repeat (first | refine zN ?_ _ | refine zD ?_ | refine zA ?_ _)); exact ac.out))⟩; have a7 : Aside0 (b9.heap[am]? = some (.cells #[.int .i64 ((rd_T74 af aq).f0), .slice a5 aT.length a6] 74 (0, 0))) := ⟨(by rw [hw]; exact (by (with_reducible repeat (first | refine zN ?_ _ | refine zD ?_ | refine zA ?_ _)); refine blk_put (cs := #[.int .i64 ((rd_T74 af aq).f0), .slice aU ((rd_T74 af aq).f1).length aV]) ?_ 1 _ rfl; (with_reducible repeat (first | refine zN ?_ _ | refine zD ?_ | refine zA ?_ _)); exact an.out))⟩; have bQ : Aside0 (Below w.heap.size w b9) := ⟨(by rw [hw]; exact (zb HB))⟩; have nN_ : Aside0 (Below 0 wN_ b9) := ⟨(by rw [hw]; exact (zb HN))⟩; clear hw; clear aH; clear ab; clear al; clear bj; clear aa; clear ac; clear an; clear HB; clear HN; have aH := aC; have ab := aD; have al := aE; have bj := aG; have aa := aW; have ac := aZ; have an := a7; have HB := bQ; have HN := nN_; clear nN_; clear aC aD aE aG aW aZ a7 bQ; have hcz55_0 : b9.cell? ⟨am, 0, none⟩ = some (.int .i64 ((rd_T74 af aq).f0)) := (blk_cell an.out 0).trans rfl; have hcz55_1 : b9.cell? ⟨am, 1, none⟩ = some (.slice a5 aT.length a6) := (blk_cell an.out 1).trans rfl; have hfz55_0 := blk_frozen an.out 0; have hfz55_1 := blk_frozen an.out 1) | ((with_reducible refine gate_builtin (b := .append) (xs := #[.tmp 56, .tmp 58]) rfl ?_); at_builtin; refine Kd.S_append k74 (w0 := ?aW1) wN_.heap.size rfl (.tmp 56) (.tmp 58) 26 74 (.agg #[(.int .i64 0), (.slice none 0 0)]) 32 rfl Try.underlying26 info74 rfl (by decide) (by omega) u6 aY (⟨(rd_T74 af aq).f0, aT⟩ : S74) [.int .i64 ((rd_T74 af aq).f0), .slice a5 aT.length a6] (fun k_ => some k_ ≠ (.slice ao ag.length ap : Value).ownBlock ∧ k_ ≠ am) (fun k_ => some k_ = (.slice a5 aT.length a6 : Value).ownBlock) rfl rfl ?aP (fun k_ hk_ => ((Kd.R_mono (ok' := fun k_ => ((fun k_ => some k_ ≠ (.slice ao ag.length ap : Value).ownBlock ∧ k_ ≠ am)) k_ ∧ some k_ ≠ (u6 : Value).ownBlock) (Kd.R_types (Kd.R_apart' (bj.out) (Kd.S_typed aH.out) (by decide)) an.out (by decide)) (fun k_ hk => ⟨⟨hk.1.1, hk.2⟩, hk.1.2⟩))).1 k_ hk_.symm) ?aF ?aO ?aB ?aS ?aL ?_; (case aP => exact k74_mkM _ _ _ (⟨(rd_T74 af aq).f0, aT⟩ : S74) (Kd.R_mono (Kd.R_tight rfl (Kd.R_mono (ok' := fun k_ => ((fun k_ => some k_ ≠ (.slice ao ag.length ap : Value).ownBlock ∧ k_ ≠ am)) k_ ∧ some k_ ≠ (u6 : Value).ownBlock) (Kd.R_types (Kd.R_apart' (bj.out) (Kd.S_typed aH.out) (by decide)) an.out (by decide)) (fun k_ hk => ⟨⟨hk.1.1, hk.2⟩, hk.1.2⟩))) (fun _ h_ => h_))); (case aB => exact Below.refl _ _); (case aF => exact (fun k_ hk => ⟨Kd.fresh' (Kd.R_lt (zR ab)) k_ hk, Kd.freshB (g := am) (o := .cells #[.int .i64 ((rd_T74 af aq).f0), .slice a5 aT.length a6] 74 (0, 0)) (zk an) k_ hk⟩)); (case aO => exact (by (with_reducible repeat (first | apply Kd.S_alloc | apply Kd.S_drewN | apply Kd.S_drew)); exact Kd.S_mono aH.out (fun k_ hk => ⟨⟨hk.1, hk.2.2⟩, fun e_ => hk.2.1 e_⟩))); (case aS => exact size0 (zb HN)); (case aL => have := dv.out; omega); intro v323 w56 ho hb hg hat; rw [← Ny322.out] at ho; have aC := zK (Kd.R_over' (zR ab) (Kd.S_typed (zT aH)) (by decide) hg); have aD := zK (Kd.S_over' (zT al) (Kd.S_typed (zT aH)) (by decide) hg); have aE := zK (blk_grown (g := ad) (o := .cells #[.slice ao ag.length ap, .int .i64 a0_1, .slice aJ av.length aK, .slice (some bi) af.length aw] 28 (0, 0)) (zk aa) hg (Kd.S_ne aH.out aa.out (by decide))); have aG := zK (blk_grown (g := ah) (o := .cells #[.slice none 0 0, .int .i64 0, .slice none 0 0, .slice none 0 0] 28 (0, 0)) (zk ac) hg (Kd.S_ne aH.out ac.out (by decide))); have aW := zK (blk_grown (g := am) (o := .cells #[.int .i64 ((rd_T74 af aq).f0), .slice a5 aT.length a6] 74 (0, 0)) (zk an) hg (Kd.S_away aH.out (fun _ hk => hk.2.2))); have aZ := zK (below_via (n := w.heap.size) (w := w) (zb HB) HW_N.out hb); have nN_ := zK (below_via (n := 0) (w := wN_) (zb HN) (Nat.zero_le _) hb); have a7 := zK (ho); clear ab; clear al; clear aa; clear ac; clear an; clear HB; clear HN; clear aH; clear bj; have ab := aC; have al := aD; have aa := aE; have ac := aG; have an := aW; have HB := aZ; have HN := nN_; clear nN_; have dy := a7; clear aC aD aE aG aW aZ a7; clear ho hb hg hat))
           go_roundg k2
           case measure => have := HK1.out; have := HK2.out; omega
           case rel => exact ⟨(dw), (wrap64 (aq + 1)), (by first | rfl | (simp; done) | (simp [*]; done)), H', ⟨by have := HK1.out; have := HK2.out; omega⟩, ⟨by (with_reducible repeat (first | apply Kd.S_alloc | apply Kd.S_drewN | apply Kd.S_drew)); exact Kd.S_mono dy.out (fun _ hk => hk.1)⟩, ⟨by (with_reducible repeat (first | apply Kd.R_alloc | apply Kd.R_drewN | apply Kd.R_drew)); exact Kd.R_mono ab.out (fun _ hk => trivial)⟩, ⟨by (with_reducible repeat (first | apply Kd.S_alloc | apply Kd.S_drewN | apply Kd.S_drew)); exact Kd.S_mono al.out (fun _ hk => hk.1)⟩, ⟨zk aa⟩, ⟨zk ac⟩, ⟨zb HB⟩, ⟨zb HN⟩⟩
          ·rw [if_neg c41] at H
           exact absurd H (by simp)
         ·rw [if_neg c40] at H
          exact absurd H (by simp)
        ·rw [if_neg c39] at H
         exact absurd H (by simp)
       ·rw [if_neg da] at H
        have dt : decide (aq < (af.length : Int)) = false := decide_eq_false da
        clear da
        simp only [Option.some.injEq, Prod.mk.injEq] at H
        obtain ⟨rfl, rfl, rfl, rfl⟩ := H
        have hnb57 := aM.out; have hnc57 := ax.out
        have hcz58_0 : wr.cell? ⟨ad, 0, none⟩ = some (.slice ao ag.length ap) := (blk_cell aa.out 0).trans rfl
        have hcz58_1 : wr.cell? ⟨ad, 1, none⟩ = some (.int .i64 a0_1) := (blk_cell aa.out 1).trans rfl
        have hcz58_2 : wr.cell? ⟨ad, 2, none⟩ = some (.slice aJ av.length aK) := (blk_cell aa.out 2).trans rfl
        have hcz58_3 : wr.cell? ⟨ad, 3, none⟩ = some (.slice az af.length aw) := (blk_cell aa.out 3).trans rfl
        have hfz58_0 := blk_frozen aa.out 0; have hfz58_1 := blk_frozen aa.out 1; have hfz58_2 := blk_frozen aa.out 2; have hfz58_3 := blk_frozen aa.out 3
        obtain ⟨bD, bE, eo59⟩ := Kd.S_slice aH.out
        subst eo59
        have hcz60_0 : wr.cell? ⟨ah, 0, none⟩ = some (.slice none 0 0) := (blk_cell ac.out 0).trans rfl
        have hcz60_1 : wr.cell? ⟨ah, 1, none⟩ = some (.int .i64 0) := (blk_cell ac.out 1).trans rfl
        have hcz60_2 : wr.cell? ⟨ah, 2, none⟩ = some (.slice none 0 0) := (blk_cell ac.out 2).trans rfl
        have hcz60_3 : wr.cell? ⟨ah, 3, none⟩ = some (.slice none 0 0) := (blk_cell ac.out 3).trans rfl
        have hfz60_0 := blk_frozen ac.out 0; have hfz60_1 := blk_frozen ac.out 1; have hfz60_2 := blk_frozen ac.out 2; have hfz60_3 := blk_frozen ac.out 3
        go_wp2
        refine bodyPost_ret (results_cell_row rfl _ _ ah 28 #[.slice ao ag.length ap, .int .i64 a0_1, .slice aJ av.length aK, .slice bD aY.length bE] (0, 0) _ rfl (by (with_reducible repeat (first | refine zN ?_ _ | refine zD ?_ | refine zA ?_ _)); refine blk_put (cs := #[.slice ao ag.length ap, .int .i64 a0_1, .slice aJ av.length aK, .slice none 0 0]) ?_ 3 _ rfl; (with_reducible repeat (first | refine zN ?_ _ | refine zD ?_ | refine zA ?_ _)); refine blk_put (cs := #[.slice ao ag.length ap, .int .i64 a0_1, .slice none 0 0, .slice none 0 0]) ?_ 2 _ rfl; (with_reducible repeat (first | refine zN ?_ _ | refine zD ?_ | refine zA ?_ _)); refine blk_put (cs := #[.slice ao ag.length ap, .int .i64 0, .slice none 0 0, .slice none 0 0]) ?_ 1 _ rfl; (with_reducible repeat (first | refine zN ?_ _ | refine zD ?_ | refine zA ?_ _)); refine blk_put (cs := #[.slice none 0 0, .int .i64 0, .slice none 0 0, .slice none 0 0]) ?_ 0 _ rfl; (with_reducible repeat (first | refine zN ?_ _ | refine zD ?_ | refine zA ?_ _)); refine blk_far ?_ ax.out _; (with_reducible repeat (first | refine zN ?_ _ | refine zD ?_ | refine zA ?_ _)); exact ac.out) Try.underlying28 rfl (by kernel_rfl)) rfl ?_
        exact ⟨_, _, _, wN_.heap.size, by first | rfl | (simp [errW_none, errW_some] <;> rfl) | (simp [*, errW_none, errW_some] <;> rfl), by (with_reducible repeat (first | apply Kd.R_alloc | apply Kd.R_drewN | apply Kd.R_drew)); exact Kd.R_mono (Kd.R_far (p := ⟨ah, 3, none⟩) (Kd.R_far (p := ⟨ah, 2, none⟩) (Kd.R_far (p := ⟨ah, 1, none⟩) (Kd.R_far (p := ⟨ah, 0, none⟩) (Kd.R_far (p := ⟨ad, 3, none⟩) (Kd.R_types (Kd.R_types ab.out aa.out (by decide)) ac.out (by decide)) (fun _ hk => hk.1.2) (.slice bD aY.length bE)) (fun _ hk => hk.2) (.slice ao ag.length ap)) (fun _ hk => hk.2) (.int .i64 a0_1)) (fun _ hk => hk.2) (.slice aJ av.length aK)) (fun _ hk => hk.2) (.slice bD aY.length bE)) (fun _ hk => trivial), by (with_reducible repeat (first | apply Kd.S_alloc | apply Kd.S_drewN | apply Kd.S_drew)); exact Kd.S_mono (Kd.S_far (p := ⟨ah, 3, none⟩) (Kd.S_far (p := ⟨ah, 2, none⟩) (Kd.S_far (p := ⟨ah, 1, none⟩) (Kd.S_far (p := ⟨ah, 0, none⟩) (Kd.S_far (p := ⟨ad, 3, none⟩) (Kd.S_types (Kd.S_types al.out aa.out (by decide)) ac.out (by decide)) (fun _ hk => hk.1.2) (.slice bD aY.length bE)) (fun _ hk => hk.2) (.slice ao ag.length ap)) (fun _ hk => hk.2) (.int .i64 a0_1)) (fun _ hk => hk.2) (.slice aJ av.length aK)) (fun _ hk => hk.2) (.slice bD aY.length bE)) (fun _ hk => hk.1.1), by (with_reducible repeat (first | apply Kd.S_alloc | apply Kd.S_drewN | apply Kd.S_drew)); exact Kd.S_mono (Kd.S_far (p := ⟨ah, 3, none⟩) (Kd.S_far (p := ⟨ah, 2, none⟩) (Kd.S_far (p := ⟨ah, 1, none⟩) (Kd.S_far (p := ⟨ah, 0, none⟩) (Kd.S_far (p := ⟨ad, 3, none⟩) (Kd.S_types (Kd.S_types aH.out aa.out (by decide)) ac.out (by decide)) (fun _ hk => hk.1.2) (.slice bD aY.length bE)) (fun _ hk => hk.2) (.slice ao ag.length ap)) (fun _ hk => hk.2) (.int .i64 a0_1)) (fun _ hk => hk.2) (.slice aJ av.length aK)) (fun _ hk => hk.2) (.slice bD aY.length bE)) (fun _ hk => hk.1.1), HW_N.out, by repeat (first | (with_reducible first | exact HB.out | apply zB | apply zC | apply zE | refine zS ?_ ar.out | refine zS ?_ au.out) | exact HB.out)⟩
 ·rw [if_neg c2] at H
  exact absurd H (by simp)
theorem spec_l05Copy.calls (k : Nat) (ad : Option Addr) (ae : Nat) (aa : List Int) (a0_1 : Int) (af : Option Addr) (ag : Nat) (ab : List (S69)) (ah : Option Addr) (ai : Nat) (ac : List (S74)) (r1 : List Int) (r2 : Int) (r3 : List (S69)) (r4 : List (S74)) (w : World) (aj : Kd.C (Kd.int .i64) w ad aa.length aa) (hc0_0 : aa.length ≤ ae) (ak : Kd.C k69 w af ab.length ab) (hc0_2 : ab.length ≤ ag) (al : Kd.C k74 w ah ac.length ac) (hc0_3 : ac.length ≤ ai) (h : spec_l05Copy.f k aa a0_1 ab ac = some (r1, r2, r3, r4)) :
  Calls Try.prog 68 #[.agg #[.slice ad aa.length ae, .int .i64 a0_1, .slice af ab.length ag, .slice ah ac.length ai]] w fun e w' => ∃ v0_ v2_ v3_ : Value, e = .returned (.agg #[v0_, .int .i64 r2, v2_, v3_]) ∧ Kd.R (Kd.int .i64) 3 w' w.heap.size (fun _ => True) v0_ r1 ∧ Kd.S k69 69 w' w.heap.size (fun k_ => some k_ ≠ (v0_ : Value).ownBlock) v2_ r3 ∧ Kd.S k74 74 w' w.heap.size (fun k_ => some k_ ≠ (v0_ : Value).ownBlock) v3_ r4 ∧ Below w.heap.size w w' :=
 (spec_l05Copy.calls2 k ad ae aa a0_1 af ag ab ah ai ac r1 r2 r3 r4 w aj hc0_0 ak hc0_2 al hc0_3 h).mono fun e w' ⟨v0, v2, v3, N, he, h0, h2, h3, hN, hb⟩ => ⟨v0, v2, v3, he, h0, Kd.S_mono h2 (fun _ hk => hk.1), Kd.S_lower h3 hN, hb⟩
end Go.Proofs.Ytmjhbdmicejppaa.Px
