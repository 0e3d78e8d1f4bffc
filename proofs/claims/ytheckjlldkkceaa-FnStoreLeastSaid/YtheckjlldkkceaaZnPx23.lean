import Derived.Test.YtheckjlldkkceaaZnPx0
namespace Go.Proofs.Ytheckjlldkkceaa.Px
open Go.RowKit Go.Proofs.YtheckjlldkkceaaW.PrintWords Go.Proofs.YtheckjlldkkceaaW.PrintLast Go.Proofs.YtheckjlldkkceaaW.PrintMore
attribute [local go_sem] max2_int min2_int max_two min_two max_three min_three max_four min_four   
set_option linter.unusedVariables false
set_option linter.unusedSimpArgs false
def laws_big.f (l0 : List Int) : Option (Bool) := some (decide ((l0.length : Int) > 1048576))
set_option maxHeartbeats 8000000 in
set_option maxRecDepth 100000 in
theorem laws_big.calls (A0 : Option Addr) (c0 : Nat) (l0 : List Int) (r : Bool) (w : World) (hr0 : Kd.C (Kd.int .u8) w A0 l0.length l0) (hc0 : l0.length ≤ c0) (h : laws_big.f l0 = some r) :
  Calls Try.prog 29 #[.slice A0 l0.length c0] w fun e w' => e = .returned (.bool r) ∧ Drawn0 w w' := by
 have HR0 := zK hr0; have HC0 := zK hc0; clear hr0 hc0
 have H : (some (decide ((l0.length : Int) > 1048576))) = some r := h
 clear h; obtain rfl := Option.some.inj H
 go_enter Try.func29, Try.ntmps29
 go_wp2
 go_ret
 exact ⟨by first | rfl | (simp; done) | (simp [*]; done), by repeat (first | exact Drawn0.refl _ | apply Drawn0.step)⟩
def IsS89 (w0 W : World) (g : Nat) (f0 : List Int) (f1 : Int) (f2 : Int) : Prop := ∃ A0 c0, W.heap[g]? = some (.cells #[.slice A0 f0.length c0, .int .i64 f1, .int .i64 f2] 89 (0, 0)) ∧ w0.heap.size ≤ g ∧ Kd.C (Kd.int .u8) w0 A0 f0.length f0
theorem IsS89.grown {w0 W : World} {g : Nat} {f0 : List Int} {f1 : Int} {f2 : Int} {W1 : World} {row : Option Nat} (h : IsS89 w0 W g f0 f1 f2) (hw : W.grownBy W1 row) (hne : some g ≠ row) : IsS89 w0 W1 g f0 f1 f2 := by
 obtain ⟨A0, c0, hb, hg, hr0⟩ := h
 exact ⟨A0, c0, blk_grown hb hw hne, hg, hr0⟩
theorem IsS89.below {w0 W : World} {g : Nat} {f0 : List Int} {f1 : Int} {f2 : Int} {W1 : World} (h : IsS89 w0 W g f0 f1 f2) (hw : Below W.heap.size W W1) : IsS89 w0 W1 g f0 f1 f2 := h.grown (grown_of_below hw none) (by simp)
theorem IsS89.alloc {w0 W : World} {g : Nat} {f0 : List Int} {f1 : Int} {f2 : Int} (h : IsS89 w0 W g f0 f1 f2) (o : Obj) : IsS89 w0 (W.alloc o) g f0 f1 f2 := h.below (zB (Below.refl _ _) o)
theorem IsS89.drewN {w0 W : World} {g : Nat} {f0 : List Int} {f1 : Int} {f2 : Int} (h : IsS89 w0 W g f0 f1 f2) (m : Nat) : IsS89 w0 (W.drewN m) g f0 f1 f2 := h
theorem IsS89.drew {w0 W : World} {g : Nat} {f0 : List Int} {f1 : Int} {f2 : Int} (h : IsS89 w0 W g f0 f1 f2) : IsS89 w0 W.drew g f0 f1 f2 := h
theorem IsS89.apart {w0 W : World} {g : Nat} {f0 : List Int} {f1 : Int} {f2 : Int} {α : Type} {d : Kd α} {e : Nat} {base : Nat} {ok : Nat → Prop} {v : Value} {xs : List α} (h : IsS89 w0 W g f0 f1 f2) (ho : d.R e W base ok v xs) (ht : ∀ q, q ∈ e :: d.E → q ≠ 89) : d.R e W base (fun k => ok k ∧ k ≠ g) v xs := by
 obtain ⟨A0, c0, hb, hg, hr0⟩ := h
 exact Kd.R_types ho hb ht
theorem IsS89.own_ne {w0 W : World} {g : Nat} {f0 : List Int} {f1 : Int} {f2 : Int} {α : Type} {d : Kd α} {e : Nat} {base : Nat} {ok : Nat → Prop} {v : Value} {xs : List α} (h : IsS89 w0 W g f0 f1 f2) (ho : d.R e W base ok v xs) (ht : e ≠ 89) : some g ≠ v.ownBlock := by
 obtain ⟨A0, c0, hb, hg, hr0⟩ := h
 exact Kd.R_ne ho hb ht
theorem IsS89.apartS {w0 W : World} {g : Nat} {f0 : List Int} {f1 : Int} {f2 : Int} {α : Type} {d : Kd α} {e : Nat} {base : Nat} {ok : Nat → Prop} {v : Value} {xs : List α} (h : IsS89 w0 W g f0 f1 f2) (ho : d.S e W base ok v xs) (ht : ∀ q, q ∈ e :: d.E → q ≠ 89) : d.S e W base (fun k => ok k ∧ k ≠ g) v xs := by
 obtain ⟨A0, c0, hb, hg, hr0⟩ := h
 exact Kd.S_types ho hb ht
theorem IsS89.own_neS {w0 W : World} {g : Nat} {f0 : List Int} {f1 : Int} {f2 : Int} {α : Type} {d : Kd α} {e : Nat} {base : Nat} {ok : Nat → Prop} {v : Value} {xs : List α} (h : IsS89 w0 W g f0 f1 f2) (ho : d.S e W base ok v xs) (ht : e ≠ 89) : some g ≠ v.ownBlock := by
 obtain ⟨A0, c0, hb, hg, hr0⟩ := h
 exact Kd.S_ne ho hb ht
theorem IsS89.lt {w0 W : World} {g : Nat} {f0 : List Int} {f1 : Int} {f2 : Int} (h : IsS89 w0 W g f0 f1 f2) : g < W.heap.size := by
 obtain ⟨A0, c0, hb, hg, hr0⟩ := h
 exact blk_lt hb
theorem IsS89.ge {w0 W : World} {g : Nat} {f0 : List Int} {f1 : Int} {f2 : Int} (h : IsS89 w0 W g f0 f1 f2) : w0.heap.size ≤ g := by
 obtain ⟨A0, c0, hb, hg, hr0⟩ := h
 exact hg
theorem IsS89.ne_blk {w0 W : World} {g : Nat} {f0 : List Int} {f1 : Int} {f2 : Int} {a : Nat} {cs : Array Value} {t : TypeId} {fr : Nat × Nat} (h : IsS89 w0 W g f0 f1 f2) (hb2 : W.heap[a]? = some (.cells cs t fr)) (ht : t ≠ 89) : g ≠ a := by
 obtain ⟨A0, c0, hb, hg, hr0⟩ := h
 rintro rfl
 rw [hb] at hb2
 injection hb2 with hb2
 injection hb2 with _ ht2
 exact ht ht2.symm
theorem IsS89.far {w0 W : World} {g : Nat} {f0 : List Int} {f1 : Int} {f2 : Int} {p : Addr} (h : IsS89 w0 W g f0 f1 f2) (hne : g ≠ p.block) (u : Value) : IsS89 w0 (W.setCell p u) g f0 f1 f2 := by
 obtain ⟨A0, c0, hb, hg, hr0⟩ := h
 exact ⟨A0, c0, blk_far hb hne u, hg, hr0⟩
theorem cellS89_0 {W : World} {g : Nat} {A0 : Option Addr} {c0 : Nat} {f0 : List Int} {f1 : Int} {f2 : Int} (h : W.heap[g]? = some (.cells #[.slice A0 f0.length c0, .int .i64 f1, .int .i64 f2] 89 (0, 0))) : W.cell? ⟨g, 0, none⟩ = some (.slice A0 f0.length c0) := (blk_cell h 0).trans rfl
theorem cellS89_1 {W : World} {g : Nat} {A0 : Option Addr} {c0 : Nat} {f0 : List Int} {f1 : Int} {f2 : Int} (h : W.heap[g]? = some (.cells #[.slice A0 f0.length c0, .int .i64 f1, .int .i64 f2] 89 (0, 0))) : W.cell? ⟨g, 1, none⟩ = some (.int .i64 f1) := (blk_cell h 1).trans rfl
theorem IsS89.set_1 {w0 W : World} {g : Nat} {f0 : List Int} {f1 : Int} {f2 : Int} (h : IsS89 w0 W g f0 f1 f2) (x : Int) : IsS89 w0 (W.setCell ⟨g, 1, none⟩ (.int .i64 x)) g f0 x f2 := by
 obtain ⟨A0, c0, hb, hg, hr0⟩ := h
 exact ⟨A0, c0, by simpa using blk_set hb 1 (.int .i64 x), hg, hr0⟩
theorem cellS89_2 {W : World} {g : Nat} {A0 : Option Addr} {c0 : Nat} {f0 : List Int} {f1 : Int} {f2 : Int} (h : W.heap[g]? = some (.cells #[.slice A0 f0.length c0, .int .i64 f1, .int .i64 f2] 89 (0, 0))) : W.cell? ⟨g, 2, none⟩ = some (.int .i64 f2) := (blk_cell h 2).trans rfl
theorem IsS89.set_2 {w0 W : World} {g : Nat} {f0 : List Int} {f1 : Int} {f2 : Int} (h : IsS89 w0 W g f0 f1 f2) (x : Int) : IsS89 w0 (W.setCell ⟨g, 2, none⟩ (.int .i64 x)) g f0 f1 x := by
 obtain ⟨A0, c0, hb, hg, hr0⟩ := h
 exact ⟨A0, c0, by simpa using blk_set hb 2 (.int .i64 x), hg, hr0⟩
def spec_l01New.l0 : Nat → List Int → Int → Int → Option (List Int × Int × Int)
 | 0, _, _, _ => none
 | k + 1, x0, x3, x4 => if x4 < (x0.length : Int) then (if x4 < 4000 then (if 0 ≤ x4 then (spec_l01New.l0 k x0 (Go.bits .and .i64 (wrap64 ((wrap64 ((wrap64 (x3 * 131)) + (wrap64 (rd x0 x4)))) + 7)) 1073741823) (wrap64 (x4 + 1))) else (none)) else (some (x0, 0, x3))) else (some (x0, 0, x3))
def spec_l01New.f (k : Nat) (l0 : List Int) : Option (List Int × Int × Int) := spec_l01New.l0 k l0 (wrap64 (33193 + (l0.length : Int))) 0
set_option maxHeartbeats 8000000 in
set_option maxRecDepth 100000 in
theorem spec_l01New.calls (k : Nat) (A0 : Option Addr) (c0 : Nat) (l0 : List Int) (r1 : List Int) (r2 : Int) (r3 : Int) (w0 w : World) (hB : Below w0.heap.size w0 w) (hr0 : Kd.C (Kd.int .u8) w0 A0 l0.length l0) (hc0 : l0.length ≤ c0) (h : spec_l01New.f k l0 = some (r1, r2, r3)) :
  Calls Try.prog 64 #[.slice A0 l0.length c0] w fun e w' => ∃ g_ : Nat, e = .returned (.pointer (some ⟨g_, 0, none⟩)) ∧ IsS89 w0 w' g_ r1 r2 r3 ∧ Below w0.heap.size w0 w' ∧ Below w.heap.size w w' := by
 have hu89 := Try.underlying89; have HR0 := zK hr0; have HC0 := zK hc0; clear hr0 hc0
 have HBW := zK (Below.refl w.heap.size w)
 have HW0 := zK hB.size; have HB := zK hB; clear hB
 have H : (spec_l01New.l0 k l0 (wrap64 (33193 + (l0.length : Int))) 0) = some (r1, r2, r3) := h
 clear h; have H' := zK H; clear H
 go_enter Try.func64, Try.ntmps64
 go_wp2
 go_loopg [3, 4] k (fun kq v3 v4 w' => ∃ (ab : Int) (aa : Int), v3 = .int .i64 ab ∧ v4 = .int .i64 aa ∧ Aside0 (spec_l01New.l0 kq l0 ab aa = some (r1, r2, r3)) ∧ Aside0 (kq ≤ k) ∧ Aside0 (Below w0.heap.size w0 w') ∧ Aside0 (Below w.heap.size w w'))
 case atStart => exact ⟨(wrap64 (33193 + (l0.length : Int))), (0), (by first | rfl | (simp; done) | (simp [*]; done)), (by first | rfl | (simp; done) | (simp [*]; done)), H', ⟨Nat.le_refl _⟩, ⟨zb HB⟩, ⟨zb HBW⟩⟩
 case round =>
  clear H'
  obtain ⟨ab, aa, rfl, rfl, HA, HK1, HB, HBW⟩ := hrel
  cases gk with
  | zero => exact absurd HA.out (by simp [spec_l01New.l0])
  | succ k1 =>
   have H := HA.out; clear HA
   simp only [spec_l01New.l0] at H
   by_cases c2 : aa < (l0.length : Int)
   ·rw [if_pos c2] at H
    have c2b0 : decide (aa < (l0.length : Int)) = true := decide_eq_true c2
    clear c2
    by_cases c3 : aa < 4000
    ·rw [if_pos c3] at H
     have c3b0 : decide (aa < 4000) = true := decide_eq_true c3
     clear c3
     by_cases c4 : 0 ≤ aa
     ·rw [if_pos c4] at H
      have c4b0 : decide (0 ≤ aa) = true := decide_eq_true c4
      clear c4; have H' := zK H; clear H
      have ah : 0 ≤ (aa : Int) := zd
      have ai : aa < (l0.length : Int) := zd
      obtain ⟨ad497, e497, ac⟩ := Kd.at_int HR0.out aa ah ai
      cases e497
      replace ac := pw_cell_below HB.out ac; replace ah := eq_true ah; replace ai := eq_true ai
      go_wp2
      go_roundg k1
      case measure => have := HK1.out; omega
      case rel => exact ⟨(Go.bits .and .i64 (wrap64 ((wrap64 ((wrap64 (ab * 131)) + (wrap64 (rd l0 aa)))) + 7)) 1073741823), (wrap64 (aa + 1)), (by first | rfl | (simp; done) | (simp [*]; done)), (by first | rfl | (simp; done) | (simp [*]; done)), H', ⟨by have := HK1.out; omega⟩, ⟨zb HB⟩, ⟨zb HBW⟩⟩
     ·rw [if_neg c4] at H
      exact absurd H (by simp)
    ·rw [if_neg c3] at H
     have c3b0 : decide (aa < 4000) = false := decide_eq_false c3
     clear c3
     simp only [Option.some.injEq, Prod.mk.injEq] at H
     obtain ⟨rfl, rfl, rfl⟩ := H
     go_wp2_with (first | ((with_reducible refine gate_dst (N := 31) rfl ?_); refine box_event ?hg (N := 31) ?hd (cs := #[.slice A0 l0.length c0, .int .i64 0, .int .i64 ab]) (t := 89) ?hr ?_; (case hd => rfl); (case hg => rfl); (case hr => first | (go_simp; done) | (go_simp; rfl)); intro ad hg w5 hbox hb; have aj := zK (below_step HBW.out hb); have ak := zK (below_step (zb HB) hb); have al := zK (hbox); have am := zK ((by rw [hg]; exact (below_size (zb HBW)) : w.heap.size ≤ ad)); have an := zK ((Nat.le_trans HW0.out (by rw [hg]; exact (below_size (zb HBW)) : w.heap.size ≤ ad) : w0.heap.size ≤ ad)); clear HBW; clear HB; have HBW := aj; have HB := ak; have ao := al; have ap := am; have af := an; clear aj ak al am an; clear hb hbox hg))
     go_ret
     exact ⟨_, rfl, (show IsS89 w0 _ ad l0 0 ab from ⟨_, _, by (with_reducible repeat (first | refine zN ?_ _ | refine zD ?_ | refine zA ?_ _)); exact ao.out, af.out, HR0.out⟩), by repeat (first | (with_reducible first | exact HB.out | apply zB | apply zC | apply zE | refine zS ?_ af.out) | exact HB.out), by repeat (first | (with_reducible first | exact HBW.out | apply zB | apply zC | apply zE | refine zS ?_ ap.out) | exact HBW.out)⟩
   ·rw [if_neg c2] at H
    have c2b0 : decide (aa < (l0.length : Int)) = false := decide_eq_false c2
    clear c2
    simp only [Option.some.injEq, Prod.mk.injEq] at H
    obtain ⟨rfl, rfl, rfl⟩ := H
    go_wp2_with (first | ((with_reducible refine gate_dst (N := 31) rfl ?_); refine box_event ?hg (N := 31) ?hd (cs := #[.slice A0 l0.length c0, .int .i64 0, .int .i64 ab]) (t := 89) ?hr ?_; (case hd => rfl); (case hg => rfl); (case hr => first | (go_simp; done) | (go_simp; rfl)); intro ae hg w6 hbox hb; have aj := zK (below_step HBW.out hb); have ak := zK (below_step (zb HB) hb); have al := zK (hbox); have am := zK ((by rw [hg]; exact (below_size (zb HBW)) : w.heap.size ≤ ae)); have an := zK ((Nat.le_trans HW0.out (by rw [hg]; exact (below_size (zb HBW)) : w.heap.size ≤ ae) : w0.heap.size ≤ ae)); clear HBW; clear HB; have HBW := aj; have HB := ak; have aq := al; have ar := am; have ag := an; clear aj ak al am an; clear hb hbox hg))
    go_ret
    exact ⟨_, rfl, (show IsS89 w0 _ ae l0 0 ab from ⟨_, _, by (with_reducible repeat (first | refine zN ?_ _ | refine zD ?_ | refine zA ?_ _)); exact aq.out, ag.out, HR0.out⟩), by repeat (first | (with_reducible first | exact HB.out | apply zB | apply zC | apply zE | refine zS ?_ ag.out) | exact HB.out), by repeat (first | (with_reducible first | exact HBW.out | apply zB | apply zC | apply zE | refine zS ?_ ar.out) | exact HBW.out)⟩
def spec_l01Byte.f (s0_0 : List Int) (s0_1 : Int) (s0_2 : Int) : Option (Int × Int × Int) := if s0_1 < (s0_0.length : Int) then (if 0 ≤ s0_1 then (some (Go.bits .and .i64 (wrap64 ((Go.bits .and .i64 (Go.bits .xor .i64 ((wrap64 ((wrap64 (s0_2 * 6364136223846793005)) + 1442695040888963407)) / 8589934592) ((wrap64 ((wrap64 (s0_2 * 6364136223846793005)) + 1442695040888963407)) / 35184372088832)) 255) + (wrap64 (rd s0_0 s0_1)))) 255, wrap64 (s0_1 + 1), wrap64 ((wrap64 (s0_2 * 6364136223846793005)) + 1442695040888963407))) else (none)) else (some (Go.bits .and .i64 (Go.bits .xor .i64 ((wrap64 ((wrap64 (s0_2 * 6364136223846793005)) + 1442695040888963407)) / 8589934592) ((wrap64 ((wrap64 (s0_2 * 6364136223846793005)) + 1442695040888963407)) / 35184372088832)) 255, s0_1, wrap64 ((wrap64 (s0_2 * 6364136223846793005)) + 1442695040888963407)))
set_option maxHeartbeats 8000000 in
set_option maxRecDepth 100000 in
theorem spec_l01Byte.calls (g : Nat) (ae : List Int) (ab : Int) (ad : Int) (r1 : Int) (r2 : Int) (r3 : Int) (w0 w : World) (hI : IsS89 w0 w g ae ab ad) (hB : Below w0.heap.size w0 w) (h : spec_l01Byte.f ae ab ad = some (r1, r2, r3)) :
  Calls Try.prog 101 #[.pointer (some ⟨g, 0, none⟩)] w fun e w' => e = .returned (.int .i64 r1) ∧ IsS89 w0 w' g ae r2 r3 ∧ Below w0.heap.size w0 w' ∧ KeepBut w w' g none := by
 have HI0 := zK hI
 have HK := zK (KeepBut.refl w g none)
 have HL := zK hB.size; clear hI; have HW0 := zK hB.size; have HB := zK hB; clear hB
 have H : (if ab < (ae.length : Int) then (if 0 ≤ ab then (some (Go.bits .and .i64 (wrap64 ((Go.bits .and .i64 (Go.bits .xor .i64 ((wrap64 ((wrap64 (ad * 6364136223846793005)) + 1442695040888963407)) / 8589934592) ((wrap64 ((wrap64 (ad * 6364136223846793005)) + 1442695040888963407)) / 35184372088832)) 255) + (wrap64 (rd ae ab)))) 255, wrap64 (ab + 1), wrap64 ((wrap64 (ad * 6364136223846793005)) + 1442695040888963407))) else (none)) else (some (Go.bits .and .i64 (Go.bits .xor .i64 ((wrap64 ((wrap64 (ad * 6364136223846793005)) + 1442695040888963407)) / 8589934592) ((wrap64 ((wrap64 (ad * 6364136223846793005)) + 1442695040888963407)) / 35184372088832)) 255, ab, wrap64 ((wrap64 (ad * 6364136223846793005)) + 1442695040888963407)))) = some (r1, r2, r3) := h
 clear h
 by_cases c2 : ab < (ae.length : Int)
 ·rw [if_pos c2] at H
  have c2b0 : decide (ab < (ae.length : Int)) = true := decide_eq_true c2
  clear c2
  by_cases c3 : 0 ≤ ab
  ·rw [if_pos c3] at H
   have c3b0 : decide (0 ≤ ab) = true := decide_eq_true c3
   clear c3
   simp only [Option.some.injEq, Prod.mk.injEq] at H
   obtain ⟨rfl, rfl, rfl⟩ := H
   obtain ⟨ASz4_0, cSz4_0, HGz4, hgz4, HSz4_0⟩ := HI0.out
   have hcz4_0 := cellS89_0 HGz4; have hcz4_1 := cellS89_1 HGz4; have hcz4_2 := cellS89_2 HGz4; have hfz4_1 := blk_frozen HGz4 1; have hfz4_2 := blk_frozen HGz4 2; clear HGz4 hgz4
   have af : 0 ≤ (ab : Int) := zd
   have ag : ab < (ae.length : Int) := zd
   obtain ⟨ah, e500, aa⟩ := Kd.at_int HSz4_0 ab af ag
   cases e500
   have ac : ah.block ≠ g := Nat.ne_of_lt (Nat.lt_of_lt_of_le (by have := World.block_lt_of_cell? _ _ aa; first | rwa [add_block] at this | exact this) (IsS89.ge HI0.out))
   replace aa := pw_cell_below HB.out aa
   replace aa := (cell_far (p := ⟨g, 2, none⟩) (by first | (rw [add_block]; exact ac) | (show (Addr.add _ _).block ≠ _; rw [add_block]; exact ac) | exact ac) (.int .i64 (wrap64 ((wrap64 (ad * 6364136223846793005)) + 1442695040888963407)))).trans aa
   (try have hy500_0 := fun (n_ : Nat) => (show (((w.drewN n_).setCell ⟨g, 2, none⟩ (.int .i64 (wrap64 ((wrap64 (ad * 6364136223846793005)) + 1442695040888963407))))).cell? _ = some _ from aa)); clear ac; replace af := eq_true af; replace ag := eq_true ag
   go_enter Try.func101, Try.ntmps101
   go_wp2
   repeat (go_quiet (fail); try go_wp2)
   go_ret
   exact ⟨by first | rfl | (simp [errW_none, errW_some] <;> rfl) | (simp [*, errW_none, errW_some] <;> rfl), by repeat (first | (with_reducible first | exact HI0.out | apply IsS89.alloc | apply IsS89.drewN | apply IsS89.drew | apply IsS89.set_1 | apply IsS89.set_2) | exact HI0.out), by repeat (first | (with_reducible first | exact HB.out | apply zB | apply zC | apply zE | refine zS ?_ (IsS89.ge HI0.out)) | exact HB.out), by repeat (first | (with_reducible first | exact HK.out | apply KeepBut.set_ | apply keep_drewN | apply keep_drew | apply keep_alloc) | exact HK.out)⟩
  ·rw [if_neg c3] at H
   exact absurd H (by simp)
 ·rw [if_neg c2] at H
  have c2b0 : decide (ab < (ae.length : Int)) = false := decide_eq_false c2
  clear c2
  simp only [Option.some.injEq, Prod.mk.injEq] at H
  obtain ⟨rfl, rfl, rfl⟩ := H
  obtain ⟨ASz5_0, cSz5_0, HGz5, hgz5, HSz5_0⟩ := HI0.out
  have hcz5_0 := cellS89_0 HGz5; have hcz5_1 := cellS89_1 HGz5; have hcz5_2 := cellS89_2 HGz5; have hfz5_1 := blk_frozen HGz5 1; have hfz5_2 := blk_frozen HGz5 2; clear HGz5 hgz5
  go_enter Try.func101, Try.ntmps101
  go_wp2
  repeat (go_quiet (fail); try go_wp2)
  go_ret
  exact ⟨by first | rfl | (simp [errW_none, errW_some] <;> rfl) | (simp [*, errW_none, errW_some] <;> rfl), by repeat (first | (with_reducible first | exact HI0.out | apply IsS89.alloc | apply IsS89.drewN | apply IsS89.drew | apply IsS89.set_1 | apply IsS89.set_2) | exact HI0.out), by repeat (first | (with_reducible first | exact HB.out | apply zB | apply zC | apply zE | refine zS ?_ (IsS89.ge HI0.out)) | exact HB.out), by repeat (first | (with_reducible first | exact HK.out | apply KeepBut.set_ | apply keep_drewN | apply keep_drew | apply keep_alloc) | exact HK.out)⟩
def spec_l01Below.f (s0_0 : List Int) (s0_1 : Int) (s0_2 : Int) (a1 : Int) : Option (Int × Int × Int) := if a1 ≤ 0 then (some (0, s0_1, s0_2)) else (if a1 ≤ 256 then ((spec_l01Byte.f s0_0 s0_1 s0_2).bind fun bt501 => (if a1 = 0 then (none) else (some (Int.tmod bt501.1 a1, bt501.2.1, bt501.2.2)))) else ((spec_l01Byte.f s0_0 s0_1 s0_2).bind fun bt504 => ((spec_l01Byte.f s0_0 bt504.2.1 bt504.2.2).bind fun bt507 => ((spec_l01Byte.f s0_0 bt507.2.1 bt507.2.2).bind fun bt510 => ((spec_l01Byte.f s0_0 bt510.2.1 bt510.2.2).bind fun bt513 => (if a1 = 0 then (none) else (some (Int.tmod (wrap64 ((wrap64 ((wrap64 ((wrap64 (bt504.1 * 16777216)) + (wrap64 (bt507.1 * 65536)))) + (wrap64 (bt510.1 * 256)))) + bt513.1)) a1, bt513.2.1, bt513.2.2))))))))
set_option maxHeartbeats 8000000 in
set_option maxRecDepth 100000 in
theorem spec_l01Below.calls (g : Nat) (aa : List Int) (ab : Int) (ac : Int) (a1 : Int) (r1 : Int) (r2 : Int) (r3 : Int) (w0 w : World) (hI : IsS89 w0 w g aa ab ac) (hB : Below w0.heap.size w0 w) (h : spec_l01Below.f aa ab ac a1 = some (r1, r2, r3)) :
  Calls Try.prog 89 #[.pointer (some ⟨g, 0, none⟩), .int .i64 a1] w fun e w' => e = .returned (.int .i64 r1) ∧ IsS89 w0 w' g aa r2 r3 ∧ Below w0.heap.size w0 w' ∧ KeepBut w w' g none := by
 have HI0 := zK hI
 have HK := zK (KeepBut.refl w g none)
 have HL := zK hB.size; clear hI; have HW0 := zK hB.size; have HB := zK hB; clear hB
 have H : (if a1 ≤ 0 then (some (0, ab, ac)) else (if a1 ≤ 256 then ((spec_l01Byte.f aa ab ac).bind fun bt501 => (if a1 = 0 then (none) else (some (Int.tmod bt501.1 a1, bt501.2.1, bt501.2.2)))) else ((spec_l01Byte.f aa ab ac).bind fun bt504 => ((spec_l01Byte.f aa bt504.2.1 bt504.2.2).bind fun bt507 => ((spec_l01Byte.f aa bt507.2.1 bt507.2.2).bind fun bt510 => ((spec_l01Byte.f aa bt510.2.1 bt510.2.2).bind fun bt513 => (if a1 = 0 then (none) else (some (Int.tmod (wrap64 ((wrap64 ((wrap64 ((wrap64 (bt504.1 * 16777216)) + (wrap64 (bt507.1 * 65536)))) + (wrap64 (bt510.1 * 256)))) + bt513.1)) a1, bt513.2.1, bt513.2.2))))))))) = some (r1, r2, r3) := h
 clear h
 by_cases c3 : a1 ≤ 0
 ·rw [if_pos c3] at H
  have c3b0 : decide (a1 ≤ 0) = true := decide_eq_true c3
  clear c3
  simp only [Option.some.injEq, Prod.mk.injEq] at H
  obtain ⟨rfl, rfl, rfl⟩ := H
  go_enter Try.func89, Try.ntmps89
  go_wp2
  go_ret
  exact ⟨by first | rfl | (simp [errW_none, errW_some] <;> rfl) | (simp [*, errW_none, errW_some] <;> rfl), by repeat (first | (with_reducible first | exact HI0.out | apply IsS89.alloc | apply IsS89.drewN | apply IsS89.drew | apply IsS89.set_1 | apply IsS89.set_2) | exact HI0.out), by repeat (first | (with_reducible first | exact HB.out | apply zB | apply zC | apply zE | refine zS ?_ (IsS89.ge HI0.out)) | exact HB.out), by repeat (first | (with_reducible first | exact HK.out | apply KeepBut.set_ | apply keep_drewN | apply keep_drew | apply keep_alloc) | exact HK.out)⟩
 ·rw [if_neg c3] at H
  have c3b0 : decide (a1 ≤ 0) = false := decide_eq_false c3
  clear c3
  by_cases c4 : a1 ≤ 256
  ·rw [if_pos c4] at H
   have c4b0 : decide (a1 ≤ 256) = true := decide_eq_true c4
   clear c4; replace H := Option.bind_eq_some_iff.mp H
   obtain ⟨⟨ap, aq, ar⟩, A50, H⟩ := H
   replace H : (if a1 = 0 then (none) else (some (Int.tmod ap a1, aq, ar))) = some (r1, r2, r3) := H
   have A5 := zK A50; clear A50
   by_cases c6 : a1 = 0
   ·rw [if_pos c6] at H
    exact absurd H (by simp)
   ·rw [if_neg c6] at H
    have c6b0 : (a1 == 0) = false := beq_eq_false_iff_ne.mpr c6
    have c6b1 : (a1 != 0) = true := bne_iff_ne.mpr c6
    simp only [Option.some.injEq, Prod.mk.injEq] at H
    obtain ⟨rfl, rfl, rfl⟩ := H
    go_enter Try.func89, Try.ntmps89
    go_wp2_with (first | ((with_reducible refine gate_callee (f := 101) rfl ?_); refine goesL_ (some 14) rfl rfl Try.func101 (by kernel_rfl) rfl #[.pointer (some ⟨g, 0, none⟩)] rfl (by (try simp only [List.map_toArray, List.map_cons, List.map_nil]); first | done | rfl | (simp only [List.length_drop, List.length_take]; rfl)) ?_; (with_reducible refine (spec_l01Byte.calls g aa ab ac ap aq ar w0 _ ?side1 ?side2 A5.out).mono ?_); (case side1 => repeat (first | (with_reducible first | exact HI0.out | apply IsS89.alloc | apply IsS89.drewN | apply IsS89.drew | apply IsS89.set_1 | apply IsS89.set_2) | exact HI0.out)); (case side2 => repeat (first | (with_reducible first | exact HB.out | apply zB | apply zC | apply zE | refine zS ?_ (IsS89.ge HI0.out)) | exact HB.out)); rintro e w7 ⟨rfl, hi, hb, hk⟩; refine ⟨_, rfl, ?_⟩; have ad := zK (KeepBut.trans (by repeat (first | (with_reducible first | exact HK.out | apply KeepBut.set_ | apply keep_drewN | apply keep_drew | apply keep_alloc) | exact HK.out)) hk (.inl rfl)); have ae := zK (hb); have af := zK (hi); clear HK; clear HB; clear HI0; have HK := ad; have HB := ae; have HI0 := af; clear ad ae af; (try clear hb); (try clear hk); (try clear hi)))
    go_ret
    exact ⟨by first | rfl | (simp [errW_none, errW_some] <;> rfl) | (simp [*, errW_none, errW_some] <;> rfl), by repeat (first | (with_reducible first | exact HI0.out | apply IsS89.alloc | apply IsS89.drewN | apply IsS89.drew | apply IsS89.set_1 | apply IsS89.set_2) | exact HI0.out), by repeat (first | (with_reducible first | exact HB.out | apply zB | apply zC | apply zE | refine zS ?_ (IsS89.ge HI0.out)) | exact HB.out), by repeat (first | (with_reducible first | exact HK.out | apply KeepBut.set_ | apply keep_drewN | apply keep_drew | apply keep_alloc) | exact HK.out)⟩
  ·rw [if_neg c4] at H
   have c4b0 : decide (a1 ≤ 256) = false := decide_eq_false c4
   clear c4; replace H := Option.bind_eq_some_iff.mp H
   obtain ⟨⟨ag, ai, aj⟩, A80, H⟩ := H
   replace H : ((spec_l01Byte.f aa ai aj).bind fun bt507 => ((spec_l01Byte.f aa bt507.2.1 bt507.2.2).bind fun bt510 => ((spec_l01Byte.f aa bt510.2.1 bt510.2.2).bind fun bt513 => (if a1 = 0 then (none) else (some (Int.tmod (wrap64 ((wrap64 ((wrap64 ((wrap64 (ag * 16777216)) + (wrap64 (bt507.1 * 65536)))) + (wrap64 (bt510.1 * 256)))) + bt513.1)) a1, bt513.2.1, bt513.2.2)))))) = some (r1, r2, r3) := H
   have A8 := zK A80; clear A80; replace H := Option.bind_eq_some_iff.mp H
   obtain ⟨⟨ah, ak, al⟩, A90, H⟩ := H
   replace H : ((spec_l01Byte.f aa ak al).bind fun bt510 => ((spec_l01Byte.f aa bt510.2.1 bt510.2.2).bind fun bt513 => (if a1 = 0 then (none) else (some (Int.tmod (wrap64 ((wrap64 ((wrap64 ((wrap64 (ag * 16777216)) + (wrap64 (ah * 65536)))) + (wrap64 (bt510.1 * 256)))) + bt513.1)) a1, bt513.2.1, bt513.2.2))))) = some (r1, r2, r3) := H
   have A9 := zK A90; clear A90; replace H := Option.bind_eq_some_iff.mp H
   obtain ⟨⟨am, an, ao⟩, au, H⟩ := H
   replace H : ((spec_l01Byte.f aa an ao).bind fun bt513 => (if a1 = 0 then (none) else (some (Int.tmod (wrap64 ((wrap64 ((wrap64 ((wrap64 (ag * 16777216)) + (wrap64 (ah * 65536)))) + (wrap64 (am * 256)))) + bt513.1)) a1, bt513.2.1, bt513.2.2)))) = some (r1, r2, r3) := H
   have A10 := zK au; clear au; replace H := Option.bind_eq_some_iff.mp H
   obtain ⟨⟨av, aw, ax⟩, ay, H⟩ := H
   replace H : (if a1 = 0 then (none) else (some (Int.tmod (wrap64 ((wrap64 ((wrap64 ((wrap64 (ag * 16777216)) + (wrap64 (ah * 65536)))) + (wrap64 (am * 256)))) + av)) a1, aw, ax))) = some (r1, r2, r3) := H
   have A11 := zK ay; clear ay
   by_cases c12 : a1 = 0
   ·rw [if_pos c12] at H
    exact absurd H (by simp)
   ·rw [if_neg c12] at H
    have c12b0 : (a1 == 0) = false := beq_eq_false_iff_ne.mpr c12
    have c12b1 : (a1 != 0) = true := bne_iff_ne.mpr c12
    simp only [Option.some.injEq, Prod.mk.injEq] at H
    obtain ⟨rfl, rfl, rfl⟩ := H
    go_enter Try.func89, Try.ntmps89
    go_wp2_with (first | ((with_reducible refine gate_callee (f := 101) rfl ?_); refine goesL_ (some 18) rfl rfl Try.func101 (by kernel_rfl) rfl #[.pointer (some ⟨g, 0, none⟩)] rfl (by (try simp only [List.map_toArray, List.map_cons, List.map_nil]); first | done | rfl | (simp only [List.length_drop, List.length_take]; rfl)) ?_; (with_reducible refine (spec_l01Byte.calls g aa ab ac ag ai aj w0 _ ?side1 ?side2 A8.out).mono ?_); (case side1 => repeat (first | (with_reducible first | exact HI0.out | apply IsS89.alloc | apply IsS89.drewN | apply IsS89.drew | apply IsS89.set_1 | apply IsS89.set_2) | exact HI0.out)); (case side2 => repeat (first | (with_reducible first | exact HB.out | apply zB | apply zC | apply zE | refine zS ?_ (IsS89.ge HI0.out)) | exact HB.out)); rintro e w13 ⟨rfl, hi, hb, hk⟩; refine ⟨_, rfl, ?_⟩; have ad := zK (KeepBut.trans (by repeat (first | (with_reducible first | exact HK.out | apply KeepBut.set_ | apply keep_drewN | apply keep_drew | apply keep_alloc) | exact HK.out)) hk (.inl rfl)); have ae := zK (hb); have af := zK (hi); clear HK; clear HB; clear HI0; have HK := ad; have HB := ae; have HI0 := af; clear ad ae af; (try clear hb); (try clear hk); (try clear hi)) | ((with_reducible refine gate_callee (f := 101) rfl ?_); refine goesL_ (some 20) rfl rfl Try.func101 (by kernel_rfl) rfl #[.pointer (some ⟨g, 0, none⟩)] rfl (by (try simp only [List.map_toArray, List.map_cons, List.map_nil]); first | done | rfl | (simp only [List.length_drop, List.length_take]; rfl)) ?_; (with_reducible refine (spec_l01Byte.calls g aa ai aj ah ak al w0 _ ?side1 ?side2 A9.out).mono ?_); (case side1 => repeat (first | (with_reducible first | exact HI0.out | apply IsS89.alloc | apply IsS89.drewN | apply IsS89.drew | apply IsS89.set_1 | apply IsS89.set_2) | exact HI0.out)); (case side2 => repeat (first | (with_reducible first | exact HB.out | apply zB | apply zC | apply zE | refine zS ?_ (IsS89.ge HI0.out)) | exact HB.out)); rintro e w14 ⟨rfl, hi, hb, hk⟩; refine ⟨_, rfl, ?_⟩; have ad := zK (KeepBut.trans (by repeat (first | (with_reducible first | exact HK.out | apply KeepBut.set_ | apply keep_drewN | apply keep_drew | apply keep_alloc) | exact HK.out)) hk (.inl rfl)); have ae := zK (hb); have af := zK (hi); clear HK; clear HB; clear HI0; have HK := ad; have HB := ae; have HI0 := af; clear ad ae af; (try clear hb); (try clear hk); (try clear hi)) | ((with_reducible refine gate_callee (f := 101) rfl ?_); refine goesL_ (some 22) rfl rfl Try.func101 (by kernel_rfl) rfl #[.pointer (some ⟨g, 0, none⟩)] rfl (by (try simp only [List.map_toArray, List.map_cons, List.map_nil]); first | done | rfl | (simp only [List.length_drop, List.length_take]; rfl)) ?_; (with_reducible refine (spec_l01Byte.calls g aa ak al am an ao w0 _ ?side1 ?side2 A10.out).mono ?_); (case side1 => repeat (first | (with_reducible first | exact HI0.out | apply IsS89.alloc | apply IsS89.drewN | apply IsS89.drew | apply IsS89.set_1 | apply IsS89.set_2) | exact HI0.out)); (case side2 => repeat (first | (with_reducible first | exact HB.out | apply zB | apply zC | apply zE | refine zS ?_ (IsS89.ge HI0.out)) | exact HB.out)); rintro e w15 ⟨rfl, hi, hb, hk⟩; refine ⟨_, rfl, ?_⟩; have ad := zK (KeepBut.trans (by repeat (first | (with_reducible first | exact HK.out | apply KeepBut.set_ | apply keep_drewN | apply keep_drew | apply keep_alloc) | exact HK.out)) hk (.inl rfl)); have ae := zK (hb); have af := zK (hi); clear HK; clear HB; clear HI0; have HK := ad; have HB := ae; have HI0 := af; clear ad ae af; (try clear hb); (try clear hk); (try clear hi)) | ((with_reducible refine gate_callee (f := 101) rfl ?_); refine goesL_ (some 24) rfl rfl Try.func101 (by kernel_rfl) rfl #[.pointer (some ⟨g, 0, none⟩)] rfl (by (try simp only [List.map_toArray, List.map_cons, List.map_nil]); first | done | rfl | (simp only [List.length_drop, List.length_take]; rfl)) ?_; (with_reducible refine (spec_l01Byte.calls g aa an ao av aw ax w0 _ ?side1 ?side2 A11.out).mono ?_); (case side1 => repeat (first | (with_reducible first | exact HI0.out | apply IsS89.alloc | apply IsS89.drewN | apply IsS89.drew | apply IsS89.set_1 | apply IsS89.set_2) | exact HI0.out)); (case side2 => repeat (first | (with_reducible first | exact HB.out | apply zB | apply zC | apply zE | refine zS ?_ (IsS89.ge HI0.out)) | exact HB.out)); rintro e w16 ⟨rfl, hi, hb, hk⟩; refine ⟨_, rfl, ?_⟩; have ad := zK (KeepBut.trans (by repeat (first | (with_reducible first | exact HK.out | apply KeepBut.set_ | apply keep_drewN | apply keep_drew | apply keep_alloc) | exact HK.out)) hk (.inl rfl)); have ae := zK (hb); have af := zK (hi); clear HK; clear HB; clear HI0; have HK := ad; have HB := ae; have HI0 := af; clear ad ae af; (try clear hb); (try clear hk); (try clear hi)))
    go_ret
    exact ⟨by first | rfl | (simp [errW_none, errW_some] <;> rfl) | (simp [*, errW_none, errW_some] <;> rfl), by repeat (first | (with_reducible first | exact HI0.out | apply IsS89.alloc | apply IsS89.drewN | apply IsS89.drew | apply IsS89.set_1 | apply IsS89.set_2) | exact HI0.out), by repeat (first | (with_reducible first | exact HB.out | apply zB | apply zC | apply zE | refine zS ?_ (IsS89.ge HI0.out)) | exact HB.out), by repeat (first | (with_reducible first | exact HK.out | apply KeepBut.set_ | apply keep_drewN | apply keep_drew | apply keep_alloc) | exact HK.out)⟩
def spec_l01PickInt.f (s0_0 : List Int) (s0_1 : Int) (s0_2 : Int) (l1 : List Int) : Option (Int × Int × Int) := (spec_l01Below.f s0_0 s0_1 s0_2 (l1.length : Int)).bind fun bt516 => (if 0 ≤ bt516.1 then (if bt516.1 < (l1.length : Int) then (some (rd l1 bt516.1, bt516.2.1, bt516.2.2)) else (none)) else (none))
set_option maxHeartbeats 8000000 in
set_option maxRecDepth 100000 in
theorem spec_l01PickInt.calls (g : Nat) (ac : List Int) (ae : Int) (af : Int) (A1 : Option Addr) (c1 : Nat) (l1 : List Int) (r1 : Int) (r2 : Int) (r3 : Int) (w0 w : World) (hI : IsS89 w0 w g ac ae af) (hB : Below w0.heap.size w0 w) (hr1 : Kd.C (Kd.int .i64) w A1 l1.length l1) (hc1 : l1.length ≤ c1) (hf1 : ∀ ad, A1 = some ad → 0 < l1.length → ad.block ≠ g) (h : spec_l01PickInt.f ac ae af l1 = some (r1, r2, r3)) :
  Calls Try.prog 66 #[.pointer (some ⟨g, 0, none⟩), .slice A1 l1.length c1] w fun e w' => e = .returned (.int .i64 r1) ∧ IsS89 w0 w' g ac r2 r3 ∧ Below w0.heap.size w0 w' ∧ KeepBut w w' g none := by
 have HR1 := zK hr1; have HC1 := zK hc1; clear hr1 hc1; have HI0 := zK hI
 have HK := zK (KeepBut.refl w g none)
 have HL := zK hB.size; clear hI; have HW0 := zK hB.size; have HB := zK hB; clear hB
 have H : ((spec_l01Below.f ac ae af (l1.length : Int)).bind fun bt516 => (if 0 ≤ bt516.1 then (if bt516.1 < (l1.length : Int) then (some (rd l1 bt516.1, bt516.2.1, bt516.2.2)) else (none)) else (none))) = some (r1, r2, r3) := h
 clear h; replace H := Option.bind_eq_some_iff.mp H
 obtain ⟨⟨aa, ai, aj⟩, A30, H⟩ := H
 replace H : (if 0 ≤ aa then (if aa < (l1.length : Int) then (some (rd l1 aa, ai, aj)) else (none)) else (none)) = some (r1, r2, r3) := H
 have A3 := zK A30; clear A30
 by_cases c4 : 0 ≤ aa
 ·rw [if_pos c4] at H
  have c4b0 : decide (0 ≤ aa) = true := decide_eq_true c4
  clear c4
  by_cases c5 : aa < (l1.length : Int)
  ·rw [if_pos c5] at H
   have c5b0 : decide (aa < (l1.length : Int)) = true := decide_eq_true c5
   clear c5
   simp only [Option.some.injEq, Prod.mk.injEq] at H
   obtain ⟨rfl, rfl, rfl⟩ := H
   go_enter Try.func66, Try.ntmps66
   go_wp2_with (first | ((with_reducible refine gate_callee (f := 89) rfl ?_); refine goesL_ (some 9) rfl rfl Try.func89 (by kernel_rfl) rfl #[.pointer (some ⟨g, 0, none⟩), .int .i64 (l1.length : Int)] rfl (by (try simp only [List.map_toArray, List.map_cons, List.map_nil]); first | done | rfl | (simp only [List.length_drop, List.length_take]; rfl)) ?_; (with_reducible refine (spec_l01Below.calls g ac ae af (l1.length : Int) aa ai aj w0 _ ?side1 ?side2 A3.out).mono ?_); (case side1 => repeat (first | (with_reducible first | exact HI0.out | apply IsS89.alloc | apply IsS89.drewN | apply IsS89.drew | apply IsS89.set_1 | apply IsS89.set_2) | exact HI0.out)); (case side2 => repeat (first | (with_reducible first | exact HB.out | apply zB | apply zC | apply zE | refine zS ?_ (IsS89.ge HI0.out)) | exact HB.out)); rintro e w6 ⟨rfl, hi, hb, hk⟩; refine ⟨_, rfl, ?_⟩; have n0_ := zK (KeepBut.trans (by repeat (first | (with_reducible first | exact HK.out | apply KeepBut.set_ | apply keep_drewN | apply keep_drew | apply keep_alloc) | exact HK.out)) hk (.inl rfl)); have n1_ := zK (hb); have n2_ := zK (hi); clear HK; clear HB; clear HI0; have HK := n0_; have HB := n1_; have HI0 := n2_; clear n0_ n1_ n2_; (try clear hb); (try clear hk); (try clear hi); have ag : 0 ≤ (aa : Int) := zd; have ah : aa < (l1.length : Int) := zd; obtain ⟨ak, e519, ab⟩ := Kd.at_int HR1.out aa ag ah; cases e519; replace ab := keep_cell HK.out ab (by first | (rw [add_block]; exact hf1 _ rfl (by omega)) | exact hf1 _ rfl (by omega) | exact hf1 ak rfl (by omega)); replace ag := eq_true ag; replace ah := eq_true ah))
   go_ret
   exact ⟨by first | rfl | (simp [errW_none, errW_some] <;> rfl) | (simp [*, errW_none, errW_some] <;> rfl), by repeat (first | (with_reducible first | exact HI0.out | apply IsS89.alloc | apply IsS89.drewN | apply IsS89.drew | apply IsS89.set_1 | apply IsS89.set_2) | exact HI0.out), by repeat (first | (with_reducible first | exact HB.out | apply zB | apply zC | apply zE | refine zS ?_ (IsS89.ge HI0.out)) | exact HB.out), by repeat (first | (with_reducible first | exact HK.out | apply KeepBut.set_ | apply keep_drewN | apply keep_drew | apply keep_alloc) | exact HK.out)⟩
  ·rw [if_neg c5] at H
   exact absurd H (by simp)
 ·rw [if_neg c4] at H
  exact absurd H (by simp)
mutual
def spec_l06Small.l0 : Nat → Int → List Int → Int → Int → Int → List (List (S30)) → Option (Int × (List (List (S30))) × Int × Int)
 | 0, _, _, _, _, _, _ => none
 | k + 1, x4, x1000, x1001, x1002, x525000, x525001 => if x4 > 0 then (if x525001.length < 5864062014805 then (spec_l06Small.l0 k (wrap64 (x4 - 1)) x1000 x1001 x1002 x525000 (x525001 ++ [(([] : List (S30)))])) else (none)) else (spec_l06Small.l1 k 1 x1000 x1001 x1002 x525000 x525001)
def spec_l06Small.l1 : Nat → Int → List Int → Int → Int → Int → List (List (S30)) → Option (Int × (List (List (S30))) × Int × Int)
 | 0, _, _, _, _, _, _ => none
 | k + 1, x5, x1000, x1001, x1002, x525000, x525001 => (spec_l01Below.f x1000 x1001 x1002 4).bind fun bt534 => (if x5 ≤ (wrap64 (2 + bt534.1)) then ((spec_l01Below.f x1000 bt534.2.1 bt534.2.2 (x525001.length : Int)).bind fun bt537 => (if 0 ≤ bt537.1 then (if bt537.1 < (x525001.length : Int) then (if ((rd_L2 x525001 bt537.1).length : Int) < x525000 then ((spec_l01Below.f x1000 bt537.2.1 bt537.2.2 9).bind fun bt542 => (if (rd_L2 x525001 bt537.1).length < 8796093022208 then (spec_l06Small.l1 k (wrap64 (x5 + 1)) x1000 bt542.2.1 bt542.2.2 x525000 (x525001.set (bt537.1 : Int).toNat ((rd_L2 x525001 bt537.1) ++ [(⟨x5, bt542.1⟩ : S30)]))) else (none))) else (spec_l06Small.l1 k (wrap64 (x5 + 1)) x1000 bt537.2.1 bt537.2.2 x525000 x525001)) else (none)) else (none))) else (some (x525000, x525001, bt534.2.1, bt534.2.2)))
end
def spec_l06Small.f (k : Nat) (s0_0 : List Int) (s0_1 : Int) (s0_2 : Int) : Option (Int × (List (List (S30))) × Int × Int) := (spec_l01Below.f s0_0 s0_1 s0_2 4).bind fun bt521 => ((spec_l01Below.f s0_0 bt521.2.1 bt521.2.2 3).bind fun bt525 => (spec_l06Small.l0 k (wrap64 (2 + bt525.1)) s0_0 bt525.2.1 bt525.2.2 (wrap64 (1 + bt521.1)) ([] : List (List (S30)))))
def spec_l06Small.T10 : Bool × List (List Nat × List Nat) := (true, [([], []), ([0], [0]), ([], []), ([1, 2], [1, 2]), ([3], [3]), ([4], [4]), ([], []), ([6], [6]), ([5, 7], [5, 7])])
def spec_l06Small.B10 : List Nat := [0, 1, 0, 7, 15, 31, 0, 64, 255]
theorem spec_l06Small.tab10 : rtab .any (opsOf Try.f77 10) = spec_l06Small.T10 := by kernel_rfl
theorem spec_l06Small.bits10 : waitsOk spec_l06Small.T10.2 spec_l06Small.B10 = true := by kernel_rfl
def spec_l06Small.T11 : Bool × List (List Nat × List Nat) := (true, [([], []), ([0], [0]), ([], []), ([], []), ([3], [3]), ([], []), ([4, 5], [4, 5]), ([6], [6]), ([], []), ([], []), ([9], [9]), ([8, 10], [8, 10]), ([11], [11]), ([7, 12, 10], [7, 12]), ([1, 2, 0, 1, 2, 3, 4, 5, 6, 7, 8, 9, 10, 11, 12, 13], [1, 2]), ([14, 13, 13, 0, 1, 2, 3, 4, 5, 6, 7, 8, 9, 10, 11, 12, 13], [13, 14])])
def spec_l06Small.B11 : List Nat := [0, 1, 0, 0, 8, 0, 56, 120, 0, 0, 512, 1792, 3840, 8184, 16383, 32767]
theorem spec_l06Small.tab11 : rtab .any (opsOf Try.f77 11) = spec_l06Small.T11 := by kernel_rfl
theorem spec_l06Small.bits11 : waitsOk spec_l06Small.T11.2 spec_l06Small.B11 = true := by kernel_rfl
set_option maxHeartbeats 8000000 in
set_option maxRecDepth 100000 in
theorem spec_l06Small.calls (k : Nat) (g : Nat) (ai : List Int) (bt : Int) (bv : Int) (r1 : Int) (r2 : List (List (S30))) (r3 : Int) (r4 : Int) (w0 w : World) (hI : IsS89 w0 w g ai bt bv) (hB : Below w0.heap.size w0 w) (h : spec_l06Small.f k ai bt bv = some (r1, r2, r3, r4)) :
  Calls Try.prog 77 #[.pointer (some ⟨g, 0, none⟩)] w fun e w' => ∃ v1_ : Value, e = .returned (.agg #[.int .i64 r1, v1_]) ∧ Kd.S (Kd.slice 30 k30) 28 w' w.heap.size (fun _ => True) v1_ r2 ∧ IsS89 w0 w' g ai r3 r4 ∧ Below w0.heap.size w0 w' ∧ KeepBut w w' g none := by
 have hu24 := Try.underlying24; have hu30 := Try.underlying30; have HI0 := zK hI
 have HK := zK (KeepBut.refl w g none)
 have HL := zK hB.size; clear hI; have HW0 := zK hB.size; have HB := zK hB; clear hB
 have H : ((spec_l01Below.f ai bt bv 4).bind fun bt521 => ((spec_l01Below.f ai bt521.2.1 bt521.2.2 3).bind fun bt525 => (spec_l06Small.l0 k (wrap64 (2 + bt525.1)) ai bt525.2.1 bt525.2.2 (wrap64 (1 + bt521.1)) ([] : List (List (S30)))))) = some (r1, r2, r3, r4) := h
 clear h; replace H := Option.bind_eq_some_iff.mp H
 obtain ⟨⟨aj, bB, bC⟩, A20, H⟩ := H
 replace H : ((spec_l01Below.f ai bB bC 3).bind fun bt525 => (spec_l06Small.l0 k (wrap64 (2 + bt525.1)) ai bt525.2.1 bt525.2.2 (wrap64 (1 + aj)) ([] : List (List (S30))))) = some (r1, r2, r3, r4) := H
 have A2 := zK A20; clear A20; replace H := Option.bind_eq_some_iff.mp H
 obtain ⟨⟨cb, bh, bi⟩, A30, H⟩ := H
 replace H : (spec_l06Small.l0 k (wrap64 (2 + cb)) ai bh bi (wrap64 (1 + aj)) ([] : List (List (S30)))) = some (r1, r2, r3, r4) := H
 have A3 := zK A30; clear A30; have H' := zK H; clear H
 go_enter Try.func77, Try.ntmps77
 go_wp2_with (first | ((with_reducible refine gate_dst (N := 2) rfl ?_); refine box_event ?hg (N := 2) ?hd (cs := #[.int .i64 0, .slice none 0 0]) (t := 24) ?hr ?_; (case hd => rfl); (case hg => rfl); (case hr => first | (go_simp; done) | (go_simp; rfl)); intro ak hg w4 hbox hb; have ay := zK (IsS89.below (by repeat (first | (with_reducible first | exact HI0.out | apply IsS89.alloc | apply IsS89.drewN | apply IsS89.drew | apply IsS89.set_1 | apply IsS89.set_2) | exact HI0.out)) hb); have az := zK (KeepBut.trans (by repeat (first | (with_reducible first | exact HK.out | apply KeepBut.set_ | apply keep_drewN | apply keep_drew | apply keep_alloc) | exact HK.out)) (KeepBut.of_below hb g none) (.inl rfl)); have aA := zK (below_step (by repeat (first | (with_reducible first | exact HB.out | apply zB | apply zC | apply zE | refine zS ?_ (IsS89.ge HI0.out)) | exact HB.out)) hb); have aB := zK (hbox); have aG := zK ((by rw [hg]; exact (keep_size (w := w) (g := g) (row := none) (by repeat (first | (with_reducible first | exact HK.out | apply KeepBut.set_ | apply keep_drewN | apply keep_drew | apply keep_alloc) | exact HK.out))) : w.heap.size ≤ ak)); have aI := zK ((Nat.le_trans HW0.out (by rw [hg]; exact (keep_size (w := w) (g := g) (row := none) (by repeat (first | (with_reducible first | exact HK.out | apply KeepBut.set_ | apply keep_drewN | apply keep_drew | apply keep_alloc) | exact HK.out))) : w.heap.size ≤ ak) : w0.heap.size ≤ ak)); have a9 := zK ((by rw [hg]; exact Nat.ne_of_lt (IsS89.lt (show IsS89 w0 _ g ai bt bv from by repeat (first | (with_reducible first | exact HI0.out | apply IsS89.alloc | apply IsS89.drewN | apply IsS89.drew | apply IsS89.set_1 | apply IsS89.set_2) | exact HI0.out))) : g ≠ ak)); have bD := zK ((by rw [hg]; exact Nat.ne_of_gt (IsS89.lt (show IsS89 w0 _ g ai bt bv from by repeat (first | (with_reducible first | exact HI0.out | apply IsS89.alloc | apply IsS89.drewN | apply IsS89.drew | apply IsS89.set_1 | apply IsS89.set_2) | exact HI0.out))) : ak ≠ g)); clear HI0; clear HK; clear HB; have HI0 := ay; have HK := az; have HB := aA; have ad := aB; have am := aG; have ar := aI; have ae := a9; have aC := bD; clear ay az aA aB aG aI a9 bD; clear hb hbox hg) | ((with_reducible refine gate_callee (f := 89) rfl ?_); refine goesL_ (some 8) rfl rfl Try.func89 (by kernel_rfl) rfl #[.pointer (some ⟨g, 0, none⟩), .int .i64 4] rfl (by (try simp only [List.map_toArray, List.map_cons, List.map_nil]); first | done | rfl | (simp only [List.length_drop, List.length_take]; rfl)) ?_; (with_reducible refine (spec_l01Below.calls g ai bt bv 4 aj bB bC w0 _ ?side1 ?side2 A2.out).mono ?_); (case side1 => repeat (first | (with_reducible first | exact HI0.out | apply IsS89.alloc | apply IsS89.drewN | apply IsS89.drew | apply IsS89.set_1 | apply IsS89.set_2 | refine IsS89.far ?_ ae.out _) | exact HI0.out)); (case side2 => repeat (first | (with_reducible first | exact HB.out | apply zB | apply zC | apply zE | refine zS ?_ (IsS89.ge HI0.out) | refine zS ?_ ar.out) | exact HB.out)); rintro e w5 ⟨rfl, hi, hb, hk⟩; refine ⟨_, rfl, ?_⟩; have ay := zK (KeepBut.blk hk (g' := ak) (o := .cells #[.int .i64 0, .slice none 0 0] 24 (0, 0)) (zk ad) aC.out (by simp)); have az := zK (KeepBut.trans (by repeat (first | (with_reducible first | exact HK.out | apply KeepBut.set_ | apply keep_drewN | apply keep_drew | apply keep_alloc | refine keep_far ?_ am.out _) | exact HK.out)) hk (.inl rfl)); have aA := zK (hb); have aB := zK (hi); clear ad; clear HK; clear HB; clear HI0; have ad := ay; have HK := az; have HB := aA; have HI0 := aB; clear ay az aA aB; (try clear hb); (try clear hk); (try clear hi)) | ((with_reducible refine gate_dst (N := 3) rfl ?_); refine box_event ?hg (N := 3) ?hd (cs := #[.int .i64 0, .slice none 0 0]) (t := 24) ?hr ?_; (case hd => rfl); (case hg => rfl); (case hr => first | (go_simp; done) | (go_simp; rfl)); intro ah hg w6 hbox hb; have ay := zK (IsS89.below (by repeat (first | (with_reducible first | exact HI0.out | apply IsS89.alloc | apply IsS89.drewN | apply IsS89.drew | apply IsS89.set_1 | apply IsS89.set_2 | refine IsS89.far ?_ ae.out _) | exact HI0.out)) hb); have az := zK (blk_below (g := ak) (o := .cells #[.int .i64 0, .slice none 0 0] 24 (0, 0)) (zk ad) hb); have aA := zK (KeepBut.trans (by repeat (first | (with_reducible first | exact HK.out | apply KeepBut.set_ | apply keep_drewN | apply keep_drew | apply keep_alloc | refine keep_far ?_ am.out _) | exact HK.out)) (KeepBut.of_below hb g none) (.inl rfl)); have aB := zK (below_step (by repeat (first | (with_reducible first | exact HB.out | apply zB | apply zC | apply zE | refine zS ?_ (IsS89.ge HI0.out) | refine zS ?_ ar.out) | exact HB.out)) hb); have aG := zK (hbox); have aI := zK ((by rw [hg]; exact (keep_size (w := w) (g := g) (row := none) (by repeat (first | (with_reducible first | exact HK.out | apply KeepBut.set_ | apply keep_drewN | apply keep_drew | apply keep_alloc | refine keep_far ?_ am.out _) | exact HK.out))) : w.heap.size ≤ ah)); have a9 := zK ((Nat.le_trans HW0.out (by rw [hg]; exact (keep_size (w := w) (g := g) (row := none) (by repeat (first | (with_reducible first | exact HK.out | apply KeepBut.set_ | apply keep_drewN | apply keep_drew | apply keep_alloc | refine keep_far ?_ am.out _) | exact HK.out))) : w.heap.size ≤ ah) : w0.heap.size ≤ ah)); have bD := zK ((by rw [hg]; exact Nat.ne_of_lt (blk_lt (g := ak) (o := .cells #[.int .i64 0, .slice none 0 0] 24 (0, 0)) (zk ad)) : ak ≠ ah)); have cr := zK ((by rw [hg]; exact Nat.ne_of_gt (blk_lt (g := ak) (o := .cells #[.int .i64 0, .slice none 0 0] 24 (0, 0)) (zk ad)) : ah ≠ ak)); have n9_ := zK ((by rw [hg]; exact Nat.ne_of_lt (IsS89.lt (show IsS89 w0 _ g ai bB bC from by repeat (first | (with_reducible first | exact HI0.out | apply IsS89.alloc | apply IsS89.drewN | apply IsS89.drew | apply IsS89.set_1 | apply IsS89.set_2 | refine IsS89.far ?_ ae.out _) | exact HI0.out))) : g ≠ ah)); have ct := zK ((by rw [hg]; exact Nat.ne_of_gt (IsS89.lt (show IsS89 w0 _ g ai bB bC from by repeat (first | (with_reducible first | exact HI0.out | apply IsS89.alloc | apply IsS89.drewN | apply IsS89.drew | apply IsS89.set_1 | apply IsS89.set_2 | refine IsS89.far ?_ ae.out _) | exact HI0.out))) : ah ≠ g)); clear HI0; clear ad; clear HK; clear HB; have HI0 := ay; have ad := az; have HK := aA; have HB := aB; have ac := aG; have ap := aI; have ax := a9; have aq := bD; have aJ := cr; have af := n9_; have ao := ct; clear ay az aA aB aG aI a9 bD cr n9_ ct; clear hb hbox hg; have hnb7 := aJ.out; have hnc7 := aq.out; have hnb8 := ao.out; have hnc8 := af.out; have bE : w6.cell? ⟨ah, 0, none⟩ = some (.int .i64 0) := (blk_cell ac.out 0).trans rfl; have bF : w6.cell? ⟨ah, 1, none⟩ = some (.slice none 0 0) := (blk_cell ac.out 1).trans rfl; have bG := blk_frozen ac.out 0; have bH := blk_frozen ac.out 1) | ((with_reducible refine gate_callee (f := 89) rfl ?_); refine goesL_ (some 12) rfl rfl Try.func89 (by kernel_rfl) rfl #[.pointer (some ⟨g, 0, none⟩), .int .i64 3] rfl (by (try simp only [List.map_toArray, List.map_cons, List.map_nil]); first | done | rfl | (simp only [List.length_drop, List.length_take]; rfl)) ?_; (with_reducible refine (spec_l01Below.calls g ai bB bC 3 cb bh bi w0 _ ?side1 ?side2 A3.out).mono ?_); (case side1 => repeat (first | (with_reducible first | exact HI0.out | apply IsS89.alloc | apply IsS89.drewN | apply IsS89.drew | apply IsS89.set_1 | apply IsS89.set_2 | refine IsS89.far ?_ ae.out _ | refine IsS89.far ?_ af.out _) | exact HI0.out)); (case side2 => repeat (first | (with_reducible first | exact HB.out | apply zB | apply zC | apply zE | refine zS ?_ (IsS89.ge HI0.out) | refine zS ?_ ar.out | refine zS ?_ ax.out) | exact HB.out)); rintro e w10 ⟨rfl, hi, hb, hk⟩; refine ⟨_, rfl, ?_⟩; have ay := zK (KeepBut.blk hk (g' := ak) (o := .cells #[.int .i64 0, .slice none 0 0] 24 (0, 0)) (by (with_reducible repeat (first | refine zN ?_ _ | refine zD ?_ | refine zA ?_ _)); refine blk_far ?_ aq.out _; (with_reducible repeat (first | refine zN ?_ _ | refine zD ?_ | refine zA ?_ _)); refine blk_far ?_ aq.out _; (with_reducible repeat (first | refine zN ?_ _ | refine zD ?_ | refine zA ?_ _)); exact ad.out) aC.out (by simp)); have az := zK (KeepBut.blk hk (g' := ah) (o := .cells #[.int .i64 (wrap64 (1 + aj)), .slice none 0 0] 24 (0, 0)) (by (with_reducible repeat (first | refine zN ?_ _ | refine zD ?_ | refine zA ?_ _)); refine blk_put (cs := #[.int .i64 (wrap64 (1 + aj)), .slice none 0 0]) ?_ 1 _ rfl; (with_reducible repeat (first | refine zN ?_ _ | refine zD ?_ | refine zA ?_ _)); refine blk_put (cs := #[.int .i64 0, .slice none 0 0]) ?_ 0 _ rfl; (with_reducible repeat (first | refine zN ?_ _ | refine zD ?_ | refine zA ?_ _)); exact ac.out) ao.out (by simp)); have aA := zK (KeepBut.trans (by repeat (first | (with_reducible first | exact HK.out | apply KeepBut.set_ | apply keep_drewN | apply keep_drew | apply keep_alloc | refine keep_far ?_ am.out _ | refine keep_far ?_ ap.out _) | exact HK.out)) hk (.inl rfl)); have aB := zK (hb); have aG := zK (hi); clear ad; clear ac; clear HK; clear HB; clear HI0; have ad := ay; have ac := az; have HK := aA; have HB := aB; have HI0 := aG; clear ay az aA aB aG; (try clear hb); (try clear hk); (try clear hi)))
 go_loopg [4] k (fun kq v4 w' => ∃ (aZ : Int) (an : List (List (S30))) (u525001 : Value), v4 = .int .i64 aZ ∧ Aside0 (spec_l06Small.l0 kq aZ ai bh bi (wrap64 (1 + aj)) an = some (r1, r2, r3, r4)) ∧ Aside0 (kq ≤ k) ∧ Aside0 (Kd.S (Kd.slice 30 k30) 28 w' w.heap.size (fun _ => True) u525001 an) ∧ Aside0 (w'.heap[ak]? = some (.cells #[.int .i64 0, (.slice none 0 0)] 24 (0, 0))) ∧ Aside0 (w'.heap[ah]? = some (.cells #[.int .i64 (wrap64 (1 + aj)), u525001] 24 (0, 0))) ∧ Aside0 (IsS89 w0 w' g ai bh bi) ∧ Aside0 (KeepBut w w' g none) ∧ Aside0 (Below w0.heap.size w0 w'))
 case atStart => exact ⟨(wrap64 (2 + cb)), (([] : List (List (S30)))), (.slice none 0 0), (by first | rfl | (simp; done) | (simp [*]; done)), H', ⟨Nat.le_refl _⟩, ⟨by first | exact Kd.S_nil _ _ _ _ _ | exact Kd.N_nil _ _ _ _ _ | exact Kd.V_nil _ _ _ _ _ | exact Kd.Q_nil _ _ _ _ _ | exact Kd.R_nil _ _ _ _ _⟩, ⟨zk ad⟩, ⟨zk ac⟩, ⟨by repeat (first | (with_reducible first | exact HI0.out | apply IsS89.alloc | apply IsS89.drewN | apply IsS89.drew | apply IsS89.set_1 | apply IsS89.set_2 | refine IsS89.far ?_ ae.out _ | refine IsS89.far ?_ af.out _) | exact HI0.out)⟩, ⟨by repeat (first | (with_reducible first | exact HK.out | apply KeepBut.set_ | apply keep_drewN | apply keep_drew | apply keep_alloc | refine keep_far ?_ am.out _ | refine keep_far ?_ ap.out _) | exact HK.out)⟩, ⟨by repeat (first | (with_reducible first | exact HB.out | apply zB | apply zC | apply zE | refine zS ?_ (IsS89.ge HI0.out) | refine zS ?_ ar.out | refine zS ?_ ax.out) | exact HB.out)⟩⟩
 case round =>
  clear H'
  try clear p2
  try clear p6
  try clear c7
  try clear c8
  try clear bE
  try clear bF
  try clear bG
  try clear bH
  obtain ⟨aZ, an, u525001, rfl, HA, co, aa, ad, ac, HI0, HK, HB⟩ := hrel
  cases gk with
  | zero => exact absurd HA.out (by simp [spec_l06Small.l0])
  | succ k1 =>
   have H := HA.out; clear HA
   simp only [spec_l06Small.l0] at H
   by_cases cc : aZ > 0
   ·rw [if_pos cc] at H
    have b3 : decide (0 < aZ) = true := decide_eq_true cc
    clear cc
    obtain ⟨bI, ba⟩ : ∃ y_ : List (S30), y_ = (([] : List (S30))) := ⟨_, rfl⟩
    replace H : (if an.length < 5864062014805 then (spec_l06Small.l0 k1 (wrap64 (aZ - 1)) ai bh bi (wrap64 (1 + aj)) (an ++ [bI])) else (none)) = some (r1, r2, r3, r4) := by first | (rw [ba]; with_reducible exact H) | (have H2_ := (Option.bind_some _ _).symm.trans H; rw [ba]; with_reducible exact H2_) | (have H2_ := (Option.bind_some _ _).symm.trans H; with_reducible exact H2_) | with_reducible exact H | (rw [ba]; exact H) | exact H
    have Ny528 := zK ba; clear ba
    by_cases cu : an.length < 5864062014805
    ·rw [if_pos cu] at H
     have cv := zK cu; clear cu
     obtain ⟨bO, bb⟩ : ∃ y_ : List (List (S30)), y_ = (an ++ [bI]) := ⟨_, rfl⟩
     replace H : (spec_l06Small.l0 k1 (wrap64 (aZ - 1)) ai bh bi (wrap64 (1 + aj)) bO) = some (r1, r2, r3, r4) := by first | (rw [bb]; with_reducible exact H) | (have H2_ := (Option.bind_some _ _).symm.trans H; rw [bb]; with_reducible exact H2_) | (have H2_ := (Option.bind_some _ _).symm.trans H; with_reducible exact H2_) | with_reducible exact H | (rw [bb]; exact H) | exact H
     have Ny531 := zK bb; clear bb; have H' := zK H; clear H; have hnb13 := aJ.out; have hnc13 := aq.out; have hnb14 := ao.out; have hnc14 := af.out
     have bP : wr.cell? ⟨ah, 0, none⟩ = some (.int .i64 (wrap64 (1 + aj))) := (blk_cell ac.out 0).trans rfl
     have bQ : wr.cell? ⟨ah, 1, none⟩ = some (u525001) := (blk_cell ac.out 1).trans rfl
     have bR := blk_frozen ac.out 0; have bS := blk_frozen ac.out 1
     go_wp2_with (first | ((with_reducible refine gate_dst (N := 20) rfl ?_); refine Kd.R_lit k30 _ 30 ?hg (N := 20) ?hd (xs := ([] : List (S30))) (inner := []) (ok := fun _ => True) (okp := fun _ => True) ?hr ?hp (fun _ hk => hk) trivial (Below.refl _ _) (Nat.le_refl _) (by simp) ?_; (case hd => rfl); (case hg => rfl); (case hr => first | (go_simp; done) | (go_simp; rfl)); (case hp => exact (Reps.none _ _)); intro v529 w16 ho17 hb hg_ hnew_; clear hg_ hnew_; (first | rw [← Ny528.out] at ho17 | (simp only [Int.reduceToNat] at ho17; rw [← Ny528.out] at ho17)); have ay := zK (Kd.S_elder' (zT aa) (Kd.R_base ho17) hb); have az := zK (Kd.R_lower ho17 (keep_size (w := w) (g := g) (row := none) (by repeat (first | (with_reducible first | exact HK.out | apply KeepBut.set_ | apply keep_drewN | apply keep_drew | apply keep_alloc | refine keep_far ?_ am.out _ | refine keep_far ?_ ap.out _) | exact HK.out)))); have aA := zK (blk_below (g := ak) (o := .cells #[.int .i64 0, .slice none 0 0] 24 (0, 0)) (zk ad) hb); have aB := zK (blk_below (g := ah) (o := .cells #[.int .i64 (wrap64 (1 + aj)), u525001] 24 (0, 0)) (zk ac) hb); have aG := zK (IsS89.below (by repeat (first | (with_reducible first | exact HI0.out | apply IsS89.alloc | apply IsS89.drewN | apply IsS89.drew | apply IsS89.set_1 | apply IsS89.set_2 | refine IsS89.far ?_ ae.out _ | refine IsS89.far ?_ af.out _) | exact HI0.out)) hb); have aI := zK (KeepBut.trans (by repeat (first | (with_reducible first | exact HK.out | apply KeepBut.set_ | apply keep_drewN | apply keep_drew | apply keep_alloc | refine keep_far ?_ am.out _ | refine keep_far ?_ ap.out _) | exact HK.out)) (KeepBut.of_below hb g none) (.inl rfl)); have a9 := zK (below_step (by repeat (first | (with_reducible first | exact HB.out | apply zB | apply zC | apply zE | refine zS ?_ (IsS89.ge HI0.out) | refine zS ?_ ar.out | refine zS ?_ ax.out) | exact HB.out)) hb); clear aa; clear ad; clear ac; clear HI0; clear HK; clear HB; have aa := ay; have bq := az; have ad := aA; have ac := aB; have HI0 := aG; have HK := aI; have HB := a9; clear ay az aA aB aG aI a9; clear hb ho17; obtain ⟨cw, cx, eo19⟩ := Kd.R_slice bq.out; subst eo19) | ((with_reducible refine gate_builtin (b := .append) (xs := #[.tmp 19, .tmp 21]) rfl ?_); at_builtin; refine Kd.S_append (Kd.slice 30 k30) w.heap.size rfl (.tmp 19) (.tmp 21) 22 28 (.slice none 0 0) 24 rfl Try.underlying22 info28 rfl (by decide) (by omega) u525001 an bI [.slice cw bI.length cx] (fun _ => True) (fun k_ => some k_ = (.slice cw bI.length cx : Value).ownBlock) rfl rfl ?aP (fun k_ hk_ => ((Kd.R_mono (ok' := fun k_ => ((fun _ => True)) k_ ∧ some k_ ≠ (u525001 : Value).ownBlock) (Kd.R_apart' (bq.out) (Kd.S_typed aa.out) (by decide)) (fun k_ hk => ⟨trivial, hk.2⟩))).1 k_ hk_.symm) ?aF ?aO (Below.refl _ _) ?aS ?aL ?_; (case aP => exact Kd.M_row (Kd.R_mono (Kd.R_tight rfl (Kd.R_mono (ok' := fun k_ => ((fun _ => True)) k_ ∧ some k_ ≠ (u525001 : Value).ownBlock) (Kd.R_apart' (bq.out) (Kd.S_typed aa.out) (by decide)) (fun k_ hk => ⟨trivial, hk.2⟩))) (fun _ h_ => h_))); (case aF => exact (fun _ _ => trivial)); (case aO => exact (by (with_reducible repeat (first | apply Kd.S_alloc | apply Kd.S_drewN | apply Kd.S_drew)); exact Kd.S_mono aa.out (fun k_ hk => ⟨trivial, fun e_ => hk.2 e_⟩))); (case aS => exact (keep_size (w := w) (g := g) (row := none) (by repeat (first | (with_reducible first | exact HK.out | apply KeepBut.set_ | apply keep_drewN | apply keep_drew | apply keep_alloc | refine keep_far ?_ am.out _ | refine keep_far ?_ ap.out _) | exact HK.out)))); (case aL => have := cv.out; omega); intro v532 w18 ho hb hg hat; rw [← Ny531.out] at ho; have ay := zK (blk_grown (g := ak) (o := .cells #[.int .i64 0, .slice none 0 0] 24 (0, 0)) (zk ad) hg (Kd.S_ne aa.out ad.out (by decide))); have az := zK (blk_grown (g := ah) (o := .cells #[.int .i64 (wrap64 (1 + aj)), u525001] 24 (0, 0)) (zk ac) hg (Kd.S_ne aa.out ac.out (by decide))); have aA := zK (IsS89.grown (by repeat (first | (with_reducible first | exact HI0.out | apply IsS89.alloc | apply IsS89.drewN | apply IsS89.drew | apply IsS89.set_1 | apply IsS89.set_2 | refine IsS89.far ?_ ae.out _ | refine IsS89.far ?_ af.out _) | exact HI0.out)) hg (IsS89.own_neS HI0.out aa.out (by decide))); have aB := zK (below_weaken (by repeat (first | (with_reducible first | exact HB.out | apply zB | apply zC | apply zE | refine zS ?_ (IsS89.ge HI0.out) | refine zS ?_ ar.out | refine zS ?_ ax.out) | exact HB.out)) HL.out hb); have aG := zK (KeepBut.trans (by repeat (first | (with_reducible first | exact HK.out | apply KeepBut.set_ | apply keep_drewN | apply keep_drew | apply keep_alloc | refine keep_far ?_ am.out _ | refine keep_far ?_ ap.out _) | exact HK.out)) (KeepBut.of_grown hg g) (Kd.S_base2 aa.out)); have aI := zK (ho); clear ad; clear ac; clear HI0; clear HB; clear HK; clear aa; clear bq; have ad := ay; have ac := az; have HI0 := aA; have HB := aB; have HK := aG; have b4 := aI; clear ay az aA aB aG aI; clear ho hb hg hat; obtain ⟨cy, cz, eo20⟩ := Kd.S_slice b4.out; subst eo20; have bT : w18.cell? ⟨ah, 0, none⟩ = some (.int .i64 (wrap64 (1 + aj))) := (blk_cell ac.out 0).trans rfl; have bU : w18.cell? ⟨ah, 1, none⟩ = some (u525001) := (blk_cell ac.out 1).trans rfl; have bV := blk_frozen ac.out 0; have bW := blk_frozen ac.out 1))
     go_roundg k1
     case measure => have := co.out; omega
     case rel => exact ⟨(wrap64 (aZ - 1)), (bO), (.slice cy bO.length cz), (by first | rfl | (simp; done) | (simp [*]; done)), H', ⟨by have := co.out; omega⟩, ⟨by (with_reducible repeat (first | apply Kd.S_alloc | apply Kd.S_drewN | apply Kd.S_drew)); exact Kd.S_mono (Kd.S_far (p := ⟨ah, 1, none⟩) (Kd.S_types b4.out ac.out (by decide)) (fun _ hk => hk.2) (.slice cy bO.length cz)) (fun _ hk => trivial)⟩, ⟨by (with_reducible repeat (first | refine zN ?_ _ | refine zD ?_ | refine zA ?_ _)); refine blk_far ?_ aq.out _; (with_reducible repeat (first | refine zN ?_ _ | refine zD ?_ | refine zA ?_ _)); exact ad.out⟩, ⟨by (with_reducible repeat (first | refine zN ?_ _ | refine zD ?_ | refine zA ?_ _)); refine blk_put (cs := #[.int .i64 (wrap64 (1 + aj)), u525001]) ?_ 1 _ rfl; (with_reducible repeat (first | refine zN ?_ _ | refine zD ?_ | refine zA ?_ _)); exact ac.out⟩, ⟨by repeat (first | (with_reducible first | exact HI0.out | apply IsS89.alloc | apply IsS89.drewN | apply IsS89.drew | apply IsS89.set_1 | apply IsS89.set_2 | refine IsS89.far ?_ ae.out _ | refine IsS89.far ?_ af.out _) | exact HI0.out)⟩, ⟨by repeat (first | (with_reducible first | exact HK.out | apply KeepBut.set_ | apply keep_drewN | apply keep_drew | apply keep_alloc | refine keep_far ?_ am.out _ | refine keep_far ?_ ap.out _) | exact HK.out)⟩, ⟨by repeat (first | (with_reducible first | exact HB.out | apply zB | apply zC | apply zE | refine zS ?_ (IsS89.ge HI0.out) | refine zS ?_ ar.out | refine zS ?_ ax.out) | exact HB.out)⟩⟩
    ·rw [if_neg cu] at H
     exact absurd H (by simp)
   ·rw [if_neg cc] at H
    have b3 : decide (0 < aZ) = false := decide_eq_false cc
    clear cc; have H' := zK H; clear H
    go_wp2
    go_loopg [5] k1 (fun kq v5 w' => ∃ (aH : Int) (aD : Int) (aE : Int) (ab : List (List (S30))) (u525001 : Value), v5 = .int .i64 aH ∧ Aside0 (spec_l06Small.l1 kq aH ai aD aE (wrap64 (1 + aj)) ab = some (r1, r2, r3, r4)) ∧ Aside0 (kq ≤ k1) ∧ Aside0 (Kd.S (Kd.slice 30 k30) 28 w' w.heap.size (fun _ => True) u525001 ab) ∧ Aside0 (w'.heap[ak]? = some (.cells #[.int .i64 0, (.slice none 0 0)] 24 (0, 0))) ∧ Aside0 (w'.heap[ah]? = some (.cells #[.int .i64 (wrap64 (1 + aj)), u525001] 24 (0, 0))) ∧ Aside0 (IsS89 w0 w' g ai aD aE) ∧ Aside0 (KeepBut w w' g none) ∧ Aside0 (Below w0.heap.size w0 w'))
    case atStart => exact ⟨(1), (bh), (bi), (an), (u525001), (by first | rfl | (simp; done) | (simp [*]; done)), H', ⟨Nat.le_refl _⟩, ⟨zT aa⟩, ⟨zk ad⟩, ⟨zk ac⟩, ⟨by repeat (first | (with_reducible first | exact HI0.out | apply IsS89.alloc | apply IsS89.drewN | apply IsS89.drew | apply IsS89.set_1 | apply IsS89.set_2 | refine IsS89.far ?_ ae.out _ | refine IsS89.far ?_ af.out _) | exact HI0.out)⟩, ⟨by repeat (first | (with_reducible first | exact HK.out | apply KeepBut.set_ | apply keep_drewN | apply keep_drew | apply keep_alloc | refine keep_far ?_ am.out _ | refine keep_far ?_ ap.out _) | exact HK.out)⟩, ⟨by repeat (first | (with_reducible first | exact HB.out | apply zB | apply zC | apply zE | refine zS ?_ (IsS89.ge HI0.out) | refine zS ?_ ar.out | refine zS ?_ ax.out) | exact HB.out)⟩⟩
    case round =>
     clear H'
     try clear c1
     try clear p2
     try clear p6
     try clear c7
     try clear c8
     try clear cc
     try clear b3
     try clear cu
     try clear c13
     try clear c14
     try clear bP
     try clear bQ
     try clear bT
     try clear bU
     try clear bE
     try clear bF
     try clear bR
     try clear bS
     try clear bV
     try clear bW
     try clear bG
     try clear bH
     try clear p2
     try clear p6
     obtain ⟨aH, aD, aE, ab, u525001, rfl, HA, HK2, aa, ad, ac, HI0, HK, HB⟩ := hrel
     cases gk with
     | zero => exact absurd HA.out (by simp [spec_l06Small.l1])
     | succ k2 =>
      have H := HA.out; clear HA
      simp only [spec_l06Small.l1] at H
      replace H := Option.bind_eq_some_iff.mp H
      obtain ⟨⟨bj, a0, a1⟩, cA, H⟩ := H
      replace H : (if aH ≤ (wrap64 (2 + bj)) then ((spec_l01Below.f ai a0 a1 (ab.length : Int)).bind fun bt537 => (if 0 ≤ bt537.1 then (if bt537.1 < (ab.length : Int) then (if ((rd_L2 ab bt537.1).length : Int) < (wrap64 (1 + aj)) then ((spec_l01Below.f ai bt537.2.1 bt537.2.2 9).bind fun bt542 => (if (rd_L2 ab bt537.1).length < 8796093022208 then (spec_l06Small.l1 k2 (wrap64 (aH + 1)) ai bt542.2.1 bt542.2.2 (wrap64 (1 + aj)) (ab.set (bt537.1 : Int).toNat ((rd_L2 ab bt537.1) ++ [(⟨aH, bt542.1⟩ : S30)]))) else (none))) else (spec_l06Small.l1 k2 (wrap64 (aH + 1)) ai bt537.2.1 bt537.2.2 (wrap64 (1 + aj)) ab)) else (none)) else (none))) else (some ((wrap64 (1 + aj)), ab, a0, a1))) = some (r1, r2, r3, r4) := H
      have A22 := zK cA; clear cA
      by_cases cp : aH ≤ (wrap64 (2 + bj))
      ·rw [if_pos cp] at H
       have cB : decide (aH ≤ (wrap64 (2 + bj))) = true := decide_eq_true cp
       clear cp; replace H := Option.bind_eq_some_iff.mp H
       obtain ⟨⟨ag, a2, a3⟩, cC, H⟩ := H
       replace H : (if 0 ≤ ag then (if ag < (ab.length : Int) then (if ((rd_L2 ab ag).length : Int) < (wrap64 (1 + aj)) then ((spec_l01Below.f ai a2 a3 9).bind fun bt542 => (if (rd_L2 ab ag).length < 8796093022208 then (spec_l06Small.l1 k2 (wrap64 (aH + 1)) ai bt542.2.1 bt542.2.2 (wrap64 (1 + aj)) (ab.set (ag : Int).toNat ((rd_L2 ab ag) ++ [(⟨aH, bt542.1⟩ : S30)]))) else (none))) else (spec_l06Small.l1 k2 (wrap64 (aH + 1)) ai a2 a3 (wrap64 (1 + aj)) ab)) else (none)) else (none)) = some (r1, r2, r3, r4) := H
       have A24 := zK cC; clear cC
       by_cases c25 : 0 ≤ ag
       ·rw [if_pos c25] at H
        have c25b0 : decide (0 ≤ ag) = true := decide_eq_true c25
        clear c25
        by_cases c26 : ag < (ab.length : Int)
        ·rw [if_pos c26] at H
         have c26b0 : decide (ag < (ab.length : Int)) = true := decide_eq_true c26
         clear c26
         by_cases cq : ((rd_L2 ab ag).length : Int) < (wrap64 (1 + aj))
         ·rw [if_pos cq] at H
          have cD : decide (((rd_L2 ab ag).length : Int) < (wrap64 (1 + aj))) = true := decide_eq_true cq
          clear cq; replace H := Option.bind_eq_some_iff.mp H
          obtain ⟨⟨bw, bx, bz⟩, cE, H⟩ := H
          replace H : (if (rd_L2 ab ag).length < 8796093022208 then (spec_l06Small.l1 k2 (wrap64 (aH + 1)) ai bx bz (wrap64 (1 + aj)) (ab.set (ag : Int).toNat ((rd_L2 ab ag) ++ [(⟨aH, bw⟩ : S30)]))) else (none)) = some (r1, r2, r3, r4) := H
          have A28 := zK cE; clear cE
          by_cases c29 : (rd_L2 ab ag).length < 8796093022208
          ·rw [if_pos c29] at H
           have cF := zK c29; clear c29
           obtain ⟨aX, bc⟩ : ∃ y_ : List (S30), y_ = ((rd_L2 ab ag) ++ [(⟨aH, bw⟩ : S30)]) := ⟨_, rfl⟩
           replace H : (spec_l06Small.l1 k2 (wrap64 (aH + 1)) ai bx bz (wrap64 (1 + aj)) (ab.set (ag : Int).toNat aX)) = some (r1, r2, r3, r4) := by first | (rw [bc]; with_reducible exact H) | (have H2_ := (Option.bind_some _ _).symm.trans H; rw [bc]; with_reducible exact H2_) | (have H2_ := (Option.bind_some _ _).symm.trans H; with_reducible exact H2_) | with_reducible exact H | (rw [bc]; exact H) | exact H
           have Ny545 := zK bc; clear bc
           obtain ⟨cd, bd⟩ : ∃ y_ : List (List (S30)), y_ = (ab.set (ag : Int).toNat aX) := ⟨_, rfl⟩
           replace H : (spec_l06Small.l1 k2 (wrap64 (aH + 1)) ai bx bz (wrap64 (1 + aj)) cd) = some (r1, r2, r3, r4) := by first | (rw [bd]; with_reducible exact H) | (have H2_ := (Option.bind_some _ _).symm.trans H; rw [bd]; with_reducible exact H2_) | (have H2_ := (Option.bind_some _ _).symm.trans H; with_reducible exact H2_) | with_reducible exact H | (rw [bd]; exact H) | exact H
           have Ny548 := zK bd; clear bd; have H' := zK H; clear H
           try go_wp2_with (first | ((with_reducible refine gate_callee (f := 89) rfl ?_); refine goesL_ (some 26) rfl rfl Try.func89 (by kernel_rfl) rfl #[.pointer (some ⟨g, 0, none⟩), .int .i64 4] rfl (by (try simp only [List.map_toArray, List.map_cons, List.map_nil]); first | done | rfl | (simp only [List.length_drop, List.length_take]; rfl)) ?_; (with_reducible refine (spec_l01Below.calls g ai aD aE 4 bj a0 a1 w0 _ ?side1 ?side2 A22.out).mono ?_); (case side1 => repeat (first | (with_reducible first | exact HI0.out | apply IsS89.alloc | apply IsS89.drewN | apply IsS89.drew | apply IsS89.set_1 | apply IsS89.set_2 | refine IsS89.far ?_ ae.out _ | refine IsS89.far ?_ af.out _) | exact HI0.out)); (case side2 => repeat (first | (with_reducible first | exact HB.out | apply zB | apply zC | apply zE | refine zS ?_ (IsS89.ge HI0.out) | refine zS ?_ ar.out | refine zS ?_ ax.out) | exact HB.out)); rintro e w31 ⟨rfl, hi, hb, hk⟩; refine ⟨_, rfl, ?_⟩; have ay := zK (Kd.S_mono (Kd.S_keep (IsS89.apartS (show IsS89 w0 _ g ai aD aE from by repeat (first | (with_reducible first | exact HI0.out | apply IsS89.alloc | apply IsS89.drewN | apply IsS89.drew | apply IsS89.set_1 | apply IsS89.set_2 | refine IsS89.far ?_ ae.out _ | refine IsS89.far ?_ af.out _) | exact HI0.out)) (zT aa) (by decide)) hk (fun _ h => h.2)) (fun _ h => h.1)); have az := zK (KeepBut.blk hk (g' := ak) (o := .cells #[.int .i64 0, .slice none 0 0] 24 (0, 0)) (zk ad) aC.out (by simp)); have aA := zK (KeepBut.blk hk (g' := ah) (o := .cells #[.int .i64 (wrap64 (1 + aj)), u525001] 24 (0, 0)) (zk ac) ao.out (by simp)); have aB := zK (KeepBut.trans (by repeat (first | (with_reducible first | exact HK.out | apply KeepBut.set_ | apply keep_drewN | apply keep_drew | apply keep_alloc | refine keep_far ?_ am.out _ | refine keep_far ?_ ap.out _) | exact HK.out)) hk (.inl rfl)); have aG := zK (hb); have aI := zK (hi); clear aa; clear ad; clear ac; clear HK; clear HB; clear HI0; have aa := ay; have ad := az; have ac := aA; have HK := aB; have HB := aG; have HI0 := aI; clear ay az aA aB aG aI; (try clear hb); (try clear hk); (try clear hi); have hnb32 := aJ.out; have hnc32 := aq.out; have hnb33 := ao.out; have hnc33 := af.out; have hcz34_0 : w31.cell? ⟨ah, 0, none⟩ = some (.int .i64 (wrap64 (1 + aj))) := (blk_cell ac.out 0).trans rfl; have hcz34_1 : w31.cell? ⟨ah, 1, none⟩ = some (u525001) := (blk_cell ac.out 1).trans rfl; have hfz34_0 := blk_frozen ac.out 0; have hfz34_1 := blk_frozen ac.out 1; obtain ⟨Ao35, be, eo35⟩ := Kd.S_slice aa.out; subst eo35) | ((with_reducible refine gate_callee (f := 89) rfl ?_); refine goesL_ (some 35) rfl rfl Try.func89 (by kernel_rfl) rfl #[.pointer (some ⟨g, 0, none⟩), .int .i64 (ab.length : Int)] rfl (by (try simp only [List.map_toArray, List.map_cons, List.map_nil]); first | done | rfl | (simp only [List.length_drop, List.length_take]; rfl)) ?_; (with_reducible refine (spec_l01Below.calls g ai a0 a1 (ab.length : Int) ag a2 a3 w0 _ ?side1 ?side2 A24.out).mono ?_); (case side1 => repeat (first | (with_reducible first | exact HI0.out | apply IsS89.alloc | apply IsS89.drewN | apply IsS89.drew | apply IsS89.set_1 | apply IsS89.set_2 | refine IsS89.far ?_ ae.out _ | refine IsS89.far ?_ af.out _) | exact HI0.out)); (case side2 => repeat (first | (with_reducible first | exact HB.out | apply zB | apply zC | apply zE | refine zS ?_ (IsS89.ge HI0.out) | refine zS ?_ ar.out | refine zS ?_ ax.out) | exact HB.out)); rintro e w36 ⟨rfl, hi, hb, hk⟩; refine ⟨_, rfl, ?_⟩; have ay := zK (Kd.S_mono (Kd.S_keep (IsS89.apartS (show IsS89 w0 _ g ai a0 a1 from by repeat (first | (with_reducible first | exact HI0.out | apply IsS89.alloc | apply IsS89.drewN | apply IsS89.drew | apply IsS89.set_1 | apply IsS89.set_2 | refine IsS89.far ?_ ae.out _ | refine IsS89.far ?_ af.out _) | exact HI0.out)) (zT aa) (by decide)) hk (fun _ h => h.2)) (fun _ h => h.1)); have az := zK (KeepBut.blk hk (g' := ak) (o := .cells #[.int .i64 0, .slice none 0 0] 24 (0, 0)) (zk ad) aC.out (by simp)); have aA := zK (KeepBut.blk hk (g' := ah) (o := .cells #[.int .i64 (wrap64 (1 + aj)), .slice Ao35 ab.length be] 24 (0, 0)) (zk ac) ao.out (by simp)); have aB := zK (KeepBut.trans (by repeat (first | (with_reducible first | exact HK.out | apply KeepBut.set_ | apply keep_drewN | apply keep_drew | apply keep_alloc | refine keep_far ?_ am.out _ | refine keep_far ?_ ap.out _) | exact HK.out)) hk (.inl rfl)); have aG := zK (hb); have aI := zK (hi); clear aa; clear ad; clear ac; clear HK; clear HB; clear HI0; have aa := ay; have ad := az; have ac := aA; have HK := aB; have HB := aG; have HI0 := aI; clear ay az aA aB aG aI; (try clear hb); (try clear hk); (try clear hi)))
           have ay := zK (Kd.S_drew aa.out)
           have az := zK (zD ad.out)
           have aA := zK (zD ac.out)
           have aB := zK (IsS89.drew HI0.out)
           have aG := zK (keep_drew HK.out)
           have aI := zK (zE HB.out)
           clear aa ad ac HI0 HK HB; have aa := ay; have ad := az; have ac := aA; have HI0 := aB; have HK := aG; have HB := aI; clear ay az aA aB aG aI
           have a4 : 0 ≤ (ag : Int) := zd
           have a5 : ag < (ab.length : Int) := zd
           obtain ⟨aN, bk, bl, ce, aw, aR, aT⟩ := at_L2 (Kd.S_reads' aa.out).2.2 ag a4 a5
           cases ce
           obtain ⟨cG, bm, bn, aY⟩ := Kd.S_get aa.out [] ag a4 (by first | exact a5 | exact zd | (have e_ := (Kd.S_reads' aa.out).1; omega))
           obtain ⟨bX, rfl, aK⟩ := bn
           have au := aY 0 _ rfl
           rw [Nat.add_zero, show ((Kd.slice 30 k30)).sz = 1 from rfl, Nat.mul_one] at au
           replace au := Option.some.inj (au.symm.trans aw)
           rw [au] at aK
           have av := zK (show Kd.R k30 30 _ _ _ _ (rd_L2 ab ag) from aK)
           clear au aK; have a6 := zK aw; clear aY bm; have aM := zK aT; have bY := zK aR; clear aT aR; replace a4 := eq_true a4; replace a5 := eq_true a5
           refine start_ (n := 9) (S := fun w' => w'.cell? ⟨ah, 0, none⟩ = some (.int .i64 (wrap64 (1 + aj))) ∧ w'.cell? ⟨ah, 1, none⟩ = some (.slice (some aN) ab.length be) ∧ w'.cell? (aN.add (ag).toNat) = some (.slice bk (rd_L2 ab ag).length bl)) (ds := []) #[ff, ff, ff, ff, ff, ff, ff, ff, ff] (by kernel_rfl) rfl rfl ⟨(blk_cell ac.out 0).trans rfl, (blk_cell ac.out 1).trans rfl, aw⟩ (fun hHeld => ?_); refine with_tabW spec_l06Small.tab10 spec_l06Small.bits10 (fun HT_ HW_ => ?_)
           generalize w36.drew = w37 at aa ad ac HI0 HK HB av aM a6 aw hHeld ⊢
           refine zu 0 (some 36) #[tt, ff, ff, ff, ff, ff, ff, ff, ff] (any_of HT_.out (by kernel_rfl)) ?_
           refine zu 2 (some 38) #[tt, ff, tt, ff, ff, ff, ff, ff, ff] (any_of HT_.out (by kernel_rfl)) ?_
           refine zu 6 (some 42) #[tt, ff, tt, ff, ff, ff, tt, ff, ff] (any_of HT_.out (by kernel_rfl)) ?_
           refine zt 1 (some 37) #[tt, tt, tt, ff, ff, ff, tt, ff, ff] (take_ofW HT_.out HW_.out (by kernel_rfl)) hHeld ?_
           refine zu 3 (some 39) #[tt, tt, tt, tt, ff, ff, tt, ff, ff] (any_of HT_.out (by kernel_rfl)) ?_
           refine zt 4 (some 40) #[tt, tt, tt, tt, tt, ff, tt, ff, ff] (take_ofW HT_.out HW_.out (by kernel_rfl)) hHeld ?_
           refine zu 5 (some 41) #[tt, tt, tt, tt, tt, tt, tt, ff, ff] (any_of HT_.out (by kernel_rfl)) ?_
           refine zt 7 (some 43) #[tt, tt, tt, tt, tt, tt, tt, tt, ff] (take_ofW HT_.out HW_.out (by kernel_rfl)) hHeld ?_
           refine zu 8 (some 44) #[tt, tt, tt, tt, tt, tt, tt, tt, tt] (any_of HT_.out (by kernel_rfl)) ?_
           refine done_ (done_of HT_.out (by kernel_rfl)) ?_
           try go_wp2
           have ay := zK (Kd.S_drew aa.out)
           have az := zK (Kd.R_drew av.out)
           have aA := zK (zD ad.out)
           have aB := zK (zD ac.out)
           have aG := zK (Kd.C_drew aM.out)
           have aI := zK (IsS89.drew HI0.out)
           have a9 := zK (keep_drew HK.out)
           have bD := zK (zE HB.out)
           clear aa av ad ac aM HI0 HK HB; have aa := ay; have av := az; have ad := aA; have ac := aB; have aM := aG; have HI0 := aI; have HK := a9; have HB := bD; clear ay az aA aB aG aI a9 bD
           have bZ : 0 ≤ (ag : Int) := zd
           have b0 : ag < (ab.length : Int) := zd
           obtain ⟨cH, bo, bp, e541, aU, br, bs⟩ := at_L2 (Kd.S_reads' aa.out).2.2 ag bZ b0
           obtain rfl : aN = cH := (by injection e541)
           obtain ⟨ce541, cf, cg, bJ⟩ := Kd.S_get aa.out [] ag bZ (by first | exact b0 | exact zd | (have e_ := (Kd.S_reads' aa.out).1; omega))
           obtain ⟨ve541_0, rfl, a7⟩ := cg
           have aV := bJ 0 _ rfl
           rw [Nat.add_zero, show ((Kd.slice 30 k30)).sz = 1 from rfl, Nat.mul_one] at aV
           replace aV := Option.some.inj (aV.symm.trans aU)
           rw [aV] at a7
           have al := zK (show Kd.R k30 30 _ _ _ _ (rd_L2 ab ag) from a7)
           clear aV a7; have aW := zK aU; clear bJ cf; have b1 := zK bs; have HC541_0 := zK br; clear bs br; replace bZ := eq_true bZ; replace b0 := eq_true b0
           refine start_ (n := 16) (S := fun w' => w'.cell? ⟨ah, 0, none⟩ = some (.int .i64 (wrap64 (1 + aj))) ∧ w'.cell? ⟨ah, 1, none⟩ = some (.slice (some aN) ab.length be) ∧ w'.cell? (aN.add (ag).toNat) = some (.slice bo (rd_L2 ab ag).length bp)) (ds := [15]) #[ff, ff, ff, ff, ff, ff, ff, ff, ff, ff, ff, ff, ff, ff, ff, ff] (by kernel_rfl) rfl rfl ⟨(blk_cell ac.out 0).trans rfl, (blk_cell ac.out 1).trans rfl, aU⟩ (fun hHeld => ?_); refine with_tabW spec_l06Small.tab11 spec_l06Small.bits11 (fun HT_ HW_ => ?_)
           generalize w37.drew = w38 at aa av ad ac aM HI0 HK HB al b1 aW aU hHeld ⊢
           refine zu 0 (some 45) #[tt, ff, ff, ff, ff, ff, ff, ff, ff, ff, ff, ff, ff, ff, ff, ff] (any_of HT_.out (by kernel_rfl)) ?_
           refine zu 2 (some 47) #[tt, ff, tt, ff, ff, ff, ff, ff, ff, ff, ff, ff, ff, ff, ff, ff] (any_of HT_.out (by kernel_rfl)) ?_
           refine zu 3 (some 48) #[tt, ff, tt, tt, ff, ff, ff, ff, ff, ff, ff, ff, ff, ff, ff, ff] (any_of HT_.out (by kernel_rfl)) ?_
           refine zu 5 (some 50) #[tt, ff, tt, tt, ff, tt, ff, ff, ff, ff, ff, ff, ff, ff, ff, ff] (any_of HT_.out (by kernel_rfl)) ?_
           refine zu 8 (some 53) #[tt, ff, tt, tt, ff, tt, ff, ff, tt, ff, ff, ff, ff, ff, ff, ff] (any_of HT_.out (by kernel_rfl)) ?_
           refine zu 9 (some 54) #[tt, ff, tt, tt, ff, tt, ff, ff, tt, tt, ff, ff, ff, ff, ff, ff] (any_of HT_.out (by kernel_rfl)) ?_
           refine zt 1 (some 46) #[tt, tt, tt, tt, ff, tt, ff, ff, tt, tt, ff, ff, ff, ff, ff, ff] (take_ofW HT_.out HW_.out (by kernel_rfl)) hHeld ?_
           refine zt 4 (some 49) #[tt, tt, tt, tt, tt, tt, ff, ff, tt, tt, ff, ff, ff, ff, ff, ff] (take_ofW HT_.out HW_.out (by kernel_rfl)) hHeld ?_
           refine zu 6 (some 51) #[tt, tt, tt, tt, tt, tt, tt, ff, tt, tt, ff, ff, ff, ff, ff, ff] (any_of HT_.out (by kernel_rfl)) ?_
           refine zt 7 (some 52) #[tt, tt, tt, tt, tt, tt, tt, tt, tt, tt, ff, ff, ff, ff, ff, ff] (take_ofW HT_.out HW_.out (by kernel_rfl)) hHeld ?_
           refine one_ (i := 10) (N := some 55) #[tt, tt, tt, tt, tt, tt, tt, tt, tt, tt, tt, ff, ff, ff, ff, ff] rfl rfl (one_of HT_.out (by kernel_rfl)) (by decide) (fun K hK => ?_)
           refine goes_ Try.func89 (by kernel_rfl) rfl #[.pointer (some ⟨g, 0, none⟩), .int .i64 9] (by rfl) rfl rfl (by (try simp only [List.map_toArray, List.map_cons, List.map_nil]); first | done | rfl | (simp only [List.length_drop, List.length_take]; rfl)) ?_
           with_reducible refine (spec_l01Below.calls g ai a2 a3 9 bw bx bz w0 _ ?side1 ?side2 A28.out).mono ?_
           (case side1 => repeat (first | (with_reducible first | exact HI0.out | apply IsS89.alloc | apply IsS89.drewN | apply IsS89.drew | apply IsS89.set_1 | apply IsS89.set_2 | refine IsS89.far ?_ ae.out _ | refine IsS89.far ?_ af.out _) | exact HI0.out))
           (case side2 => repeat (first | (with_reducible first | exact HB.out | apply zB | apply zC | apply zE | refine zS ?_ (IsS89.ge HI0.out) | refine zS ?_ ar.out | refine zS ?_ ax.out) | exact HB.out))
           rintro e w39 ⟨rfl, hi, hb, hk⟩
           have b2 := keep_cell hk (hHeld.2.2) (by first | (rw [add_block]; exact Kd.own_blk (IsS89.own_neS HI0.out aa.out (by decide))) | (show (Addr.add _ _).block ≠ _; rw [add_block]; exact Kd.own_blk (IsS89.own_neS HI0.out aa.out (by decide))) | exact Kd.own_blk (IsS89.own_neS HI0.out aa.out (by decide)))
           refine ⟨_, rfl, ?_⟩
           have ay := zK (Kd.S_mono (Kd.S_keep (IsS89.apartS (show IsS89 w0 _ g ai a2 a3 from by repeat (first | (with_reducible first | exact HI0.out | apply IsS89.alloc | apply IsS89.drewN | apply IsS89.drew | apply IsS89.set_1 | apply IsS89.set_2 | refine IsS89.far ?_ ae.out _ | refine IsS89.far ?_ af.out _) | exact HI0.out)) (zT aa) (by decide)) hk (fun _ h => h.2)) (fun _ h => h.1))
           have az := zK (KeepBut.blk hk (g' := ak) (o := .cells #[.int .i64 0, .slice none 0 0] 24 (0, 0)) (zk ad) aC.out (by simp))
           have aA := zK (KeepBut.blk hk (g' := ah) (o := .cells #[.int .i64 (wrap64 (1 + aj)), .slice (some aN) ab.length be] 24 (0, 0)) (zk ac) ao.out (by simp))
           have aB := zK (Kd.R_mono (Kd.R_keep (IsS89.apart (show IsS89 w0 _ g ai a2 a3 from by repeat (first | (with_reducible first | exact HI0.out | apply IsS89.alloc | apply IsS89.drewN | apply IsS89.drew | apply IsS89.set_1 | apply IsS89.set_2 | refine IsS89.far ?_ ae.out _ | refine IsS89.far ?_ af.out _) | exact HI0.out)) (zR av) (by decide)) hk (fun _ h => h.2)) (fun _ h => h.1))
           have aG := zK (Kd.R_mono (Kd.R_keep (IsS89.apart (show IsS89 w0 _ g ai a2 a3 from by repeat (first | (with_reducible first | exact HI0.out | apply IsS89.alloc | apply IsS89.drewN | apply IsS89.drew | apply IsS89.set_1 | apply IsS89.set_2 | refine IsS89.far ?_ ae.out _ | refine IsS89.far ?_ af.out _) | exact HI0.out)) (zR al) (by decide)) hk (fun _ h => h.2)) (fun _ h => h.1))
           have aI := zK (keep_cell hk aW.out (by first | (rw [add_block]; exact Kd.own_blk (IsS89.own_neS HI0.out aa.out (by decide))) | (show (Addr.add _ _).block ≠ _; rw [add_block]; exact Kd.own_blk (IsS89.own_neS HI0.out aa.out (by decide))) | exact Kd.own_blk (IsS89.own_neS HI0.out aa.out (by decide)) | (dsimp only; exact Kd.own_blk (IsS89.own_neS HI0.out aa.out (by decide)))))
           have a9 := zK (KeepBut.trans (by repeat (first | (with_reducible first | exact HK.out | apply KeepBut.set_ | apply keep_drewN | apply keep_drew | apply keep_alloc | refine keep_far ?_ am.out _ | refine keep_far ?_ ap.out _) | exact HK.out)) hk (.inl rfl))
           have bD := zK (hb)
           have cr := zK (hi)
           clear aa ad ac av al aW HK HB HI0; have aa := ay; have ad := az; have ac := aA; have av := aB; have al := aG; have aW := aI; have HK := a9; have HB := bD; have HI0 := cr; clear ay az aA aB aG aI a9 bD cr; (try clear hb); (try clear hb2); (try clear hk); (try clear hi)
           obtain ⟨aQ, co40, cI, cJ, gl40, cl40, cK⟩ := Kd.S_form aa.out (by have h_ : (ag : Int) < ((ab.length : Int) : Int) := zd; have h2_ : 0 ≤ (ag : Int) := (zd); omega)
           (first | cases cI | (injection cI with ea_ en_ ec_; (first | subst ea_ | (injection ea_ with ea_; subst ea_)); subst ec_; clear en_))
           have cL := zK cJ; have GG40 := zK cK; clear cJ gl40 cK
           (first | simp only [add_plain] at aw | skip)
           (first | simp only [add_plain] at aU | skip)
           obtain ⟨b5, ce40, cM, hM40, b6, _, _, cN⟩ := Kd.S_elem aa.out [] (ag : Int) (zd) (by have h_ : (ag : Int) < ((ab.length : Int) : Int) := zd; first | exact h_ | (have e_ := (Kd.S_reads' aa.out).1; omega) | simpa using h_)
           obtain ⟨ve40_0, rfl, bK⟩ := hM40
           have bL := b6 0 _ rfl; have ch := aW.out; (try simp only [add_plain] at ch); (try simp only [Nat.add_zero] at bL); (try rw [show ((Kd.slice 30 k30)).sz = 1 from rfl, Nat.mul_one] at bL)
           replace bL := Option.some.inj (bL.symm.trans ch)
           subst bL; clear ch b6 cM
           have ci := zK (show Kd.R k30 30 _ w.heap.size b5 (.slice bo (rd_L2 ab ag).length bp) (rd_L2 ab ag) from bK)
           have bA := zK cN
           have cj := zK (Kd.S_reads' aa.out).1
           clear cN bK
           refine hK.out _ _ ⟨(blk_cell ac.out 0).trans rfl, (blk_cell ac.out 1).trans rfl, b2⟩ (fun hHeld => ?_)
           clear hK K
           refine norm_ (a' := ?_) ?_ ?_
           rotate_left
           ·show Act.put _ (some 55) _ = _
            simp only [Act.put, zp, zq, zr, i64_w, i32_w]
            rfl
           refine zu 11 (some 56) #[tt, tt, tt, tt, tt, tt, tt, tt, tt, tt, tt, tt, ff, ff, ff, ff] (any_of HT_.out (by kernel_rfl)) ?_
           refine one_ (i := 12) (N := some 57) #[tt, tt, tt, tt, tt, tt, tt, tt, tt, tt, tt, tt, tt, ff, ff, ff] rfl rfl (one_of HT_.out (by kernel_rfl)) (by decide) (fun K hK => ?_)
           refine value_ (w1 := ?_) (v := ?_) (by rfl) rfl ?_ ?_
           rotate_left 2
           ·go_simp
            constructor
            ·rfl
            ·rfl
           refine hK.out _ _ ⟨(blk_cell (zA ac.out _) 0).trans rfl, (blk_cell (zA ac.out _) 1).trans rfl, (World.cell?_alloc_lt _ _ _ (World.block_lt_of_cell? _ _ (hHeld.2.2))).trans (hHeld.2.2)⟩ (fun hHeld => ?_)
           clear hK K
           refine norm_ (a' := ?_) ?_ ?_
           rotate_left
           ·show Act.put _ (some 57) _ = _
            simp only [Act.put, zp, zq, zr, i64_w, i32_w]
            rfl
           refine one_ (i := 13) (N := some 58) #[tt, tt, tt, tt, tt, tt, tt, tt, tt, tt, tt, tt, tt, tt, ff, ff] rfl rfl (one_of HT_.out (by kernel_rfl)) (by decide) (fun K hK => ?_)
           refine Kd.R_append_step k30 w.heap.size (by rfl) (.tmp 52) (.tmp 57) 28 30 (.agg #[(.int .i64 0), (.int .i64 0)]) 16 rfl Try.underlying28 info30 rfl (by decide) (by omega) (.slice bo (rd_L2 ab ag).length bp) (rd_L2 ab ag) (⟨aH, bw⟩ : S30) [.int .i64 aH, .int .i64 bw] (fun k_ => b5 k_ ∨ ((fun _ => True)) k_ ∧ w39.heap.size ≤ k_) (fun _ => False) rfl rfl ?aP (fun _ hk => hk.elim) ?aF ?aO (Below.refl _ _) ?aS ?aL ?_
           (case aP => exact k30_mkM _ _ _ (⟨aH, bw⟩ : S30))
           (case aF => exact (fun k_ hk => .inr ⟨trivial, hk⟩))
           (case aO => exact (by (with_reducible repeat (first | apply Kd.R_alloc | apply Kd.R_drewN | apply Kd.R_drew)); exact Kd.R_mono ci.out (fun _ hk => .inl hk)))
           (case aS => exact (keep_size (w := w) (g := g) (row := none) (by repeat (first | (with_reducible first | exact HK.out | apply KeepBut.set_ | apply keep_drewN | apply keep_drew | apply keep_alloc | refine keep_far ?_ am.out _ | refine keep_far ?_ ap.out _) | exact HK.out))))
           (case aL => have := cF.out; omega)
           intro v546 ck ho hb hg hat
           (first | have b2 := cell_grown hg (hHeld.2.2) (by first | (rw [add_block]; exact (fun e_ => ((al.out.1 _ e_.symm).2) rfl)) | (show some (Addr.add _ _).block ≠ _; rw [add_block]; exact (fun e_ => ((al.out.1 _ e_.symm).2) rfl)) | exact (fun e_ => ((al.out.1 _ e_.symm).2) rfl)) | have b2 := cell_grown hg (cell_unalloc (hHeld.2.2) (by first | (rw [add_block]; exact Kd.S_lt aa.out _ rfl) | (show (Addr.add _ _).block < _; rw [add_block]; exact Kd.S_lt aa.out _ rfl) | exact Kd.S_lt aa.out _ rfl)) (by first | (rw [add_block]; exact (fun e_ => ((al.out.1 _ e_.symm).2) rfl)) | (show some (Addr.add _ _).block ≠ _; rw [add_block]; exact (fun e_ => ((al.out.1 _ e_.symm).2) rfl)) | exact (fun e_ => ((al.out.1 _ e_.symm).2) rfl)))
           rw [← Ny545.out] at ho
           have ay := zK (blk_grown (g := ak) (o := .cells #[.int .i64 0, .slice none 0 0] 24 (0, 0)) (zk ad) hg (Kd.R_ne al.out ad.out (by decide)))
           have az := zK (blk_grown (g := ah) (o := .cells #[.int .i64 (wrap64 (1 + aj)), .slice (some ⟨aQ, 0, none⟩) ab.length be] 24 (0, 0)) (zk ac) hg (Kd.R_ne al.out ac.out (by decide)))
           have aA := zK (IsS89.grown (by repeat (first | (with_reducible first | exact HI0.out | apply IsS89.alloc | apply IsS89.drewN | apply IsS89.drew | apply IsS89.set_1 | apply IsS89.set_2 | refine IsS89.far ?_ ae.out _ | refine IsS89.far ?_ af.out _) | exact HI0.out)) hg (IsS89.own_ne HI0.out al.out (by decide)))
           have aB := zK (below_weaken (by repeat (first | (with_reducible first | exact HB.out | apply zB | apply zC | apply zE | refine zS ?_ (IsS89.ge HI0.out) | refine zS ?_ ar.out | refine zS ?_ ax.out) | exact HB.out)) HL.out hb)
           have aG := zK (KeepBut.trans (by repeat (first | (with_reducible first | exact HK.out | apply KeepBut.set_ | apply keep_drewN | apply keep_drew | apply keep_alloc | refine keep_far ?_ am.out _ | refine keep_far ?_ ap.out _) | exact HK.out)) (KeepBut.of_grown hg g) (Kd.R_base2 al.out))
           have aI := zK (Kd.H_grown (Kd.H_widen (by repeat (first | exact bA.out | refine Kd.H_alloc ?_ _ | refine Kd.H_drewN ?_ _ | refine Kd.H_drew ?_))) hg (fun k_ e_ => .inl (ci.out.1 k_ e_)))
           have a9 := zK (ho)
           clear ad ac HI0 HB HK bA aa ci av al; have ad := ay; have ac := az; have HI0 := aA; have HB := aB; have HK := aG; have bA := aI; have b7 := a9; clear ay az aA aB aG aI a9 ho hb hg hat
           have p30 : 0 ≤ (ag : Int) := zd
           have q30 : (ag : Int) < ((ab.length : Int) : Int) := zd
           replace p30 := eq_true p30; replace q30 := eq_true q30
           obtain ⟨bf, bg, cO⟩ := Kd.R_slice b7.out
           (first | subst cO | (injection cO with f1_ f2_ f3_; have f4_ := f1_.symm; have f5_ := f3_.symm; clear f1_ f2_ f3_; subst f4_; subst f5_))
           obtain ⟨_, _, a8, _, _, b8, _⟩ := Kd.H_raw bA.out (zd) (by have h_ : (ag : Int) < ((ab.length : Int) : Int) := zd; first | exact h_ | (have e_ := (cj.out); omega) | simpa using h_)
           obtain ⟨_, b9⟩ := Kd.H_at bA.out (zd) (by have h_ : (ag : Int) < ((ab.length : Int) : Int) := zd; first | exact h_ | (have e_ := (cj.out); omega) | simpa using h_)
           have bM := b8 0 _ rfl; have bN := b9 0; (try simp only [Nat.add_zero] at bM bN); (try rw [show ((Kd.slice 30 k30)).sz = 1 from rfl, Nat.mul_one] at bM); (try rw [show ((Kd.slice 30 k30)).sz = 1 from rfl, Nat.mul_one] at bN)
           have cl := Kd.S_seg0 bA.out (zd) (by have h_ : (ag : Int) < ((ab.length : Int) : Int) := zd; first | exact h_ | (have e_ := (cj.out); omega) | simpa using h_) (seg := [.slice bf aX.length bg]) (j := 0) (show 1 ≤ 1 from by decide) (x' := aX) (Kd.M_row b7.out) (fun _ hk => hk)
           (try simp only [show ((Kd.slice 30 k30)).sz = 1 from rfl, Nat.mul_one, Nat.add_zero] at cl); clear b8 b9
           have HN0_go40 := zK (show g ≠ aQ from by have h_ := IsS89.own_ne HI0.out a8 (by decide); intro e_; exact h_ (by rw [e_]; rfl))
           have HNB520_go40 := zK (show ak ≠ aQ from by have h_ := Kd.R_ne a8 ad.out (by decide); intro e_; exact h_ (by rw [e_]; rfl))
           have HNB524_go40 := zK (show ah ≠ aQ from by have h_ := Kd.R_ne a8 ac.out (by decide); intro e_; exact h_ (by rw [e_]; rfl))
           have cm := cl.1
           rw [← Ny548.out] at cm
           have HQ42 := zK cm
           obtain ⟨_, ca⟩ := Kd.R_typed a8 aQ rfl
           have GG42_ := zK ca; clear cl cm ca
           refine hK.out _ _ ⟨(blk_cell ac.out 0).trans rfl, (blk_cell ac.out 1).trans rfl, b2⟩ (fun hHeld => ?_)
           clear hK K
           refine norm_ (a' := ?_) ?_ ?_
           rotate_left
           ·show Act.put _ (some 58) _ = _
            simp only [Act.put, zp, zq, zr, i64_w, i32_w]
            rfl
           refine zu 14 (some 59) #[tt, tt, tt, tt, tt, tt, tt, tt, tt, tt, tt, tt, tt, tt, tt, ff] (any_of HT_.out (by kernel_rfl)) ?_
           refine last_ (i := 15) (N := none) #[tt, tt, tt, tt, tt, tt, tt, tt, tt, tt, tt, tt, tt, tt, tt, tt] rfl rfl (one_of HT_.out (by kernel_rfl)) (by decide) (fun K hK => ?_)
           refine skip_ (w1 := ?_) (by rfl) rfl ?_ ?_
           rotate_left
           ·go_simp
            rfl
           refine hK.out _ _ ?_
           clear hK K
           refine done_ (done_of HT_.out (by kernel_rfl)) ?_
           have ay : Aside0 (Kd.S (Kd.slice 30 k30) 28 (ck.setCell ⟨aQ, (ag : Int).toNat, none⟩ (.slice bf aX.length bg)) w.heap.size (fun _ => True) (.slice (some ⟨aQ, 0, none⟩) ab.length be) cd) := ⟨zT HQ42⟩
           have az : Aside0 ((ck.setCell ⟨aQ, (ag : Int).toNat, none⟩ (.slice bf aX.length bg)).heap[ak]? = some (.cells #[.int .i64 0, .slice none 0 0] 24 (0, 0))) := ⟨by (with_reducible repeat (first | refine zN ?_ _ | refine zD ?_ | refine zA ?_ _)); refine blk_far ?_ HNB520_go40.out _; (with_reducible repeat (first | refine zN ?_ _ | refine zD ?_ | refine zA ?_ _)); exact ad.out⟩
           have aA : Aside0 ((ck.setCell ⟨aQ, (ag : Int).toNat, none⟩ (.slice bf aX.length bg)).heap[ah]? = some (.cells #[.int .i64 (wrap64 (1 + aj)), .slice (some ⟨aQ, 0, none⟩) ab.length be] 24 (0, 0))) := ⟨by (with_reducible repeat (first | refine zN ?_ _ | refine zD ?_ | refine zA ?_ _)); refine blk_far ?_ HNB524_go40.out _; (with_reducible repeat (first | refine zN ?_ _ | refine zD ?_ | refine zA ?_ _)); exact ac.out⟩
           have aB : Aside0 (IsS89 w0 (ck.setCell ⟨aQ, (ag : Int).toNat, none⟩ (.slice bf aX.length bg)) g ai bx bz) := ⟨by repeat (first | (with_reducible first | exact HI0.out | apply IsS89.alloc | apply IsS89.drewN | apply IsS89.drew | apply IsS89.set_1 | apply IsS89.set_2 | refine IsS89.far ?_ HN0_go40.out _ | refine IsS89.far ?_ ae.out _ | refine IsS89.far ?_ af.out _) | exact HI0.out)⟩
           have aG : Aside0 (KeepBut w (ck.setCell ⟨aQ, (ag : Int).toNat, none⟩ (.slice bf aX.length bg)) g none) := ⟨by repeat (first | (with_reducible first | exact HK.out | apply KeepBut.set_ | apply keep_drewN | apply keep_drew | apply keep_alloc | refine keep_far ?_ cL.out _ | refine keep_far ?_ am.out _ | refine keep_far ?_ ap.out _) | exact HK.out)⟩
           have aI : Aside0 (Below w0.heap.size w0 (ck.setCell ⟨aQ, (ag : Int).toNat, none⟩ (.slice bf aX.length bg))) := ⟨by repeat (first | (with_reducible first | exact HB.out | apply zB | apply zC | apply zE | refine zS ?_ (Nat.le_trans HL.out cL.out) | refine zS ?_ (IsS89.ge HI0.out) | refine zS ?_ ar.out | refine zS ?_ ax.out) | exact HB.out)⟩
           (try clear aa); (try clear ad); (try clear ac); (try clear HI0); (try clear HK); (try clear HB)
           generalize (ck.setCell ⟨aQ, (ag : Int).toNat, none⟩ (.slice bf aX.length bg)) = w45 at ay az aA aB aG aI ⊢
           have aa := ay; have ad := az; have ac := aA; have HI0 := aB; have HK := aG; have HB := aI; clear ay az aA aB aG aI
           try go_wp2
           go_roundg k2
           case measure => have := co.out; have := HK2.out; omega
           case rel => exact ⟨(wrap64 (aH + 1)), (bx), (bz), (cd), (.slice (some ⟨aQ, 0, none⟩) ab.length be), (by first | rfl | (simp; done) | (simp [*]; done)), H', ⟨by have := co.out; have := HK2.out; omega⟩, ⟨zT aa⟩, ⟨zk ad⟩, ⟨zk ac⟩, ⟨by repeat (first | (with_reducible first | exact HI0.out | apply IsS89.alloc | apply IsS89.drewN | apply IsS89.drew | apply IsS89.set_1 | apply IsS89.set_2 | refine IsS89.far ?_ ae.out _ | refine IsS89.far ?_ af.out _) | exact HI0.out)⟩, ⟨by repeat (first | (with_reducible first | exact HK.out | apply KeepBut.set_ | apply keep_drewN | apply keep_drew | apply keep_alloc | refine keep_far ?_ am.out _ | refine keep_far ?_ ap.out _) | exact HK.out)⟩, ⟨by repeat (first | (with_reducible first | exact HB.out | apply zB | apply zC | apply zE | refine zS ?_ (IsS89.ge HI0.out) | refine zS ?_ ar.out | refine zS ?_ ax.out) | exact HB.out)⟩⟩
          ·rw [if_neg c29] at H
           exact absurd H (by simp)
         ·rw [if_neg cq] at H
          have cD : decide (((rd_L2 ab ag).length : Int) < (wrap64 (1 + aj))) = false := decide_eq_false cq
          clear cq; have H' := zK H; clear H
          try go_wp2_with (first | ((with_reducible refine gate_callee (f := 89) rfl ?_); refine goesL_ (some 26) rfl rfl Try.func89 (by kernel_rfl) rfl #[.pointer (some ⟨g, 0, none⟩), .int .i64 4] rfl (by (try simp only [List.map_toArray, List.map_cons, List.map_nil]); first | done | rfl | (simp only [List.length_drop, List.length_take]; rfl)) ?_; (with_reducible refine (spec_l01Below.calls g ai aD aE 4 bj a0 a1 w0 _ ?side1 ?side2 A22.out).mono ?_); (case side1 => repeat (first | (with_reducible first | exact HI0.out | apply IsS89.alloc | apply IsS89.drewN | apply IsS89.drew | apply IsS89.set_1 | apply IsS89.set_2 | refine IsS89.far ?_ ae.out _ | refine IsS89.far ?_ af.out _) | exact HI0.out)); (case side2 => repeat (first | (with_reducible first | exact HB.out | apply zB | apply zC | apply zE | refine zS ?_ (IsS89.ge HI0.out) | refine zS ?_ ar.out | refine zS ?_ ax.out) | exact HB.out)); rintro e w46 ⟨rfl, hi, hb, hk⟩; refine ⟨_, rfl, ?_⟩; have ay := zK (Kd.S_mono (Kd.S_keep (IsS89.apartS (show IsS89 w0 _ g ai aD aE from by repeat (first | (with_reducible first | exact HI0.out | apply IsS89.alloc | apply IsS89.drewN | apply IsS89.drew | apply IsS89.set_1 | apply IsS89.set_2 | refine IsS89.far ?_ ae.out _ | refine IsS89.far ?_ af.out _) | exact HI0.out)) (zT aa) (by decide)) hk (fun _ h => h.2)) (fun _ h => h.1)); have az := zK (KeepBut.blk hk (g' := ak) (o := .cells #[.int .i64 0, .slice none 0 0] 24 (0, 0)) (zk ad) aC.out (by simp)); have aA := zK (KeepBut.blk hk (g' := ah) (o := .cells #[.int .i64 (wrap64 (1 + aj)), u525001] 24 (0, 0)) (zk ac) ao.out (by simp)); have aB := zK (KeepBut.trans (by repeat (first | (with_reducible first | exact HK.out | apply KeepBut.set_ | apply keep_drewN | apply keep_drew | apply keep_alloc | refine keep_far ?_ am.out _ | refine keep_far ?_ ap.out _) | exact HK.out)) hk (.inl rfl)); have aG := zK (hb); have aI := zK (hi); clear aa; clear ad; clear ac; clear HK; clear HB; clear HI0; have aa := ay; have ad := az; have ac := aA; have HK := aB; have HB := aG; have HI0 := aI; clear ay az aA aB aG aI; (try clear hb); (try clear hk); (try clear hi); have hnb47 := aJ.out; have hnc47 := aq.out; have hnb48 := ao.out; have hnc48 := af.out; have hcz49_0 : w46.cell? ⟨ah, 0, none⟩ = some (.int .i64 (wrap64 (1 + aj))) := (blk_cell ac.out 0).trans rfl; have hcz49_1 : w46.cell? ⟨ah, 1, none⟩ = some (u525001) := (blk_cell ac.out 1).trans rfl; have hfz49_0 := blk_frozen ac.out 0; have hfz49_1 := blk_frozen ac.out 1; obtain ⟨Ao50, cn, eo50⟩ := Kd.S_slice aa.out; subst eo50) | ((with_reducible refine gate_callee (f := 89) rfl ?_); refine goesL_ (some 35) rfl rfl Try.func89 (by kernel_rfl) rfl #[.pointer (some ⟨g, 0, none⟩), .int .i64 (ab.length : Int)] rfl (by (try simp only [List.map_toArray, List.map_cons, List.map_nil]); first | done | rfl | (simp only [List.length_drop, List.length_take]; rfl)) ?_; (with_reducible refine (spec_l01Below.calls g ai a0 a1 (ab.length : Int) ag a2 a3 w0 _ ?side1 ?side2 A24.out).mono ?_); (case side1 => repeat (first | (with_reducible first | exact HI0.out | apply IsS89.alloc | apply IsS89.drewN | apply IsS89.drew | apply IsS89.set_1 | apply IsS89.set_2 | refine IsS89.far ?_ ae.out _ | refine IsS89.far ?_ af.out _) | exact HI0.out)); (case side2 => repeat (first | (with_reducible first | exact HB.out | apply zB | apply zC | apply zE | refine zS ?_ (IsS89.ge HI0.out) | refine zS ?_ ar.out | refine zS ?_ ax.out) | exact HB.out)); rintro e w51 ⟨rfl, hi, hb, hk⟩; refine ⟨_, rfl, ?_⟩; have ay := zK (Kd.S_mono (Kd.S_keep (IsS89.apartS (show IsS89 w0 _ g ai a0 a1 from by repeat (first | (with_reducible first | exact HI0.out | apply IsS89.alloc | apply IsS89.drewN | apply IsS89.drew | apply IsS89.set_1 | apply IsS89.set_2 | refine IsS89.far ?_ ae.out _ | refine IsS89.far ?_ af.out _) | exact HI0.out)) (zT aa) (by decide)) hk (fun _ h => h.2)) (fun _ h => h.1)); have az := zK (KeepBut.blk hk (g' := ak) (o := .cells #[.int .i64 0, .slice none 0 0] 24 (0, 0)) (zk ad) aC.out (by simp)); have aA := zK (KeepBut.blk hk (g' := ah) (o := .cells #[.int .i64 (wrap64 (1 + aj)), .slice Ao50 ab.length cn] 24 (0, 0)) (zk ac) ao.out (by simp)); have aB := zK (KeepBut.trans (by repeat (first | (with_reducible first | exact HK.out | apply KeepBut.set_ | apply keep_drewN | apply keep_drew | apply keep_alloc | refine keep_far ?_ am.out _ | refine keep_far ?_ ap.out _) | exact HK.out)) hk (.inl rfl)); have aG := zK (hb); have aI := zK (hi); clear aa; clear ad; clear ac; clear HK; clear HB; clear HI0; have aa := ay; have ad := az; have ac := aA; have HK := aB; have HB := aG; have HI0 := aI; clear ay az aA aB aG aI; (try clear hb); (try clear hk); (try clear hi)))
          have ay := zK (Kd.S_drew aa.out)
          have az := zK (zD ad.out)
          have aA := zK (zD ac.out)
          have aB := zK (IsS89.drew HI0.out)
          have aG := zK (keep_drew HK.out)
          have aI := zK (zE HB.out)
          clear aa ad ac HI0 HK HB; have aa := ay; have ad := az; have ac := aA; have HI0 := aB; have HK := aG; have HB := aI; clear ay az aA aB aG aI
          have a4 : 0 ≤ (ag : Int) := zd
          have a5 : ag < (ab.length : Int) := zd
          obtain ⟨aN, bk, bl, ce, aw, aR, aT⟩ := at_L2 (Kd.S_reads' aa.out).2.2 ag a4 a5
          cases ce
          obtain ⟨cG, bm, bn, aY⟩ := Kd.S_get aa.out [] ag a4 (by first | exact a5 | exact zd | (have e_ := (Kd.S_reads' aa.out).1; omega))
          obtain ⟨bX, rfl, aK⟩ := bn
          have au := aY 0 _ rfl
          rw [Nat.add_zero, show ((Kd.slice 30 k30)).sz = 1 from rfl, Nat.mul_one] at au
          replace au := Option.some.inj (au.symm.trans aw)
          rw [au] at aK
          have av := zK (show Kd.R k30 30 _ _ _ _ (rd_L2 ab ag) from aK)
          clear au aK; have a6 := zK aw; clear aY bm; have aM := zK aT; have bY := zK aR; clear aT aR; replace a4 := eq_true a4; replace a5 := eq_true a5
          refine start_ (n := 9) (S := fun w' => w'.cell? ⟨ah, 0, none⟩ = some (.int .i64 (wrap64 (1 + aj))) ∧ w'.cell? ⟨ah, 1, none⟩ = some (.slice (some aN) ab.length cn) ∧ w'.cell? (aN.add (ag).toNat) = some (.slice bk (rd_L2 ab ag).length bl)) (ds := []) #[ff, ff, ff, ff, ff, ff, ff, ff, ff] (by kernel_rfl) rfl rfl ⟨(blk_cell ac.out 0).trans rfl, (blk_cell ac.out 1).trans rfl, aw⟩ (fun hHeld => ?_); refine with_tabW spec_l06Small.tab10 spec_l06Small.bits10 (fun HT_ HW_ => ?_)
          generalize w51.drew = w52 at aa ad ac HI0 HK HB av aM a6 aw hHeld ⊢
          refine zu 0 (some 36) #[tt, ff, ff, ff, ff, ff, ff, ff, ff] (any_of HT_.out (by kernel_rfl)) ?_
          refine zu 2 (some 38) #[tt, ff, tt, ff, ff, ff, ff, ff, ff] (any_of HT_.out (by kernel_rfl)) ?_
          refine zu 6 (some 42) #[tt, ff, tt, ff, ff, ff, tt, ff, ff] (any_of HT_.out (by kernel_rfl)) ?_
          refine zt 1 (some 37) #[tt, tt, tt, ff, ff, ff, tt, ff, ff] (take_ofW HT_.out HW_.out (by kernel_rfl)) hHeld ?_
          refine zu 3 (some 39) #[tt, tt, tt, tt, ff, ff, tt, ff, ff] (any_of HT_.out (by kernel_rfl)) ?_
          refine zt 4 (some 40) #[tt, tt, tt, tt, tt, ff, tt, ff, ff] (take_ofW HT_.out HW_.out (by kernel_rfl)) hHeld ?_
          refine zu 5 (some 41) #[tt, tt, tt, tt, tt, tt, tt, ff, ff] (any_of HT_.out (by kernel_rfl)) ?_
          refine zt 7 (some 43) #[tt, tt, tt, tt, tt, tt, tt, tt, ff] (take_ofW HT_.out HW_.out (by kernel_rfl)) hHeld ?_
          refine zu 8 (some 44) #[tt, tt, tt, tt, tt, tt, tt, tt, tt] (any_of HT_.out (by kernel_rfl)) ?_
          refine done_ (done_of HT_.out (by kernel_rfl)) ?_
          try go_wp2
          go_roundg k2
          case measure => have := co.out; have := HK2.out; omega
          case rel => exact ⟨(wrap64 (aH + 1)), (a2), (a3), (ab), (.slice (some aN) ab.length cn), (by first | rfl | (simp; done) | (simp [*]; done)), H', ⟨by have := co.out; have := HK2.out; omega⟩, ⟨zT aa⟩, ⟨zk ad⟩, ⟨zk ac⟩, ⟨by repeat (first | (with_reducible first | exact HI0.out | apply IsS89.alloc | apply IsS89.drewN | apply IsS89.drew | apply IsS89.set_1 | apply IsS89.set_2 | refine IsS89.far ?_ ae.out _ | refine IsS89.far ?_ af.out _) | exact HI0.out)⟩, ⟨by repeat (first | (with_reducible first | exact HK.out | apply KeepBut.set_ | apply keep_drewN | apply keep_drew | apply keep_alloc | refine keep_far ?_ am.out _ | refine keep_far ?_ ap.out _) | exact HK.out)⟩, ⟨by repeat (first | (with_reducible first | exact HB.out | apply zB | apply zC | apply zE | refine zS ?_ (IsS89.ge HI0.out) | refine zS ?_ ar.out | refine zS ?_ ax.out) | exact HB.out)⟩⟩
        ·rw [if_neg c26] at H
         exact absurd H (by simp)
       ·rw [if_neg c25] at H
        exact absurd H (by simp)
      ·rw [if_neg cp] at H
       have cB : decide (aH ≤ (wrap64 (2 + bj))) = false := decide_eq_false cp
       clear cp
       simp only [Option.some.injEq, Prod.mk.injEq] at H
       obtain ⟨rfl, rfl, rfl, rfl⟩ := H
       go_wp2_with (first | ((with_reducible refine gate_callee (f := 89) rfl ?_); refine goesL_ (some 26) rfl rfl Try.func89 (by kernel_rfl) rfl #[.pointer (some ⟨g, 0, none⟩), .int .i64 4] rfl (by (try simp only [List.map_toArray, List.map_cons, List.map_nil]); first | done | rfl | (simp only [List.length_drop, List.length_take]; rfl)) ?_; (with_reducible refine (spec_l01Below.calls g ai aD aE 4 bj a0 a1 w0 _ ?side1 ?side2 A22.out).mono ?_); (case side1 => repeat (first | (with_reducible first | exact HI0.out | apply IsS89.alloc | apply IsS89.drewN | apply IsS89.drew | apply IsS89.set_1 | apply IsS89.set_2 | refine IsS89.far ?_ ae.out _ | refine IsS89.far ?_ af.out _) | exact HI0.out)); (case side2 => repeat (first | (with_reducible first | exact HB.out | apply zB | apply zC | apply zE | refine zS ?_ (IsS89.ge HI0.out) | refine zS ?_ ar.out | refine zS ?_ ax.out) | exact HB.out)); rintro e w53 ⟨rfl, hi, hb, hk⟩; refine ⟨_, rfl, ?_⟩; have ay := zK (Kd.S_mono (Kd.S_keep (IsS89.apartS (show IsS89 w0 _ g ai aD aE from by repeat (first | (with_reducible first | exact HI0.out | apply IsS89.alloc | apply IsS89.drewN | apply IsS89.drew | apply IsS89.set_1 | apply IsS89.set_2 | refine IsS89.far ?_ ae.out _ | refine IsS89.far ?_ af.out _) | exact HI0.out)) (zT aa) (by decide)) hk (fun _ h => h.2)) (fun _ h => h.1)); have az := zK (KeepBut.blk hk (g' := ak) (o := .cells #[.int .i64 0, .slice none 0 0] 24 (0, 0)) (zk ad) aC.out (by simp)); have aA := zK (KeepBut.blk hk (g' := ah) (o := .cells #[.int .i64 (wrap64 (1 + aj)), u525001] 24 (0, 0)) (zk ac) ao.out (by simp)); have aB := zK (KeepBut.trans (by repeat (first | (with_reducible first | exact HK.out | apply KeepBut.set_ | apply keep_drewN | apply keep_drew | apply keep_alloc | refine keep_far ?_ am.out _ | refine keep_far ?_ ap.out _) | exact HK.out)) hk (.inl rfl)); have aG := zK (hb); have aI := zK (hi); clear aa; clear ad; clear ac; clear HK; clear HB; clear HI0; have aa := ay; have ad := az; have ac := aA; have HK := aB; have HB := aG; have HI0 := aI; clear ay az aA aB aG aI; (try clear hb); (try clear hk); (try clear hi); have hnb54 := aJ.out; have hnc54 := aq.out; have hnb55 := ao.out; have hnc55 := af.out; have hcz56_0 : w53.cell? ⟨ah, 0, none⟩ = some (.int .i64 (wrap64 (1 + aj))) := (blk_cell ac.out 0).trans rfl; have hcz56_1 : w53.cell? ⟨ah, 1, none⟩ = some (u525001) := (blk_cell ac.out 1).trans rfl; have hfz56_0 := blk_frozen ac.out 0; have hfz56_1 := blk_frozen ac.out 1; have hnb57 := aC.out; have hnc57 := ae.out; have hcz58_0 : w53.cell? ⟨ak, 0, none⟩ = some (.int .i64 0) := (blk_cell ad.out 0).trans rfl; have hcz58_1 : w53.cell? ⟨ak, 1, none⟩ = some (.slice none 0 0) := (blk_cell ad.out 1).trans rfl; have hfz58_0 := blk_frozen ad.out 0; have hfz58_1 := blk_frozen ad.out 1; obtain ⟨cP, cQ, eo59⟩ := Kd.S_slice aa.out; subst eo59))
       refine bodyPost_ret (results_cell_row rfl _ _ ak 24 #[.int .i64 (wrap64 (1 + aj)), .slice cP ab.length cQ] (0, 0) _ rfl (by (with_reducible repeat (first | refine zN ?_ _ | refine zD ?_ | refine zA ?_ _)); refine blk_put (cs := #[.int .i64 (wrap64 (1 + aj)), .slice none 0 0]) ?_ 1 _ rfl; (with_reducible repeat (first | refine zN ?_ _ | refine zD ?_ | refine zA ?_ _)); refine blk_put (cs := #[.int .i64 0, .slice none 0 0]) ?_ 0 _ rfl; (with_reducible repeat (first | refine zN ?_ _ | refine zD ?_ | refine zA ?_ _)); exact ad.out) Try.underlying24 rfl (by kernel_rfl)) rfl ?_
       exact ⟨_, by first | rfl | (simp [errW_none, errW_some] <;> rfl) | (simp [*, errW_none, errW_some] <;> rfl), by (with_reducible repeat (first | apply Kd.S_alloc | apply Kd.S_drewN | apply Kd.S_drew)); exact Kd.S_mono (Kd.S_far (p := ⟨ak, 1, none⟩) (Kd.S_far (p := ⟨ak, 0, none⟩) (Kd.S_types aa.out ad.out (by decide)) (fun _ hk => hk.2) (.int .i64 (wrap64 (1 + aj)))) (fun _ hk => hk.2) (.slice cP ab.length cQ)) (fun _ hk => trivial), by repeat (first | (with_reducible first | exact HI0.out | apply IsS89.alloc | apply IsS89.drewN | apply IsS89.drew | apply IsS89.set_1 | apply IsS89.set_2 | refine IsS89.far ?_ ae.out _ | refine IsS89.far ?_ af.out _) | exact HI0.out), by repeat (first | (with_reducible first | exact HB.out | apply zB | apply zC | apply zE | refine zS ?_ (IsS89.ge HI0.out) | refine zS ?_ ar.out | refine zS ?_ ax.out) | exact HB.out), by repeat (first | (with_reducible first | exact HK.out | apply KeepBut.set_ | apply keep_drewN | apply keep_drew | apply keep_alloc | refine keep_far ?_ am.out _ | refine keep_far ?_ ap.out _) | exact HK.out)⟩
def spec_l01Once.f (s0_0 : List Int) (s0_1 : Int) (s0_2 : Int) (a1 : Int) : Option (Bool × Int × Int) := (spec_l01Below.f s0_0 s0_1 s0_2 a1).bind fun bt549 => (some ((bt549.1 == 0), bt549.2.1, bt549.2.2))
set_option maxHeartbeats 8000000 in
set_option maxRecDepth 100000 in
theorem spec_l01Once.calls (g : Nat) (aa : List Int) (ab : Int) (ac : Int) (a1 : Int) (r1 : Bool) (r2 : Int) (r3 : Int) (w0 w : World) (hI : IsS89 w0 w g aa ab ac) (hB : Below w0.heap.size w0 w) (h : spec_l01Once.f aa ab ac a1 = some (r1, r2, r3)) :
  Calls Try.prog 78 #[.pointer (some ⟨g, 0, none⟩), .int .i64 a1] w fun e w' => e = .returned (.bool r1) ∧ IsS89 w0 w' g aa r2 r3 ∧ Below w0.heap.size w0 w' ∧ KeepBut w w' g none := by
 have HI0 := zK hI
 have HK := zK (KeepBut.refl w g none)
 have HL := zK hB.size; clear hI; have HW0 := zK hB.size; have HB := zK hB; clear hB
 have H : ((spec_l01Below.f aa ab ac a1).bind fun bt549 => (some ((bt549.1 == 0), bt549.2.1, bt549.2.2))) = some (r1, r2, r3) := h
 clear h; replace H := Option.bind_eq_some_iff.mp H
 obtain ⟨⟨ad, ae, af⟩, A30, H⟩ := H
 replace H : (some ((ad == 0), ae, af)) = some (r1, r2, r3) := H
 have A3 := zK A30; clear A30
 simp only [Option.some.injEq, Prod.mk.injEq] at H
 obtain ⟨rfl, rfl, rfl⟩ := H
 go_enter Try.func78, Try.ntmps78
 go_wp2_with (first | ((with_reducible refine gate_callee (f := 89) rfl ?_); refine goesL_ (some 7) rfl rfl Try.func89 (by kernel_rfl) rfl #[.pointer (some ⟨g, 0, none⟩), .int .i64 a1] rfl (by (try simp only [List.map_toArray, List.map_cons, List.map_nil]); first | done | rfl | (simp only [List.length_drop, List.length_take]; rfl)) ?_; (with_reducible refine (spec_l01Below.calls g aa ab ac a1 ad ae af w0 _ ?side1 ?side2 A3.out).mono ?_); (case side1 => repeat (first | (with_reducible first | exact HI0.out | apply IsS89.alloc | apply IsS89.drewN | apply IsS89.drew | apply IsS89.set_1 | apply IsS89.set_2) | exact HI0.out)); (case side2 => repeat (first | (with_reducible first | exact HB.out | apply zB | apply zC | apply zE | refine zS ?_ (IsS89.ge HI0.out)) | exact HB.out)); rintro e w4 ⟨rfl, hi, hb, hk⟩; refine ⟨_, rfl, ?_⟩; have n0_ := zK (KeepBut.trans (by repeat (first | (with_reducible first | exact HK.out | apply KeepBut.set_ | apply keep_drewN | apply keep_drew | apply keep_alloc) | exact HK.out)) hk (.inl rfl)); have n1_ := zK (hb); have n2_ := zK (hi); clear HK; clear HB; clear HI0; have HK := n0_; have HB := n1_; have HI0 := n2_; clear n0_ n1_ n2_; (try clear hb); (try clear hk); (try clear hi)))
 go_ret
 exact ⟨by first | rfl | (simp [errW_none, errW_some] <;> rfl) | (simp [*, errW_none, errW_some] <;> rfl), by repeat (first | (with_reducible first | exact HI0.out | apply IsS89.alloc | apply IsS89.drewN | apply IsS89.drew | apply IsS89.set_1 | apply IsS89.set_2) | exact HI0.out), by repeat (first | (with_reducible first | exact HB.out | apply zB | apply zC | apply zE | refine zS ?_ (IsS89.ge HI0.out)) | exact HB.out), by repeat (first | (with_reducible first | exact HK.out | apply KeepBut.set_ | apply keep_drewN | apply keep_drew | apply keep_alloc) | exact HK.out)⟩
mutual
def spec_l06Store.l0 : Nat → Int → Int → List Int → Int → Int → Int → List (List (S30)) → Option (Int × (List (List (S30))) × Int × Int)
 | 0, _, _, _, _, _, _, _ => none
 | k + 1, x4, x5, x1000, x1001, x1002, x557000, x557001 => if x5 > 0 then ((spec_l01Below.f x1000 x1001 x1002 (wrap64 (x557000 + 1))).bind fun bt563 => (spec_l06Store.l1 k x4 x5 (([] : List (S30))) bt563.1 x1000 bt563.2.1 bt563.2.2 x557000 x557001)) else (some (x557000, x557001, x1001, x1002))
def spec_l06Store.l1 : Nat → Int → Int → List (S30) → Int → List Int → Int → Int → Int → List (List (S30)) → Option (Int × (List (List (S30))) × Int × Int)
 | 0, _, _, _, _, _, _, _, _, _ => none
 | k + 1, x4, x5, x6, x7, x1000, x1001, x1002, x557000, x557001 => if x7 > 0 then ((spec_l01Below.f x1000 x1001 x1002 2).bind fun bt569 => ((spec_l01Below.f x1000 bt569.2.1 bt569.2.2 12).bind fun bt572 => (if x6.length < 8796093022208 then (spec_l06Store.l1 k (wrap64 ((wrap64 (x4 + 1)) + bt569.1)) x5 (x6 ++ [(⟨wrap64 ((wrap64 (x4 + 1)) + bt569.1), bt572.1⟩ : S30)]) (wrap64 (x7 - 1)) x1000 bt572.2.1 bt572.2.2 x557000 x557001) else (none)))) else (if x557001.length < 5864062014805 then (spec_l06Store.l0 k x4 (wrap64 (x5 - 1)) x1000 x1001 x1002 x557000 (x557001 ++ [x6])) else (none))
end
def spec_l06Store.f (k : Nat) (s0_0 : List Int) (s0_1 : Int) (s0_2 : Int) : Option (Int × (List (List (S30))) × Int × Int) := (spec_l01Below.f s0_0 s0_1 s0_2 5).bind fun bt553 => ((spec_l01Below.f s0_0 bt553.2.1 bt553.2.2 4).bind fun bt557 => (spec_l06Store.l0 k 0 (wrap64 (1 + bt557.1)) s0_0 bt557.2.1 bt557.2.2 (wrap64 (1 + bt553.1)) ([] : List (List (S30)))))
set_option maxHeartbeats 8000000 in
set_option maxRecDepth 100000 in
theorem spec_l06Store.calls (k : Nat) (g : Nat) (ai : List Int) (aU : Int) (aV : Int) (r1 : Int) (r2 : List (List (S30))) (r3 : Int) (r4 : Int) (w0 w : World) (hI : IsS89 w0 w g ai aU aV) (hB : Below w0.heap.size w0 w) (h : spec_l06Store.f k ai aU aV = some (r1, r2, r3, r4)) :
  Calls Try.prog 88 #[.pointer (some ⟨g, 0, none⟩)] w fun e w' => ∃ v1_ : Value, e = .returned (.agg #[.int .i64 r1, v1_]) ∧ Kd.S (Kd.slice 30 k30) 28 w' w.heap.size (fun _ => True) v1_ r2 ∧ IsS89 w0 w' g ai r3 r4 ∧ Below w0.heap.size w0 w' ∧ KeepBut w w' g none := by
 have hu24 := Try.underlying24; have hu30 := Try.underlying30; have HI0 := zK hI
 have HK := zK (KeepBut.refl w g none)
 have HL := zK hB.size; clear hI; have HW0 := zK hB.size; have HB := zK hB; clear hB
 have H : ((spec_l01Below.f ai aU aV 5).bind fun bt553 => ((spec_l01Below.f ai bt553.2.1 bt553.2.2 4).bind fun bt557 => (spec_l06Store.l0 k 0 (wrap64 (1 + bt557.1)) ai bt557.2.1 bt557.2.2 (wrap64 (1 + bt553.1)) ([] : List (List (S30)))))) = some (r1, r2, r3, r4) := h
 clear h; replace H := Option.bind_eq_some_iff.mp H
 obtain ⟨⟨aj, aY, aZ⟩, A20, H⟩ := H
 replace H : ((spec_l01Below.f ai aY aZ 4).bind fun bt557 => (spec_l06Store.l0 k 0 (wrap64 (1 + bt557.1)) ai bt557.2.1 bt557.2.2 (wrap64 (1 + aj)) ([] : List (List (S30))))) = some (r1, r2, r3, r4) := H
 have A2 := zK A20; clear A20; replace H := Option.bind_eq_some_iff.mp H
 obtain ⟨⟨bf, bg, bh⟩, A30, H⟩ := H
 replace H : (spec_l06Store.l0 k 0 (wrap64 (1 + bf)) ai bg bh (wrap64 (1 + aj)) ([] : List (List (S30)))) = some (r1, r2, r3, r4) := H
 have A3 := zK A30; clear A30; have H' := zK H; clear H
 go_enter Try.func88, Try.ntmps88
 go_wp2_with (first | ((with_reducible refine gate_dst (N := 2) rfl ?_); refine box_event ?hg (N := 2) ?hd (cs := #[.int .i64 0, .slice none 0 0]) (t := 24) ?hr ?_; (case hd => rfl); (case hg => rfl); (case hr => first | (go_simp; done) | (go_simp; rfl)); intro ah hg w4 hbox hb; have aA := zK (IsS89.below (by repeat (first | (with_reducible first | exact HI0.out | apply IsS89.alloc | apply IsS89.drewN | apply IsS89.drew | apply IsS89.set_1 | apply IsS89.set_2) | exact HI0.out)) hb); have aB := zK (KeepBut.trans (by repeat (first | (with_reducible first | exact HK.out | apply KeepBut.set_ | apply keep_drewN | apply keep_drew | apply keep_alloc) | exact HK.out)) (KeepBut.of_below hb g none) (.inl rfl)); have aC := zK (below_step (by repeat (first | (with_reducible first | exact HB.out | apply zB | apply zC | apply zE | refine zS ?_ (IsS89.ge HI0.out)) | exact HB.out)) hb); have aD := zK (hbox); have aH := zK ((by rw [hg]; exact (keep_size (w := w) (g := g) (row := none) (by repeat (first | (with_reducible first | exact HK.out | apply KeepBut.set_ | apply keep_drewN | apply keep_drew | apply keep_alloc) | exact HK.out))) : w.heap.size ≤ ah)); have aI := zK ((Nat.le_trans HW0.out (by rw [hg]; exact (keep_size (w := w) (g := g) (row := none) (by repeat (first | (with_reducible first | exact HK.out | apply KeepBut.set_ | apply keep_drewN | apply keep_drew | apply keep_alloc) | exact HK.out))) : w.heap.size ≤ ah) : w0.heap.size ≤ ah)); have aM := zK ((by rw [hg]; exact Nat.ne_of_lt (IsS89.lt (show IsS89 w0 _ g ai aU aV from by repeat (first | (with_reducible first | exact HI0.out | apply IsS89.alloc | apply IsS89.drewN | apply IsS89.drew | apply IsS89.set_1 | apply IsS89.set_2) | exact HI0.out))) : g ≠ ah)); have bo := zK ((by rw [hg]; exact Nat.ne_of_gt (IsS89.lt (show IsS89 w0 _ g ai aU aV from by repeat (first | (with_reducible first | exact HI0.out | apply IsS89.alloc | apply IsS89.drewN | apply IsS89.drew | apply IsS89.set_1 | apply IsS89.set_2) | exact HI0.out))) : ah ≠ g)); clear HI0; clear HK; clear HB; have HI0 := aA; have HK := aB; have HB := aC; have ac := aD; have ak := aH; have an := aI; have ad := aM; have aw := bo; clear aA aB aC aD aH aI aM bo; clear hb hbox hg) | ((with_reducible refine gate_callee (f := 89) rfl ?_); refine goesL_ (some 9) rfl rfl Try.func89 (by kernel_rfl) rfl #[.pointer (some ⟨g, 0, none⟩), .int .i64 5] rfl (by (try simp only [List.map_toArray, List.map_cons, List.map_nil]); first | done | rfl | (simp only [List.length_drop, List.length_take]; rfl)) ?_; (with_reducible refine (spec_l01Below.calls g ai aU aV 5 aj aY aZ w0 _ ?side1 ?side2 A2.out).mono ?_); (case side1 => repeat (first | (with_reducible first | exact HI0.out | apply IsS89.alloc | apply IsS89.drewN | apply IsS89.drew | apply IsS89.set_1 | apply IsS89.set_2 | refine IsS89.far ?_ ad.out _) | exact HI0.out)); (case side2 => repeat (first | (with_reducible first | exact HB.out | apply zB | apply zC | apply zE | refine zS ?_ (IsS89.ge HI0.out) | refine zS ?_ an.out) | exact HB.out)); rintro e w5 ⟨rfl, hi, hb, hk⟩; refine ⟨_, rfl, ?_⟩; have aA := zK (KeepBut.blk hk (g' := ah) (o := .cells #[.int .i64 0, .slice none 0 0] 24 (0, 0)) (zk ac) aw.out (by simp)); have aB := zK (KeepBut.trans (by repeat (first | (with_reducible first | exact HK.out | apply KeepBut.set_ | apply keep_drewN | apply keep_drew | apply keep_alloc | refine keep_far ?_ ak.out _) | exact HK.out)) hk (.inl rfl)); have aC := zK (hb); have aD := zK (hi); clear ac; clear HK; clear HB; clear HI0; have ac := aA; have HK := aB; have HB := aC; have HI0 := aD; clear aA aB aC aD; (try clear hb); (try clear hk); (try clear hi)) | ((with_reducible refine gate_dst (N := 3) rfl ?_); refine box_event ?hg (N := 3) ?hd (cs := #[.int .i64 0, .slice none 0 0]) (t := 24) ?hr ?_; (case hd => rfl); (case hg => rfl); (case hr => first | (go_simp; done) | (go_simp; rfl)); intro ag hg w6 hbox hb; have aA := zK (IsS89.below (by repeat (first | (with_reducible first | exact HI0.out | apply IsS89.alloc | apply IsS89.drewN | apply IsS89.drew | apply IsS89.set_1 | apply IsS89.set_2 | refine IsS89.far ?_ ad.out _) | exact HI0.out)) hb); have aB := zK (blk_below (g := ah) (o := .cells #[.int .i64 0, .slice none 0 0] 24 (0, 0)) (zk ac) hb); have aC := zK (KeepBut.trans (by repeat (first | (with_reducible first | exact HK.out | apply KeepBut.set_ | apply keep_drewN | apply keep_drew | apply keep_alloc | refine keep_far ?_ ak.out _) | exact HK.out)) (KeepBut.of_below hb g none) (.inl rfl)); have aD := zK (below_step (by repeat (first | (with_reducible first | exact HB.out | apply zB | apply zC | apply zE | refine zS ?_ (IsS89.ge HI0.out) | refine zS ?_ an.out) | exact HB.out)) hb); have aH := zK (hbox); have aI := zK ((by rw [hg]; exact (keep_size (w := w) (g := g) (row := none) (by repeat (first | (with_reducible first | exact HK.out | apply KeepBut.set_ | apply keep_drewN | apply keep_drew | apply keep_alloc | refine keep_far ?_ ak.out _) | exact HK.out))) : w.heap.size ≤ ag)); have aM := zK ((Nat.le_trans HW0.out (by rw [hg]; exact (keep_size (w := w) (g := g) (row := none) (by repeat (first | (with_reducible first | exact HK.out | apply KeepBut.set_ | apply keep_drewN | apply keep_drew | apply keep_alloc | refine keep_far ?_ ak.out _) | exact HK.out))) : w.heap.size ≤ ag) : w0.heap.size ≤ ag)); have bo := zK ((by rw [hg]; exact Nat.ne_of_lt (blk_lt (g := ah) (o := .cells #[.int .i64 0, .slice none 0 0] 24 (0, 0)) (zk ac)) : ah ≠ ag)); have n8_ := zK ((by rw [hg]; exact Nat.ne_of_gt (blk_lt (g := ah) (o := .cells #[.int .i64 0, .slice none 0 0] 24 (0, 0)) (zk ac)) : ag ≠ ah)); have n9_ := zK ((by rw [hg]; exact Nat.ne_of_lt (IsS89.lt (show IsS89 w0 _ g ai aY aZ from by repeat (first | (with_reducible first | exact HI0.out | apply IsS89.alloc | apply IsS89.drewN | apply IsS89.drew | apply IsS89.set_1 | apply IsS89.set_2 | refine IsS89.far ?_ ad.out _) | exact HI0.out))) : g ≠ ag)); have bp := zK ((by rw [hg]; exact Nat.ne_of_gt (IsS89.lt (show IsS89 w0 _ g ai aY aZ from by repeat (first | (with_reducible first | exact HI0.out | apply IsS89.alloc | apply IsS89.drewN | apply IsS89.drew | apply IsS89.set_1 | apply IsS89.set_2 | refine IsS89.far ?_ ad.out _) | exact HI0.out))) : ag ≠ g)); clear HI0; clear ac; clear HK; clear HB; have HI0 := aA; have ac := aB; have HK := aC; have HB := aD; have ab := aH; have am := aI; have av := aM; have al := bo; have ax := n8_; have ae := n9_; have ao := bp; clear aA aB aC aD aH aI aM bo n8_ n9_ bp; clear hb hbox hg; have hnb7 := ax.out; have hnc7 := al.out; have hnb8 := ao.out; have hnc8 := ae.out; have a0 : w6.cell? ⟨ag, 0, none⟩ = some (.int .i64 0) := (blk_cell ab.out 0).trans rfl; have a1 : w6.cell? ⟨ag, 1, none⟩ = some (.slice none 0 0) := (blk_cell ab.out 1).trans rfl; have a2 := blk_frozen ab.out 0; have a3 := blk_frozen ab.out 1) | ((with_reducible refine gate_callee (f := 89) rfl ?_); refine goesL_ (some 13) rfl rfl Try.func89 (by kernel_rfl) rfl #[.pointer (some ⟨g, 0, none⟩), .int .i64 4] rfl (by (try simp only [List.map_toArray, List.map_cons, List.map_nil]); first | done | rfl | (simp only [List.length_drop, List.length_take]; rfl)) ?_; (with_reducible refine (spec_l01Below.calls g ai aY aZ 4 bf bg bh w0 _ ?side1 ?side2 A3.out).mono ?_); (case side1 => repeat (first | (with_reducible first | exact HI0.out | apply IsS89.alloc | apply IsS89.drewN | apply IsS89.drew | apply IsS89.set_1 | apply IsS89.set_2 | refine IsS89.far ?_ ad.out _ | refine IsS89.far ?_ ae.out _) | exact HI0.out)); (case side2 => repeat (first | (with_reducible first | exact HB.out | apply zB | apply zC | apply zE | refine zS ?_ (IsS89.ge HI0.out) | refine zS ?_ an.out | refine zS ?_ av.out) | exact HB.out)); rintro e w10 ⟨rfl, hi, hb, hk⟩; refine ⟨_, rfl, ?_⟩; have aA := zK (KeepBut.blk hk (g' := ah) (o := .cells #[.int .i64 0, .slice none 0 0] 24 (0, 0)) (by (with_reducible repeat (first | refine zN ?_ _ | refine zD ?_ | refine zA ?_ _)); refine blk_far ?_ al.out _; (with_reducible repeat (first | refine zN ?_ _ | refine zD ?_ | refine zA ?_ _)); refine blk_far ?_ al.out _; (with_reducible repeat (first | refine zN ?_ _ | refine zD ?_ | refine zA ?_ _)); exact ac.out) aw.out (by simp)); have aB := zK (KeepBut.blk hk (g' := ag) (o := .cells #[.int .i64 (wrap64 (1 + aj)), .slice none 0 0] 24 (0, 0)) (by (with_reducible repeat (first | refine zN ?_ _ | refine zD ?_ | refine zA ?_ _)); refine blk_put (cs := #[.int .i64 (wrap64 (1 + aj)), .slice none 0 0]) ?_ 1 _ rfl; (with_reducible repeat (first | refine zN ?_ _ | refine zD ?_ | refine zA ?_ _)); refine blk_put (cs := #[.int .i64 0, .slice none 0 0]) ?_ 0 _ rfl; (with_reducible repeat (first | refine zN ?_ _ | refine zD ?_ | refine zA ?_ _)); exact ab.out) ao.out (by simp)); have aC := zK (KeepBut.trans (by repeat (first | (with_reducible first | exact HK.out | apply KeepBut.set_ | apply keep_drewN | apply keep_drew | apply keep_alloc | refine keep_far ?_ ak.out _ | refine keep_far ?_ am.out _) | exact HK.out)) hk (.inl rfl)); have aD := zK (hb); have aH := zK (hi); clear ac; clear ab; clear HK; clear HB; clear HI0; have ac := aA; have ab := aB; have HK := aC; have HB := aD; have HI0 := aH; clear aA aB aC aD aH; (try clear hb); (try clear hk); (try clear hi)))
 go_loopg [4, 5] k (fun kq v4 v5 w' => ∃ (aW : Int) (aE : Int) (ar : Int) (au : Int) (af : List (List (S30))) (u557001 : Value), v4 = .int .i64 aW ∧ v5 = .int .i64 aE ∧ Aside0 (spec_l06Store.l0 kq aW aE ai ar au (wrap64 (1 + aj)) af = some (r1, r2, r3, r4)) ∧ Aside0 (kq ≤ k) ∧ Aside0 (Kd.S (Kd.slice 30 k30) 28 w' w.heap.size (fun _ => True) u557001 af) ∧ Aside0 (w'.heap[ah]? = some (.cells #[.int .i64 0, (.slice none 0 0)] 24 (0, 0))) ∧ Aside0 (w'.heap[ag]? = some (.cells #[.int .i64 (wrap64 (1 + aj)), u557001] 24 (0, 0))) ∧ Aside0 (IsS89 w0 w' g ai ar au) ∧ Aside0 (KeepBut w w' g none) ∧ Aside0 (Below w0.heap.size w0 w'))
 case atStart => exact ⟨(0), (wrap64 (1 + bf)), (bg), (bh), (([] : List (List (S30)))), (.slice none 0 0), (by first | rfl | (simp; done) | (simp [*]; done)), (by first | rfl | (simp; done) | (simp [*]; done)), H', ⟨Nat.le_refl _⟩, ⟨by first | exact Kd.S_nil _ _ _ _ _ | exact Kd.N_nil _ _ _ _ _ | exact Kd.V_nil _ _ _ _ _ | exact Kd.Q_nil _ _ _ _ _ | exact Kd.R_nil _ _ _ _ _⟩, ⟨zk ac⟩, ⟨zk ab⟩, ⟨by repeat (first | (with_reducible first | exact HI0.out | apply IsS89.alloc | apply IsS89.drewN | apply IsS89.drew | apply IsS89.set_1 | apply IsS89.set_2 | refine IsS89.far ?_ ad.out _ | refine IsS89.far ?_ ae.out _) | exact HI0.out)⟩, ⟨by repeat (first | (with_reducible first | exact HK.out | apply KeepBut.set_ | apply keep_drewN | apply keep_drew | apply keep_alloc | refine keep_far ?_ ak.out _ | refine keep_far ?_ am.out _) | exact HK.out)⟩, ⟨by repeat (first | (with_reducible first | exact HB.out | apply zB | apply zC | apply zE | refine zS ?_ (IsS89.ge HI0.out) | refine zS ?_ an.out | refine zS ?_ av.out) | exact HB.out)⟩⟩
 case round =>
  clear H'
  try clear p2
  try clear p6
  try clear c7
  try clear c8
  try clear a0
  try clear a1
  try clear a2
  try clear a3
  obtain ⟨aW, aE, ar, au, af, u557001, rfl, rfl, HA, HK1, aa, ac, ab, HI0, HK, HB⟩ := hrel
  cases gk with
  | zero => exact absurd HA.out (by simp [spec_l06Store.l0])
  | succ k1 =>
   have H := HA.out; clear HA
   simp only [spec_l06Store.l0] at H
   by_cases bi : aE > 0
   ·rw [if_pos bi] at H
    have bd : decide (0 < aE) = true := decide_eq_true bi
    clear bi
    obtain ⟨bj, aN⟩ : ∃ y_ : List (S30), y_ = (([] : List (S30))) := ⟨_, rfl⟩
    replace H : ((spec_l01Below.f ai ar au (wrap64 ((wrap64 (1 + aj)) + 1))).bind fun bt563 => (spec_l06Store.l1 k1 aW aE bj bt563.1 ai bt563.2.1 bt563.2.2 (wrap64 (1 + aj)) af)) = some (r1, r2, r3, r4) := by first | (rw [aN]; with_reducible exact H) | (have H2_ := (Option.bind_some _ _).symm.trans H; rw [aN]; with_reducible exact H2_) | (have H2_ := (Option.bind_some _ _).symm.trans H; with_reducible exact H2_) | with_reducible exact H | (rw [aN]; exact H) | exact H
    have Ny560 := zK aN; clear aN; replace H := Option.bind_eq_some_iff.mp H
    obtain ⟨⟨bk, bl, bm⟩, bq, H⟩ := H
    replace H : (spec_l06Store.l1 k1 aW aE bj bk ai bl bm (wrap64 (1 + aj)) af) = some (r1, r2, r3, r4) := H
    have A12 := zK bq; clear bq; have H' := zK H; clear H
    go_wp2_with (first | ((with_reducible refine gate_dst (N := 19) rfl ?_); refine Kd.R_lit k30 _ 30 ?hg (N := 19) ?hd (xs := ([] : List (S30))) (inner := []) (ok := fun _ => True) (okp := fun _ => True) ?hr ?hp (fun _ hk => hk) trivial (Below.refl _ _) (Nat.le_refl _) (by simp) ?_; (case hd => rfl); (case hg => rfl); (case hr => first | (go_simp; done) | (go_simp; rfl)); (case hp => exact (Reps.none _ _)); intro v561 w13 ho14 hb hg_ hnew_; clear hg_ hnew_; (first | rw [← Ny560.out] at ho14 | (simp only [Int.reduceToNat] at ho14; rw [← Ny560.out] at ho14)); have aA := zK (Kd.S_elder' (zT aa) (Kd.R_base ho14) hb); have aB := zK (Kd.R_lower ho14 (keep_size (w := w) (g := g) (row := none) (by repeat (first | (with_reducible first | exact HK.out | apply KeepBut.set_ | apply keep_drewN | apply keep_drew | apply keep_alloc | refine keep_far ?_ ak.out _ | refine keep_far ?_ am.out _) | exact HK.out)))); have aC := zK (blk_below (g := ah) (o := .cells #[.int .i64 0, .slice none 0 0] 24 (0, 0)) (zk ac) hb); have aD := zK (blk_below (g := ag) (o := .cells #[.int .i64 (wrap64 (1 + aj)), u557001] 24 (0, 0)) (zk ab) hb); have aH := zK (IsS89.below (by repeat (first | (with_reducible first | exact HI0.out | apply IsS89.alloc | apply IsS89.drewN | apply IsS89.drew | apply IsS89.set_1 | apply IsS89.set_2 | refine IsS89.far ?_ ad.out _ | refine IsS89.far ?_ ae.out _) | exact HI0.out)) hb); have aI := zK (KeepBut.trans (by repeat (first | (with_reducible first | exact HK.out | apply KeepBut.set_ | apply keep_drewN | apply keep_drew | apply keep_alloc | refine keep_far ?_ ak.out _ | refine keep_far ?_ am.out _) | exact HK.out)) (KeepBut.of_below hb g none) (.inl rfl)); have aM := zK (below_step (by repeat (first | (with_reducible first | exact HB.out | apply zB | apply zC | apply zE | refine zS ?_ (IsS89.ge HI0.out) | refine zS ?_ an.out | refine zS ?_ av.out) | exact HB.out)) hb); clear aa; clear ac; clear ab; clear HI0; clear HK; clear HB; have aa := aA; have aT := aB; have ac := aC; have ab := aD; have HI0 := aH; have HK := aI; have HB := aM; clear aA aB aC aD aH aI aM; clear hb ho14; have hnb15 := ax.out; have hnc15 := al.out; have hnb16 := ao.out; have hnc16 := ae.out; have a6 : w13.cell? ⟨ag, 0, none⟩ = some (.int .i64 (wrap64 (1 + aj))) := (blk_cell ab.out 0).trans rfl; have a7 : w13.cell? ⟨ag, 1, none⟩ = some (u557001) := (blk_cell ab.out 1).trans rfl; have a8 := blk_frozen ab.out 0; have a9 := blk_frozen ab.out 1) | ((with_reducible refine gate_callee (f := 89) rfl ?_); refine goesL_ (some 24) rfl rfl Try.func89 (by kernel_rfl) rfl #[.pointer (some ⟨g, 0, none⟩), .int .i64 (wrap64 ((wrap64 (1 + aj)) + 1))] rfl (by (try simp only [List.map_toArray, List.map_cons, List.map_nil]); first | done | rfl | (simp only [List.length_drop, List.length_take]; rfl)) ?_; (with_reducible refine (spec_l01Below.calls g ai ar au (wrap64 ((wrap64 (1 + aj)) + 1)) bk bl bm w0 _ ?side1 ?side2 A12.out).mono ?_); (case side1 => repeat (first | (with_reducible first | exact HI0.out | apply IsS89.alloc | apply IsS89.drewN | apply IsS89.drew | apply IsS89.set_1 | apply IsS89.set_2 | refine IsS89.far ?_ ad.out _ | refine IsS89.far ?_ ae.out _) | exact HI0.out)); (case side2 => repeat (first | (with_reducible first | exact HB.out | apply zB | apply zC | apply zE | refine zS ?_ (IsS89.ge HI0.out) | refine zS ?_ an.out | refine zS ?_ av.out) | exact HB.out)); rintro e w18 ⟨rfl, hi, hb, hk⟩; refine ⟨_, rfl, ?_⟩; have aA := zK (Kd.S_mono (Kd.S_keep (IsS89.apartS (show IsS89 w0 _ g ai ar au from by repeat (first | (with_reducible first | exact HI0.out | apply IsS89.alloc | apply IsS89.drewN | apply IsS89.drew | apply IsS89.set_1 | apply IsS89.set_2 | refine IsS89.far ?_ ad.out _ | refine IsS89.far ?_ ae.out _) | exact HI0.out)) (zT aa) (by decide)) hk (fun _ h => h.2)) (fun _ h => h.1)); have aB := zK (KeepBut.blk hk (g' := ah) (o := .cells #[.int .i64 0, .slice none 0 0] 24 (0, 0)) (zk ac) aw.out (by simp)); have aC := zK (KeepBut.blk hk (g' := ag) (o := .cells #[.int .i64 (wrap64 (1 + aj)), u557001] 24 (0, 0)) (zk ab) ao.out (by simp)); have aD := zK (Kd.R_mono (Kd.R_keep (IsS89.apart (show IsS89 w0 _ g ai ar au from by repeat (first | (with_reducible first | exact HI0.out | apply IsS89.alloc | apply IsS89.drewN | apply IsS89.drew | apply IsS89.set_1 | apply IsS89.set_2 | refine IsS89.far ?_ ad.out _ | refine IsS89.far ?_ ae.out _) | exact HI0.out)) (zR aT) (by decide)) hk (fun _ h => h.2)) (fun _ h => h.1)); have aH := zK (KeepBut.trans (by repeat (first | (with_reducible first | exact HK.out | apply KeepBut.set_ | apply keep_drewN | apply keep_drew | apply keep_alloc | refine keep_far ?_ ak.out _ | refine keep_far ?_ am.out _) | exact HK.out)) hk (.inl rfl)); have aI := zK (hb); have aM := zK (hi); clear aa; clear ac; clear ab; clear aT; clear HK; clear HB; clear HI0; have aa := aA; have ac := aB; have ab := aC; have aT := aD; have HK := aH; have HB := aI; have HI0 := aM; clear aA aB aC aD aH aI aM; (try clear hb); (try clear hk); (try clear hi)))
    go_loopg [4, 6, 7] k1 (fun kq v4 v6 v7 w' => ∃ (az : Int) (aG : List (S30)) (aK : Int) (ap : Int) (aq : Int), v4 = .int .i64 az ∧ v7 = .int .i64 aK ∧ Aside0 (spec_l06Store.l1 kq az aE aG aK ai ap aq (wrap64 (1 + aj)) af = some (r1, r2, r3, r4)) ∧ Aside0 (kq ≤ k1) ∧ Aside0 (Kd.R k30 30 w' w.heap.size (fun _ => True) v6 aG) ∧ Aside0 (Kd.S (Kd.slice 30 k30) 28 w' w.heap.size (fun k_ => some k_ ≠ (v6 : Value).ownBlock) u557001 af) ∧ Aside0 (w'.heap[ah]? = some (.cells #[.int .i64 0, (.slice none 0 0)] 24 (0, 0))) ∧ Aside0 (w'.heap[ag]? = some (.cells #[.int .i64 (wrap64 (1 + aj)), u557001] 24 (0, 0))) ∧ Aside0 (IsS89 w0 w' g ai ap aq) ∧ Aside0 (KeepBut w w' g none) ∧ Aside0 (Below w0.heap.size w0 w'))
    case atStart => exact ⟨(aW), (bj), (bk), (bl), (bm), (by first | rfl | (simp; done) | (simp [*]; done)), (by first | rfl | (simp; done) | (simp [*]; done)), H', ⟨Nat.le_refl _⟩, ⟨zR aT⟩, ⟨by (with_reducible repeat (first | apply Kd.S_alloc | apply Kd.S_drewN | apply Kd.S_drew)); exact Kd.S_mono aa.out (fun _ hk => hk.2)⟩, ⟨zk ac⟩, ⟨zk ab⟩, ⟨by repeat (first | (with_reducible first | exact HI0.out | apply IsS89.alloc | apply IsS89.drewN | apply IsS89.drew | apply IsS89.set_1 | apply IsS89.set_2 | refine IsS89.far ?_ ad.out _ | refine IsS89.far ?_ ae.out _) | exact HI0.out)⟩, ⟨by repeat (first | (with_reducible first | exact HK.out | apply KeepBut.set_ | apply keep_drewN | apply keep_drew | apply keep_alloc | refine keep_far ?_ ak.out _ | refine keep_far ?_ am.out _) | exact HK.out)⟩, ⟨by repeat (first | (with_reducible first | exact HB.out | apply zB | apply zC | apply zE | refine zS ?_ (IsS89.ge HI0.out) | refine zS ?_ an.out | refine zS ?_ av.out) | exact HB.out)⟩⟩
    case round =>
     clear H'
     try clear c1
     try clear p2
     try clear p6
     try clear c7
     try clear c8
     try clear bi
     try clear bd
     try clear c15
     try clear c16
     try clear a6
     try clear a7
     try clear a0
     try clear a1
     try clear a8
     try clear a9
     try clear a2
     try clear a3
     try clear p2
     try clear p6
     obtain ⟨az, aG, aK, ap, aq, rfl, rfl, HA, HK2, ay, aa, ac, ab, HI0, HK, HB⟩ := hrel
     cases gk with
     | zero => exact absurd HA.out (by simp [spec_l06Store.l1])
     | succ k2 =>
      have H := HA.out; clear HA
      simp only [spec_l06Store.l1] at H
      by_cases bn : aK > 0
      ·rw [if_pos bn] at H
       have br : decide (0 < aK) = true := decide_eq_true bn
       clear bn; replace H := Option.bind_eq_some_iff.mp H
       obtain ⟨⟨aJ, a4, a5⟩, bs, H⟩ := H
       replace H : ((spec_l01Below.f ai a4 a5 12).bind fun bt572 => (if aG.length < 8796093022208 then (spec_l06Store.l1 k2 (wrap64 ((wrap64 (az + 1)) + aJ)) aE (aG ++ [(⟨wrap64 ((wrap64 (az + 1)) + aJ), bt572.1⟩ : S30)]) (wrap64 (aK - 1)) ai bt572.2.1 bt572.2.2 (wrap64 (1 + aj)) af) else (none))) = some (r1, r2, r3, r4) := H
       have A20 := zK bs; clear bs; replace H := Option.bind_eq_some_iff.mp H
       obtain ⟨⟨aX, ba, bb⟩, bt, H⟩ := H
       replace H : (if aG.length < 8796093022208 then (spec_l06Store.l1 k2 (wrap64 ((wrap64 (az + 1)) + aJ)) aE (aG ++ [(⟨wrap64 ((wrap64 (az + 1)) + aJ), aX⟩ : S30)]) (wrap64 (aK - 1)) ai ba bb (wrap64 (1 + aj)) af) else (none)) = some (r1, r2, r3, r4) := H
       have A21 := zK bt; clear bt
       by_cases c22 : aG.length < 8796093022208
       ·rw [if_pos c22] at H
        have bv := zK c22; clear c22
        obtain ⟨bw, aQ⟩ : ∃ y_ : List (S30), y_ = (aG ++ [(⟨wrap64 ((wrap64 (az + 1)) + aJ), aX⟩ : S30)]) := ⟨_, rfl⟩
        replace H : (spec_l06Store.l1 k2 (wrap64 ((wrap64 (az + 1)) + aJ)) aE bw (wrap64 (aK - 1)) ai ba bb (wrap64 (1 + aj)) af) = some (r1, r2, r3, r4) := by first | (rw [aQ]; with_reducible exact H) | (have H2_ := (Option.bind_some _ _).symm.trans H; rw [aQ]; with_reducible exact H2_) | (have H2_ := (Option.bind_some _ _).symm.trans H; with_reducible exact H2_) | with_reducible exact H | (rw [aQ]; exact H) | exact H
        have Ny575 := zK aQ; clear aQ; have H' := zK H; clear H
        go_wp2_with (first | ((with_reducible refine gate_callee (f := 89) rfl ?_); refine goesL_ (some 32) rfl rfl Try.func89 (by kernel_rfl) rfl #[.pointer (some ⟨g, 0, none⟩), .int .i64 2] rfl (by (try simp only [List.map_toArray, List.map_cons, List.map_nil]); first | done | rfl | (simp only [List.length_drop, List.length_take]; rfl)) ?_; (with_reducible refine (spec_l01Below.calls g ai ap aq 2 aJ a4 a5 w0 _ ?side1 ?side2 A20.out).mono ?_); (case side1 => repeat (first | (with_reducible first | exact HI0.out | apply IsS89.alloc | apply IsS89.drewN | apply IsS89.drew | apply IsS89.set_1 | apply IsS89.set_2 | refine IsS89.far ?_ ad.out _ | refine IsS89.far ?_ ae.out _) | exact HI0.out)); (case side2 => repeat (first | (with_reducible first | exact HB.out | apply zB | apply zC | apply zE | refine zS ?_ (IsS89.ge HI0.out) | refine zS ?_ an.out | refine zS ?_ av.out) | exact HB.out)); rintro e w23 ⟨rfl, hi, hb, hk⟩; refine ⟨_, rfl, ?_⟩; have aA := zK (Kd.R_mono (Kd.R_keep (IsS89.apart (show IsS89 w0 _ g ai ap aq from by repeat (first | (with_reducible first | exact HI0.out | apply IsS89.alloc | apply IsS89.drewN | apply IsS89.drew | apply IsS89.set_1 | apply IsS89.set_2 | refine IsS89.far ?_ ad.out _ | refine IsS89.far ?_ ae.out _) | exact HI0.out)) (zR ay) (by decide)) hk (fun _ h => h.2)) (fun _ h => h.1)); have aB := zK (Kd.S_mono (Kd.S_keep (IsS89.apartS (show IsS89 w0 _ g ai ap aq from by repeat (first | (with_reducible first | exact HI0.out | apply IsS89.alloc | apply IsS89.drewN | apply IsS89.drew | apply IsS89.set_1 | apply IsS89.set_2 | refine IsS89.far ?_ ad.out _ | refine IsS89.far ?_ ae.out _) | exact HI0.out)) (zT aa) (by decide)) hk (fun _ h => h.2)) (fun _ h => h.1)); have aC := zK (KeepBut.blk hk (g' := ah) (o := .cells #[.int .i64 0, .slice none 0 0] 24 (0, 0)) (zk ac) aw.out (by simp)); have aD := zK (KeepBut.blk hk (g' := ag) (o := .cells #[.int .i64 (wrap64 (1 + aj)), u557001] 24 (0, 0)) (zk ab) ao.out (by simp)); have aH := zK (KeepBut.trans (by repeat (first | (with_reducible first | exact HK.out | apply KeepBut.set_ | apply keep_drewN | apply keep_drew | apply keep_alloc | refine keep_far ?_ ak.out _ | refine keep_far ?_ am.out _) | exact HK.out)) hk (.inl rfl)); have aI := zK (hb); have aM := zK (hi); clear ay; clear aa; clear ac; clear ab; clear HK; clear HB; clear HI0; have ay := aA; have aa := aB; have ac := aC; have ab := aD; have HK := aH; have HB := aI; have HI0 := aM; clear aA aB aC aD aH aI aM; (try clear hb); (try clear hk); (try clear hi)) | ((with_reducible refine gate_callee (f := 89) rfl ?_); refine goesL_ (some 37) rfl rfl Try.func89 (by kernel_rfl) rfl #[.pointer (some ⟨g, 0, none⟩), .int .i64 12] rfl (by (try simp only [List.map_toArray, List.map_cons, List.map_nil]); first | done | rfl | (simp only [List.length_drop, List.length_take]; rfl)) ?_; (with_reducible refine (spec_l01Below.calls g ai a4 a5 12 aX ba bb w0 _ ?side1 ?side2 A21.out).mono ?_); (case side1 => repeat (first | (with_reducible first | exact HI0.out | apply IsS89.alloc | apply IsS89.drewN | apply IsS89.drew | apply IsS89.set_1 | apply IsS89.set_2 | refine IsS89.far ?_ ad.out _ | refine IsS89.far ?_ ae.out _) | exact HI0.out)); (case side2 => repeat (first | (with_reducible first | exact HB.out | apply zB | apply zC | apply zE | refine zS ?_ (IsS89.ge HI0.out) | refine zS ?_ an.out | refine zS ?_ av.out) | exact HB.out)); rintro e w24 ⟨rfl, hi, hb, hk⟩; refine ⟨_, rfl, ?_⟩; have aA := zK (Kd.R_mono (Kd.R_keep (IsS89.apart (show IsS89 w0 _ g ai a4 a5 from by repeat (first | (with_reducible first | exact HI0.out | apply IsS89.alloc | apply IsS89.drewN | apply IsS89.drew | apply IsS89.set_1 | apply IsS89.set_2 | refine IsS89.far ?_ ad.out _ | refine IsS89.far ?_ ae.out _) | exact HI0.out)) (zR ay) (by decide)) hk (fun _ h => h.2)) (fun _ h => h.1)); have aB := zK (Kd.S_mono (Kd.S_keep (IsS89.apartS (show IsS89 w0 _ g ai a4 a5 from by repeat (first | (with_reducible first | exact HI0.out | apply IsS89.alloc | apply IsS89.drewN | apply IsS89.drew | apply IsS89.set_1 | apply IsS89.set_2 | refine IsS89.far ?_ ad.out _ | refine IsS89.far ?_ ae.out _) | exact HI0.out)) (zT aa) (by decide)) hk (fun _ h => h.2)) (fun _ h => h.1)); have aC := zK (KeepBut.blk hk (g' := ah) (o := .cells #[.int .i64 0, .slice none 0 0] 24 (0, 0)) (zk ac) aw.out (by simp)); have aD := zK (KeepBut.blk hk (g' := ag) (o := .cells #[.int .i64 (wrap64 (1 + aj)), u557001] 24 (0, 0)) (zk ab) ao.out (by simp)); have aH := zK (KeepBut.trans (by repeat (first | (with_reducible first | exact HK.out | apply KeepBut.set_ | apply keep_drewN | apply keep_drew | apply keep_alloc | refine keep_far ?_ ak.out _ | refine keep_far ?_ am.out _) | exact HK.out)) hk (.inl rfl)); have aI := zK (hb); have aM := zK (hi); clear ay; clear aa; clear ac; clear ab; clear HK; clear HB; clear HI0; have ay := aA; have aa := aB; have ac := aC; have ab := aD; have HK := aH; have HB := aI; have HI0 := aM; clear aA aB aC aD aH aI aM; (try clear hb); (try clear hk); (try clear hi)) | ((with_reducible refine gate_builtin (b := .append) (xs := #[.tmp 34, .tmp 39]) rfl ?_); at_builtin; refine Kd.R_append k30 w.heap.size rfl (.tmp 34) (.tmp 39) 28 30 (.agg #[(.int .i64 0), (.int .i64 0)]) 16 rfl Try.underlying28 info30 rfl (by decide) (by omega) u6 aG (⟨wrap64 ((wrap64 (az + 1)) + aJ), aX⟩ : S30) [.int .i64 (wrap64 ((wrap64 (az + 1)) + aJ)), .int .i64 aX] (fun _ => True) (fun _ => False) rfl rfl ?aP (fun _ hk => hk.elim) ?aF ?aO (Below.refl _ _) ?aS ?aL ?_; (case aP => exact k30_mkM _ _ _ (⟨wrap64 ((wrap64 (az + 1)) + aJ), aX⟩ : S30)); (case aF => exact (fun _ _ => trivial)); (case aO => exact (zR ay)); (case aS => exact (keep_size (w := w) (g := g) (row := none) (by repeat (first | (with_reducible first | exact HK.out | apply KeepBut.set_ | apply keep_drewN | apply keep_drew | apply keep_alloc | refine keep_far ?_ ak.out _ | refine keep_far ?_ am.out _) | exact HK.out)))); (case aL => have := bv.out; omega); intro v576 w25 ho hb hg hat; rw [← Ny575.out] at ho; have aA := zK (Kd.S_after (ok := (fun _ => True)) (by (with_reducible repeat (first | apply Kd.S_alloc | apply Kd.S_drewN | apply Kd.S_drew)); exact Kd.S_mono aa.out (fun _ hk => ⟨trivial, hk⟩)) hg hat); have aB := zK (blk_grown (g := ah) (o := .cells #[.int .i64 0, .slice none 0 0] 24 (0, 0)) (zk ac) hg (Kd.R_ne ay.out ac.out (by decide))); have aC := zK (blk_grown (g := ag) (o := .cells #[.int .i64 (wrap64 (1 + aj)), u557001] 24 (0, 0)) (zk ab) hg (Kd.R_ne ay.out ab.out (by decide))); have aD := zK (IsS89.grown (by repeat (first | (with_reducible first | exact HI0.out | apply IsS89.alloc | apply IsS89.drewN | apply IsS89.drew | apply IsS89.set_1 | apply IsS89.set_2 | refine IsS89.far ?_ ad.out _ | refine IsS89.far ?_ ae.out _) | exact HI0.out)) hg (IsS89.own_ne HI0.out ay.out (by decide))); have aH := zK (below_weaken (by repeat (first | (with_reducible first | exact HB.out | apply zB | apply zC | apply zE | refine zS ?_ (IsS89.ge HI0.out) | refine zS ?_ an.out | refine zS ?_ av.out) | exact HB.out)) HL.out hb); have aI := zK (KeepBut.trans (by repeat (first | (with_reducible first | exact HK.out | apply KeepBut.set_ | apply keep_drewN | apply keep_drew | apply keep_alloc | refine keep_far ?_ ak.out _ | refine keep_far ?_ am.out _) | exact HK.out)) (KeepBut.of_grown hg g) (Kd.R_base2 ay.out)); have aM := zK (ho); clear aa; clear ac; clear ab; clear HI0; clear HB; clear HK; clear ay; have aa := aA; have ac := aB; have ab := aC; have HI0 := aD; have HB := aH; have HK := aI; have bx := aM; clear aA aB aC aD aH aI aM; clear ho hb hg hat))
        go_roundg k2
        case measure => have := HK1.out; have := HK2.out; omega
        case rel => exact ⟨(wrap64 ((wrap64 (az + 1)) + aJ)), (bw), (wrap64 (aK - 1)), (ba), (bb), (by first | rfl | (simp; done) | (simp [*]; done)), (by first | rfl | (simp; done) | (simp [*]; done)), H', ⟨by have := HK1.out; have := HK2.out; omega⟩, ⟨zR bx⟩, ⟨by (with_reducible repeat (first | apply Kd.S_alloc | apply Kd.S_drewN | apply Kd.S_drew)); exact Kd.S_mono aa.out (fun _ hk => hk.2)⟩, ⟨zk ac⟩, ⟨zk ab⟩, ⟨by repeat (first | (with_reducible first | exact HI0.out | apply IsS89.alloc | apply IsS89.drewN | apply IsS89.drew | apply IsS89.set_1 | apply IsS89.set_2 | refine IsS89.far ?_ ad.out _ | refine IsS89.far ?_ ae.out _) | exact HI0.out)⟩, ⟨by repeat (first | (with_reducible first | exact HK.out | apply KeepBut.set_ | apply keep_drewN | apply keep_drew | apply keep_alloc | refine keep_far ?_ ak.out _ | refine keep_far ?_ am.out _) | exact HK.out)⟩, ⟨by repeat (first | (with_reducible first | exact HB.out | apply zB | apply zC | apply zE | refine zS ?_ (IsS89.ge HI0.out) | refine zS ?_ an.out | refine zS ?_ av.out) | exact HB.out)⟩⟩
       ·rw [if_neg c22] at H
        exact absurd H (by simp)
      ·rw [if_neg bn] at H
       have br : decide (0 < aK) = false := decide_eq_false bn
       clear bn
       by_cases c26 : af.length < 5864062014805
       ·rw [if_pos c26] at H
        have bz := zK c26; clear c26
        obtain ⟨bc, aR⟩ : ∃ y_ : List (List (S30)), y_ = (af ++ [aG]) := ⟨_, rfl⟩
        replace H : (spec_l06Store.l0 k2 az (wrap64 (aE - 1)) ai ap aq (wrap64 (1 + aj)) bc) = some (r1, r2, r3, r4) := by first | (rw [aR]; with_reducible exact H) | (have H2_ := (Option.bind_some _ _).symm.trans H; rw [aR]; with_reducible exact H2_) | (have H2_ := (Option.bind_some _ _).symm.trans H; with_reducible exact H2_) | with_reducible exact H | (rw [aR]; exact H) | exact H
        have Ny566 := zK aR; clear aR; have H' := zK H; clear H; have hnb27 := ax.out; have hnc27 := al.out; have hnb28 := ao.out; have hnc28 := ae.out
        have hcz29_0 : wr.cell? ⟨ag, 0, none⟩ = some (.int .i64 (wrap64 (1 + aj))) := (blk_cell ab.out 0).trans rfl
        have hcz29_1 : wr.cell? ⟨ag, 1, none⟩ = some (u557001) := (blk_cell ab.out 1).trans rfl
        have hfz29_0 := blk_frozen ab.out 0; have hfz29_1 := blk_frozen ab.out 1
        obtain ⟨bA, bB, eo31⟩ := Kd.R_slice ay.out
        subst eo31
        go_wp2_with (first | ((with_reducible refine gate_builtin (b := .append) (xs := #[.tmp 42, .tmp 44]) rfl ?_); at_builtin; refine Kd.S_append (Kd.slice 30 k30) w.heap.size rfl (.tmp 42) (.tmp 44) 22 28 (.slice none 0 0) 24 rfl Try.underlying22 info28 rfl (by decide) (by omega) u557001 af aG [.slice bA aG.length bB] (fun _ => True) (fun k_ => some k_ = (.slice bA aG.length bB : Value).ownBlock) rfl rfl ?aP (fun k_ hk_ => ((Kd.R_mono (ok' := fun k_ => ((fun _ => True)) k_ ∧ some k_ ≠ (u557001 : Value).ownBlock) (Kd.R_apart' (ay.out) (Kd.S_typed aa.out) (by decide)) (fun k_ hk => ⟨trivial, hk.2⟩))).1 k_ hk_.symm) ?aF ?aO (Below.refl _ _) ?aS ?aL ?_; (case aP => exact Kd.M_row (Kd.R_mono (Kd.R_tight rfl (Kd.R_mono (ok' := fun k_ => ((fun _ => True)) k_ ∧ some k_ ≠ (u557001 : Value).ownBlock) (Kd.R_apart' (ay.out) (Kd.S_typed aa.out) (by decide)) (fun k_ hk => ⟨trivial, hk.2⟩))) (fun _ h_ => h_))); (case aF => exact (fun _ _ => trivial)); (case aO => exact (by (with_reducible repeat (first | apply Kd.S_alloc | apply Kd.S_drewN | apply Kd.S_drew)); exact Kd.S_mono aa.out (fun k_ hk => ⟨trivial, fun e_ => hk e_⟩))); (case aS => exact (keep_size (w := w) (g := g) (row := none) (by repeat (first | (with_reducible first | exact HK.out | apply KeepBut.set_ | apply keep_drewN | apply keep_drew | apply keep_alloc | refine keep_far ?_ ak.out _ | refine keep_far ?_ am.out _) | exact HK.out)))); (case aL => have := bz.out; omega); intro v567 w30 ho hb hg hat; rw [← Ny566.out] at ho; have aA := zK (blk_grown (g := ah) (o := .cells #[.int .i64 0, .slice none 0 0] 24 (0, 0)) (zk ac) hg (Kd.S_ne aa.out ac.out (by decide))); have aB := zK (blk_grown (g := ag) (o := .cells #[.int .i64 (wrap64 (1 + aj)), u557001] 24 (0, 0)) (zk ab) hg (Kd.S_ne aa.out ab.out (by decide))); have aC := zK (IsS89.grown (by repeat (first | (with_reducible first | exact HI0.out | apply IsS89.alloc | apply IsS89.drewN | apply IsS89.drew | apply IsS89.set_1 | apply IsS89.set_2 | refine IsS89.far ?_ ad.out _ | refine IsS89.far ?_ ae.out _) | exact HI0.out)) hg (IsS89.own_neS HI0.out aa.out (by decide))); have aD := zK (below_weaken (by repeat (first | (with_reducible first | exact HB.out | apply zB | apply zC | apply zE | refine zS ?_ (IsS89.ge HI0.out) | refine zS ?_ an.out | refine zS ?_ av.out) | exact HB.out)) HL.out hb); have aH := zK (KeepBut.trans (by repeat (first | (with_reducible first | exact HK.out | apply KeepBut.set_ | apply keep_drewN | apply keep_drew | apply keep_alloc | refine keep_far ?_ ak.out _ | refine keep_far ?_ am.out _) | exact HK.out)) (KeepBut.of_grown hg g) (Kd.S_base2 aa.out)); have aI := zK (ho); clear ac; clear ab; clear HI0; clear HB; clear HK; clear aa; clear ay; have ac := aA; have ab := aB; have HI0 := aC; have HB := aD; have HK := aH; have be := aI; clear aA aB aC aD aH aI; clear ho hb hg hat; obtain ⟨bC, bD, eo32⟩ := Kd.S_slice be.out; subst eo32; have hcz33_0 : w30.cell? ⟨ag, 0, none⟩ = some (.int .i64 (wrap64 (1 + aj))) := (blk_cell ab.out 0).trans rfl; have hcz33_1 : w30.cell? ⟨ag, 1, none⟩ = some (u557001) := (blk_cell ab.out 1).trans rfl; have hfz33_0 := blk_frozen ab.out 0; have hfz33_1 := blk_frozen ab.out 1))
        go_roundg k2
        case measure => have := HK1.out; have := HK2.out; omega
        case rel => exact ⟨(az), (wrap64 (aE - 1)), (ap), (aq), (bc), (.slice bC bc.length bD), (by first | rfl | (simp; done) | (simp [*]; done)), (by first | rfl | (simp; done) | (simp [*]; done)), H', ⟨by have := HK1.out; have := HK2.out; omega⟩, ⟨by (with_reducible repeat (first | apply Kd.S_alloc | apply Kd.S_drewN | apply Kd.S_drew)); exact Kd.S_mono (Kd.S_far (p := ⟨ag, 1, none⟩) (Kd.S_types be.out ab.out (by decide)) (fun _ hk => hk.2) (.slice bC bc.length bD)) (fun _ hk => trivial)⟩, ⟨by (with_reducible repeat (first | refine zN ?_ _ | refine zD ?_ | refine zA ?_ _)); refine blk_far ?_ al.out _; (with_reducible repeat (first | refine zN ?_ _ | refine zD ?_ | refine zA ?_ _)); exact ac.out⟩, ⟨by (with_reducible repeat (first | refine zN ?_ _ | refine zD ?_ | refine zA ?_ _)); refine blk_put (cs := #[.int .i64 (wrap64 (1 + aj)), u557001]) ?_ 1 _ rfl; (with_reducible repeat (first | refine zN ?_ _ | refine zD ?_ | refine zA ?_ _)); exact ab.out⟩, ⟨by repeat (first | (with_reducible first | exact HI0.out | apply IsS89.alloc | apply IsS89.drewN | apply IsS89.drew | apply IsS89.set_1 | apply IsS89.set_2 | refine IsS89.far ?_ ad.out _ | refine IsS89.far ?_ ae.out _) | exact HI0.out)⟩, ⟨by repeat (first | (with_reducible first | exact HK.out | apply KeepBut.set_ | apply keep_drewN | apply keep_drew | apply keep_alloc | refine keep_far ?_ ak.out _ | refine keep_far ?_ am.out _) | exact HK.out)⟩, ⟨by repeat (first | (with_reducible first | exact HB.out | apply zB | apply zC | apply zE | refine zS ?_ (IsS89.ge HI0.out) | refine zS ?_ an.out | refine zS ?_ av.out) | exact HB.out)⟩⟩
       ·rw [if_neg c26] at H
        exact absurd H (by simp)
   ·rw [if_neg bi] at H
    have bd : decide (0 < aE) = false := decide_eq_false bi
    clear bi
    simp only [Option.some.injEq, Prod.mk.injEq] at H
    obtain ⟨rfl, rfl, rfl, rfl⟩ := H
    have hnb34 := ax.out; have hnc34 := al.out; have hnb35 := ao.out; have hnc35 := ae.out
    have hcz36_0 : wr.cell? ⟨ag, 0, none⟩ = some (.int .i64 (wrap64 (1 + aj))) := (blk_cell ab.out 0).trans rfl
    have hcz36_1 : wr.cell? ⟨ag, 1, none⟩ = some (u557001) := (blk_cell ab.out 1).trans rfl
    have hfz36_0 := blk_frozen ab.out 0; have hfz36_1 := blk_frozen ab.out 1; have hnb37 := aw.out; have hnc37 := ad.out
    have hcz38_0 : wr.cell? ⟨ah, 0, none⟩ = some (.int .i64 0) := (blk_cell ac.out 0).trans rfl
    have hcz38_1 : wr.cell? ⟨ah, 1, none⟩ = some (.slice none 0 0) := (blk_cell ac.out 1).trans rfl
    have hfz38_0 := blk_frozen ac.out 0; have hfz38_1 := blk_frozen ac.out 1
    obtain ⟨bE, bF, eo39⟩ := Kd.S_slice aa.out
    subst eo39
    go_wp2
    refine bodyPost_ret (results_cell_row rfl _ _ ah 24 #[.int .i64 (wrap64 (1 + aj)), .slice bE af.length bF] (0, 0) _ rfl (by (with_reducible repeat (first | refine zN ?_ _ | refine zD ?_ | refine zA ?_ _)); refine blk_put (cs := #[.int .i64 (wrap64 (1 + aj)), .slice none 0 0]) ?_ 1 _ rfl; (with_reducible repeat (first | refine zN ?_ _ | refine zD ?_ | refine zA ?_ _)); refine blk_put (cs := #[.int .i64 0, .slice none 0 0]) ?_ 0 _ rfl; (with_reducible repeat (first | refine zN ?_ _ | refine zD ?_ | refine zA ?_ _)); exact ac.out) Try.underlying24 rfl (by kernel_rfl)) rfl ?_
    exact ⟨_, by first | rfl | (simp [errW_none, errW_some] <;> rfl) | (simp [*, errW_none, errW_some] <;> rfl), by (with_reducible repeat (first | apply Kd.S_alloc | apply Kd.S_drewN | apply Kd.S_drew)); exact Kd.S_mono (Kd.S_far (p := ⟨ah, 1, none⟩) (Kd.S_far (p := ⟨ah, 0, none⟩) (Kd.S_types aa.out ac.out (by decide)) (fun _ hk => hk.2) (.int .i64 (wrap64 (1 + aj)))) (fun _ hk => hk.2) (.slice bE af.length bF)) (fun _ hk => trivial), by repeat (first | (with_reducible first | exact HI0.out | apply IsS89.alloc | apply IsS89.drewN | apply IsS89.drew | apply IsS89.set_1 | apply IsS89.set_2 | refine IsS89.far ?_ ad.out _ | refine IsS89.far ?_ ae.out _) | exact HI0.out), by repeat (first | (with_reducible first | exact HB.out | apply zB | apply zC | apply zE | refine zS ?_ (IsS89.ge HI0.out) | refine zS ?_ an.out | refine zS ?_ av.out) | exact HB.out), by repeat (first | (with_reducible first | exact HK.out | apply KeepBut.set_ | apply keep_drewN | apply keep_drew | apply keep_alloc | refine keep_far ?_ ak.out _ | refine keep_far ?_ am.out _) | exact HK.out)⟩
section
open Classical
theorem tag_two {α : Type} {d : Kd α} {e base : Nat} {okv okp okq : Nat → Prop} {w : World} {v : Value} {xs : List α} (h : Kd.S d e w base okv v xs) (hap : ∀ k, okp k → ¬ okv k) (haq : ∀ k, okq k → ¬ okv k) (hpq : ∀ k, okp k → ¬ okq k) :
  ∃ f, (∀ k, okp k → f k = xs.length) ∧ (∀ k, okq k → f k = xs.length + 1) ∧ (Kd.tag f d).R e w base okv v xs.zipIdx := by
 obtain ⟨f, h⟩ := h
 exact ⟨fun k => if okp k then xs.length else if okq k then xs.length + 1 else f k, fun k hk => if_pos hk, fun k hk => (if_neg (fun h2 => hpq k h2 hk)).trans (if_pos hk), Kd.R_tag h (fun k hk _ => (if_neg (fun h2 => hap k h2 hk)).trans (if_neg (fun h2 => haq k h2 hk)))⟩
theorem S_append2 {P : Program} {ops : Array Oper} {rest : List Oper} {o : Oper} {a : Act} {Q : Exit → Act → World → Prop} {α : Type} (d : Kd α) {w0 W : World} (base : Nat) (hgd : o.guard = none) (s x : Operand) (t e : TypeId) (z : Value) (bytes : Nat)
  (ho : o.op = .call { callee := .builtin .append, args := #[s, x], argTypes := #[t, t] })
  (ht : P.underlying t = some (.slice e)) (hinfo : (P.info? e).map (fun i => (i.zero, i.size, i.bytes)) = some (some z, d.sz, bytes)) (hz : z.cells.size = d.sz) (hs0 : 0 < d.sz) (hb0 : 0 < bytes)
  (v : Value) (xs : List α) (p q : α) (cp cq : List Value) (ok okg : Nat → Prop) (hs : a.eval s = v) (hx : a.eval x = .slice (some ⟨W.heap.size, 0, none⟩) 2 2)
  (hp : ∃ okp okq : Nat → Prop, d.M W base okp p cp ∧ d.M W base okq q cq ∧ (∀ k, okp k → okg k) ∧ (∀ k, okq k → okg k) ∧ ∀ k, okp k → ¬ okq k) (hokg : ∀ k, okg k → ok k ∧ some k ≠ v.ownBlock) (hfresh : ∀ k, W.heap.size ≤ k → ok k)
  (HO : Kd.S d e W base (fun k => ok k ∧ ¬ okg k) v xs) (HB : Below base w0 W) (hbase : base ≤ W.heap.size) (hl : (xs.length + 2) * bytes ≤ 140737488355328)
  (h : ∀ v1 w1, Kd.S d e w1 base ok v1 (xs ++ [p, q]) → Below base w0 w1 → W.grownBy w1 v.ownBlock → (v1.ownBlock = v.ownBlock ∨ ∃ b, v1.ownBlock = some b ∧ W.heap.size ≤ b) → wpList P ops Q rest (a.put o.dst v1) w1) :
  wpList P ops Q (o :: rest) a (W.alloc (.cells (cp ++ cq).toArray e)) := by
 obtain ⟨okp, okq, hp, hq, hpg, hqg, hpq⟩ := hp
 obtain ⟨f, hfp, hfq, hR⟩ := tag_two HO (okp := okp) (okq := okq) (fun k hk h2 => h2.2 (hpg k hk)) (fun k hk h2 => h2.2 (hqg k hk)) hpq
 have hcp : cp.length = d.sz := d.K_len (d.K_of_M hp)
 have hcq : cq.length = d.sz := d.K_len (d.K_of_M hq)
 have hb1 : Below W.heap.size W (W.alloc (.cells (cp ++ cq).toArray e)) := zB (Below.refl _ _) _
 have up : ∀ {y : α} {c : List Value} {oy : Nat → Prop}, d.M W base oy y c → d.M (W.alloc (.cells (cp ++ cq).toArray e)) base oy y c := fun {y c oy} hy => d.M_mono (fun k hk => hk.1) (d.M_move (w1 := W.alloc (.cells (cp ++ cq).toArray e)) (fun k hk => hb1.block k hk.2.2.1) (d.M_bound hy))
 have hrow : ReadsRow ((Kd.tag f d).M (W.alloc (.cells (cp ++ cq).toArray e)) base okg) (Kd.tag f d).sz (W.alloc (.cells (cp ++ cq).toArray e)) (some ⟨W.heap.size, 0, none⟩) 2 [(p, xs.length), (q, xs.length + 1)] := by
  refine ⟨rfl, by decide, fun _ => ⟨_, rfl, ?_⟩⟩
  intro j pj hj
  have hcell : ∀ i u, (cp ++ cq)[i]? = some u → (W.alloc (.cells (cp ++ cq).toArray e)).cell? ⟨W.heap.size, i, none⟩ = some u := fun i u hu => by
   rw [blk_cell (g := W.heap.size) (cs := (cp ++ cq).toArray) (t := e) (by show (W.heap.push _)[W.heap.size]? = _; exact Array.getElem?_push_size) i]
   simpa using hu
  match j, hj with
  | 0, hj =>
   obtain rfl : (p, xs.length) = pj := by simpa using hj
   refine ⟨cp, hcp, (Kd.tag f d).M_mono (fun k hk => hpg k hk) (d.M_mono (fun k hk => ⟨hk, hfp k hk⟩) (up hp)), fun i u hu => ?_⟩
   rw [add_plain]
   refine hcell _ u ?_
   rw [Nat.zero_mul, Nat.zero_add, List.getElem?_append_left (List.getElem?_eq_some_iff.1 hu).1]
   exact hu
  | 1, hj =>
   obtain rfl : (q, xs.length + 1) = pj := by simpa using hj
   refine ⟨cq, hcq, (Kd.tag f d).M_mono (fun k hk => hqg k hk) (d.M_mono (fun k hk => ⟨hk, hfq k hk⟩) (up hq)), fun i u hu => ?_⟩
   rw [add_plain]
   refine hcell _ u ?_
   rw [Nat.one_mul, show (Kd.tag f d).sz = cp.length from hcp.symm, List.getElem?_append_right (by omega), Nat.add_sub_cancel_left]
   exact hu
  | n + 2, hj => simp at hj
 have hRa : (Kd.tag f d).R e (W.alloc (.cells (cp ++ cq).toArray e)) base ok v xs.zipIdx := Kd.R_alloc (Kd.R_mono hR (fun _ hk => hk.1)) _
 refine Kd.R_append_rows (Kd.tag f d) (w0 := w0) base hgd s x t e z bytes ho ht hinfo hz hs0 hb0 v xs.zipIdx _ _ _ _ ok okg hs hx hRa hrow (fun _ _ h => h) hokg (fun k hk => hfresh k (Nat.le_trans hb1.size hk)) (HB.alloc hbase _) (Nat.le_trans hbase hb1.size) (by rw [List.length_zipIdx]; exact hl) ?_
 intro v1 w1 hr hbl hg hat
 have e2 : (xs ++ [p, q]).zipIdx = xs.zipIdx ++ [(p, xs.length), (q, xs.length + 1)] := by rw [List.zipIdx_append]; simp
 refine h v1 w1 ⟨f, by rw [e2]; exact hr⟩ hbl ?_ ?_
 ·exact ⟨hg.os, hg.tape, hg.output, Nat.le_trans hb1.size hg.size, fun k hk hne => (hg.block k (Nat.lt_of_lt_of_le hk hb1.size) hne).trans (hb1.block k hk)⟩
 ·rcases hat with hat | ⟨b, hb, hle⟩
  ·exact .inl hat
  ·exact .inr ⟨b, hb, Nat.le_trans hb1.size hle⟩
end
end Go.Proofs.Ytheckjlldkkceaa.Px
