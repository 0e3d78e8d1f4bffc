import Derived.Test.YtmjhbdmicejppaaZsPx0
import Derived.Test.YtmjhbdmicejppaaZsPx1
import Derived.Test.YtmjhbdmicejppaaZsPx3
import Derived.Test.YtmjhbdmicejppaaZsPx4
import Derived.Test.YtmjhbdmicejppaaZsPx6
import Derived.Test.YtmjhbdmicejppaaZsPx7
namespace Go.Proofs.Ytmjhbdmicejppaa.Px
open Go.RowKit Go.Proofs.YtmjhbdmicejppaaW.PrintWords Go.Proofs.YtmjhbdmicejppaaW.PrintLast Go.Proofs.YtmjhbdmicejppaaW.PrintMore
attribute [local go_sem] max2_int min2_int max_two min_two max_three min_three max_four min_four   
set_option linter.unusedVariables false
set_option linter.unusedSimpArgs false
def spec_l01PickInt.f (s0_0 : List Int) (s0_1 : Int) (s0_2 : Int) (a : List Int) : Option (Int × Int × Int) := (spec_l01Below.f s0_0 s0_1 s0_2 (a.length : Int)).bind fun b => (if 0 ≤ b.1 then (if b.1 < (a.length : Int) then (some (rd a b.1, b.2.1, b.2.2)) else (none)) else (none))
theorem zc9 {p q : Prop} (h : Aside0 p) (s : p → q := by intro h_; repeat (first | (with_reducible first | exact h_ | apply KeepBut.set_ | apply keep_drewN | apply keep_drew | apply keep_alloc | refine keep_far ?_ (Aside0.out (by assumption)) _) | exact h_)) : q := s h.out
theorem zi9 {p q : Prop} (h : Aside0 p) (s : p → q := by intro h_; repeat (first | (with_reducible first | exact h_ | apply IsS90.alloc | apply IsS90.drewN | apply IsS90.drew | apply IsS90.set_1 | apply IsS90.set_2 | refine IsS90.far ?_ (Aside0.out (by assumption)) _) | exact h_)) : q := s h.out
theorem zj9 {p q : Prop} (h : Aside0 p) (s : p → q := by intro h_; repeat (first | (with_reducible first | exact h_ | apply zB | apply zC | apply zE | refine zS ?_ (Aside0.out (by assumption)) | refine zS ?_ (IsS90.ge (Aside0.out (by assumption)))) | exact h_)) : q := s h.out
set_option maxHeartbeats 8000000 in
set_option maxRecDepth 100000 in
theorem spec_l01PickInt.calls (g : Nat) (ac : List Int) (ae : Int) (af : Int) (A1 : Option Addr) (c1 : Nat) (l1 : List Int) (r1 : Int) (r2 : Int) (r3 : Int) (w0 w : World) (hI : IsS90 w0 w g ac ae af) (hB : Below w0.heap.size w0 w) (hr1 : Kd.C (Kd.int .i64) w A1 l1.length l1) (hc1 : l1.length ≤ c1) (hf1 : ∀ ad, A1 = some ad → 0 < l1.length → ad.block ≠ g) (h : spec_l01PickInt.f ac ae af l1 = some (r1, r2, r3)) :
  Calls Try.prog 86 #[.pointer (some ⟨g, 0, none⟩), .slice A1 l1.length c1] w fun e w' => e = .returned (.int .i64 r1) ∧ IsS90 w0 w' g ac r2 r3 ∧ Below w0.heap.size w0 w' ∧ KeepBut w w' g none := by
 have HR1 := zK hr1; have HC1 := zK hc1; clear hr1 hc1; have HI0 := zK hI
 have HK := zK (KeepBut.refl w g none)
 have HL := zK hB.size; clear hI; have HW0 := zK hB.size; have HB := zK hB; clear hB
 have H := h; unfold spec_l01PickInt.f at H
 clear h; replace H := Option.bind_eq_some_iff.mp H
 obtain ⟨⟨aa, ai, aj⟩, A30, H⟩ := H
 (try dsimp only at H)
 have A3 := zK A30; clear A30
 by_cases c4 : 0 ≤ aa
 ·rw [if_pos c4] at H
  have c4b0 : decide (0 ≤ aa) = true := decide_eq_true c4
  clear c4
  by_cases c5 : aa < (l1.length : Int)
  ·rw [if_pos c5] at H
   have c5b0 : decide (aa < (l1.length : Int)) = true := decide_eq_true c5
   clear c5
   simp only [Option.some.injEq, Prod.mk.injEq] at H
   obtain ⟨rfl, rfl, rfl⟩ := H
   go_enter Try.func86, Try.ntmps86
   go_wp2_with ((with_reducible refine gate_callee (f := 89) rfl ?_); refine goesL_ (some 9) rfl rfl Try.func89 (by kernel_rfl) rfl #[.pointer (some ⟨g, 0, none⟩), .int .i64 (l1.length : Int)] rfl zg ?_; (with_reducible refine (spec_l01Below.calls g ac ae af (l1.length : Int) aa ai aj w0 _ ?side1 ?side2 A3.out).mono ?_); (case side1 => exact zi9 HI0); (case side2 => exact zj9 HB); rintro e w6 ⟨rfl, hi, hb, hk⟩; refine ⟨_, rfl, ?_⟩; replace HK := zK (KeepBut.trans (by repeat (first | (with_reducible first | exact HK.out | apply KeepBut.set_ | apply keep_drewN | apply keep_drew | apply keep_alloc) | exact HK.out)) hk (.inl rfl)); replace HB := zK (hb); replace HI0 := zK (hi); (try clear hb); (try clear hk); (try clear hi); have ag : 0 ≤ (aa : Int) := zd; have ah : aa < (l1.length : Int) := zd; obtain ⟨ak, e340, ab⟩ := Kd.at_int HR1.out aa ag ah; cases e340; replace ab := keep_cell HK.out ab (by first | (rw [add_block]; exact hf1 _ rfl (by omega)) | exact hf1 _ rfl (by omega) | exact hf1 ak rfl (by omega)); replace ag := eq_true ag; replace ah := eq_true ah)
   go_ret
   exact ⟨ze, zi9 HI0, zj9 HB, zc9 HK⟩
  ·rw [if_neg c5] at H
   exact absurd H (by simp)
 ·rw [if_neg c4] at H
  exact absurd H (by simp)
def spec_l05Any.f (k : Nat) (s0_0 : List Int) (s0_1 : Int) (s0_2 : Int) : Option (List Int × Int × (List (S69)) × (List (S74)) × Int × Int) := (spec_l05Loop.f k s0_0 s0_1 s0_2).bind fun a => ((spec_l01Below.f s0_0 a.2.2.2.2.1 a.2.2.2.2.2 20).bind fun b => (if b.1 = 0 then ((spec_l01PickInt.f s0_0 b.2.1 b.2.2 (([(-1), (a.1.length : Int), 0] : List Int))).bind fun c => (some (a.1, c.1, a.2.2.1, a.2.2.2.1, c.2.1, c.2.2))) else (if b.1 = 1 then ((spec_l01PickInt.f s0_0 b.2.1 b.2.2 (([(-1), 101, 3] : List Int))).bind fun d => (if 0 < (a.1.length : Int) then (some ((a.1.set (0 : Int).toNat d.1), a.2.1, a.2.2.1, a.2.2.2.1, d.2.1, d.2.2)) else (none))) else (if b.1 = 2 then (if (a.2.2.1.length : Int) > 0 then ((spec_l01PickInt.f s0_0 b.2.1 b.2.2 (([0, 40, 41] : List Int))).bind fun e => (if 0 < (a.2.2.1.length : Int) then (some (a.1, a.2.1, (a.2.2.1.set (0 : Int).toNat (⟨(rd_T69 a.2.2.1 0).f0, e.1, (rd_T69 a.2.2.1 0).f2⟩ : S69)), a.2.2.2.1, e.2.1, e.2.2)) else (none))) else (some (a.1, a.2.1, a.2.2.1, a.2.2.2.1, b.2.1, b.2.2))) else (if b.1 = 3 then (if (a.2.2.1.length : Int) > 1 then (if 0 < (a.2.2.1.length : Int) then (if 1 < (a.2.2.1.length : Int) then (some (a.1, a.2.1, (a.2.2.1.set (1 : Int).toNat (⟨(rd_T69 a.2.2.1 0).f0, (rd_T69 a.2.2.1 1).f1, (rd_T69 a.2.2.1 1).f2⟩ : S69)), a.2.2.2.1, b.2.1, b.2.2)) else (none)) else (none)) else (some (a.1, a.2.1, a.2.2.1, a.2.2.2.1, b.2.1, b.2.2))) else (if b.1 = 4 then (if (a.2.2.2.1.length : Int) > 1 then (if 0 < (a.2.2.2.1.length : Int) then (if 1 < (a.2.2.2.1.length : Int) then (some (a.1, a.2.1, a.2.2.1, (a.2.2.2.1.set (1 : Int).toNat (⟨(rd_T74 a.2.2.2.1 0).f0, (rd_T74 a.2.2.2.1 1).f1⟩ : S74)), b.2.1, b.2.2)) else (none)) else (none)) else (some (a.1, a.2.1, a.2.2.1, a.2.2.2.1, b.2.1, b.2.2))) else (if b.1 = 5 then (if (a.2.2.2.1.length : Int) > 0 then ((spec_l01Below.f s0_0 b.2.1 b.2.2 4).bind fun f => (if 0 < (a.2.2.2.1.length : Int) then (some (a.1, a.2.1, a.2.2.1, (a.2.2.2.1.set (0 : Int).toNat (⟨(rd_T74 a.2.2.2.1 0).f0, (([f.1] : List Int))⟩ : S74)), f.2.1, f.2.2)) else (none))) else (some (a.1, a.2.1, a.2.2.1, a.2.2.2.1, b.2.1, b.2.2))) else (if b.1 = 6 then ((spec_l01PickInt.f s0_0 b.2.1 b.2.2 (([0, 1, 60, 61] : List Int))).bind fun g => (if 0 ≤ g.1 then (if (g.1 : Int).toNat ≤ 35184372088832 then (some ((List.replicate (g.1 : Int).toNat 0), 0, ([] : List (S69)), ([] : List (S74)), g.2.1, g.2.2)) else (none)) else (none))) else (some (a.1, a.2.1, a.2.2.1, a.2.2.2.1, b.2.1, b.2.2))))))))))
class Sty (g : outParam Nat) (P : World → Prop) : Prop where
 st : ∀ {w w1 : World}, P w → w.heap.size ≤ w1.heap.size → (∀ k, k ≠ g → k < w.heap.size → w1.heap[k]? = w.heap[k]?) → P w1
section
variable {α : Type} {d : Kd α} {e N N2 g g1 : Nat} {w w1 w2 : World} {P Q : World → Prop} {v : Value} {xs : List α} {ok : Nat → Prop} {cs : Array Value}
theorem Sty.bel [Sty g P] (h : P w) (hb : Below w.heap.size w w1) : P w1 := Sty.st (g := g) h hb.size (fun k _ hk => hb.block k hk)
theorem Sty.keep [Sty g P] (h : P w) (hk : KeepBut w w1 g none) : P w1 := Sty.st (g := g) h hk.1 (fun k h1 h2 => hk.2 k h2 h1 (by simp))
def Bx (g g1 : Nat) (c0 c1 c2 c3 : Value) (w : World) : Prop := w.heap[g1]? = some (.cells #[c0, c1, c2, c3] 28 (0, 0)) ∧ g1 ≠ g
instance {c0 c1 c2 c3 : Value} : Sty g (Bx g g1 c0 c1 c2 c3) := ⟨fun h _ hm => ⟨(hm g1 h.2 (blk_lt h.1)).trans h.1, h.2⟩⟩
instance : Sty g (fun w => d.R e w N (fun k => k ≠ g) v xs) := ⟨fun h _ hm => Kd.R_step h hm⟩
instance : Sty g (fun w => Kd.S d e w N (fun k => k ≠ g) v xs) := ⟨fun h _ hm => Kd.S_step h hm⟩
instance : Sty g (fun w => Kd.S d e w N (fun k => ok k ∧ k ≠ g) v xs) := ⟨fun h _ hm => Kd.S_step h (fun k hk => hm k hk.2)⟩
end
def Crs (w0 w1 : World) (g : Nat) (b : List Int) (i h : Int) (w : World) : Prop := IsS90 w0 w g b i h ∧ Below w0.heap.size w0 w ∧ KeepBut w1 w g none
def Tri (N : Nat) (g : Nat) (v0 : Value) (tr : List Int) (v2 : Value) (ch : List S69) (v3 : Value) (wa : List S74) (w : World) : Prop :=
 Kd.R (Kd.int .i64) 3 w N (fun k => k ≠ g) v0 tr ∧ Kd.S k69 69 w N (fun k => some k ≠ v0.ownBlock ∧ k ≠ g) v2 ch ∧ Kd.S k74 74 w N (fun k => some k ≠ v0.ownBlock ∧ k ≠ g) v3 wa
def Tre (N : Nat) (g : Nat) (v0 : Value) (tr : List Int) (v2 : Value) (ch : List S69) (v3 : Value) (wa : List S74) (w : World) : Prop :=
 Kd.R (Kd.int .i64) 3 w N (fun k => k ≠ g) v0 tr ∧ Kd.S k69 69 w N (fun k => k ≠ g) v2 ch ∧ Kd.R k74 74 w N (fun k => k ≠ g) v3 wa
section
variable {N N2 g g1 gr gl gC gW c n : Nat} {b : List Int} {i h i2 h2 T : Int} {w0 w1 w w2 : World} {v v0 v2 v3 c0 c1 c2 c3 u0 u1 u2 u3 : Value} {tr l : List Int} {ch : List S69} {wa : List S74} {ok0 ok2 ok3 : Nat → Prop}
instance : Sty g (Tri N g v0 tr v2 ch v3 wa) := ⟨fun h hs hm => ⟨Kd.R_step h.1 hm, Kd.S_step h.2.1 (fun k hk => hm k hk.2), Kd.S_step h.2.2 (fun k hk => hm k hk.2)⟩⟩
instance : Sty g (Tre N g v0 tr v2 ch v3 wa) := ⟨fun h hs hm => ⟨Kd.R_step h.1 hm, Kd.S_step h.2.1 hm, Kd.R_step h.2.2 hm⟩⟩
theorem Crs.is (q : Crs w0 w1 g b i h w) : IsS90 w0 w g b i h := q.1
theorem Crs.be (q : Crs w0 w1 g b i h w) : Below w0.heap.size w0 w := q.2.1
theorem Crs.bel (q : Crs w0 w1 g b i h w) (hb : Below w.heap.size w w2) : Crs w0 w1 g b i h w2 := ⟨q.1.below hb, below_step q.2.1 hb, q.2.2.trans (KeepBut.of_below hb g none) (.inl rfl)⟩
theorem Crs.cur (q : Crs w0 w1 g b i h w) (hi : IsS90 w0 w2 g b i2 h2) (hb : Below w0.heap.size w0 w2) (hk : KeepBut w w2 g none) : Crs w0 w1 g b i2 h2 w2 := ⟨hi, hb, q.2.2.trans hk (.inl rfl)⟩
theorem Crs.far (q : Crs w0 w1 g b i h w) {p : Addr} (h0 : w0.heap.size ≤ p.block) (h1 : w1.heap.size ≤ p.block) (hn : p.block ≠ g) (u : Value) : Crs w0 w1 g b i h (w.setCell p u) := ⟨q.1.far (Ne.symm hn) u, q.2.1.setCell h0 u, keep_far q.2.2 h1 u⟩
theorem Crs.far4 (q : Crs w0 w1 g b i h w) (h0 : w0.heap.size ≤ gl) (h1 : w1.heap.size ≤ gl) (hn : gl ≠ g) (u0 u1 u2 u3 : Value) : Crs w0 w1 g b i h ((((w.setCell ⟨gl, 0, none⟩ u0).setCell ⟨gl, 1, none⟩ u1).setCell ⟨gl, 2, none⟩ u2).setCell ⟨gl, 3, none⟩ u3) :=
 (((q.far (p := ⟨gl, 0, none⟩) h0 h1 hn u0).far (p := ⟨gl, 1, none⟩) h0 h1 hn u1).far (p := ⟨gl, 2, none⟩) h0 h1 hn u2).far (p := ⟨gl, 3, none⟩) h0 h1 hn u3
theorem Bx.set (q : Bx g g1 c0 c1 c2 c3 w) (hn : g1 ≠ gl) (j : Nat) (u : Value) : Bx g g1 c0 c1 c2 c3 (w.setCell ⟨gl, j, none⟩ u) := ⟨(Below.heap_setCell _ ⟨gl, j, none⟩ u g1 hn).trans q.1, q.2⟩
theorem Bx.put4 (q : Bx g g1 c0 c1 c2 c3 w) (u0 u1 u2 u3 : Value) : Bx g g1 u0 u1 u2 u3 ((((w.setCell ⟨g1, 0, none⟩ u0).setCell ⟨g1, 1, none⟩ u1).setCell ⟨g1, 2, none⟩ u2).setCell ⟨g1, 3, none⟩ u3) := ⟨blk_put4 q.1 u0 u1 u2 u3, q.2⟩
theorem Bx.far4 (q : Bx g g1 c0 c1 c2 c3 w) (hn : g1 ≠ gl) (u0 u1 u2 u3 : Value) : Bx g g1 c0 c1 c2 c3 ((((w.setCell ⟨gl, 0, none⟩ u0).setCell ⟨gl, 1, none⟩ u1).setCell ⟨gl, 2, none⟩ u2).setCell ⟨gl, 3, none⟩ u3) := ⟨blk_far4 q.1 hn u0 u1 u2 u3, q.2⟩
theorem Tri.of (h0 : Kd.R (Kd.int .i64) 3 w N2 (fun _ => True) v0 tr) (h2 : Kd.S k69 69 w N2 (fun k => some k ≠ v0.ownBlock) v2 ch) (h3 : Kd.S k74 74 w N2 (fun k => some k ≠ v0.ownBlock) v3 wa) (hg : g < N2) (hN : N ≤ N2) : Tri N g v0 tr v2 ch v3 wa w :=
 ⟨Kd.R_lower (Kd.R_mono (Kd.R_bound h0) (fun k hk e => by have := hk.2.1; omega)) hN, Kd.S_lower (Kd.S_mono (Kd.S_bound h2) (fun k hk => ⟨hk.1, fun e => by have := hk.2.1; omega⟩)) hN, Kd.S_lower (Kd.S_mono (Kd.S_bound h3) (fun k hk => ⟨hk.1, fun e => by have := hk.2.1; omega⟩)) hN⟩
theorem Tre.of (h : Tre N2 g1 v0 tr v2 ch v3 wa w) (hg : g < N2) (hN : N ≤ N2) : Tre N g v0 tr v2 ch v3 wa w :=
 ⟨Kd.R_lower (Kd.R_mono (Kd.R_bound h.1) (fun k hk e => by have := hk.2.1; omega)) hN, Kd.S_lower (Kd.S_mono (Kd.S_bound h.2.1) (fun k hk e => by have := hk.2.1; omega)) hN, Kd.R_lower (Kd.R_mono (Kd.R_bound h.2.2) (fun k hk e => by have := hk.2.1; omega)) hN⟩
theorem Tri.e (h : Tri N g v0 tr v2 ch v3 wa w) : Tre N g v0 tr v2 ch v3 wa w := ⟨h.1, Kd.S_mono h.2.1 (fun _ hk => hk.2), Kd.R_mono (Kd.S_R h.2.2) (fun _ hk => hk.2)⟩
theorem Tre.set (h : Tre N g v0 tr v2 ch v3 wa w) (hb : w.heap[gl]? = some (.cells #[c0, c1, c2, c3] 28 (0, 0))) (j : Nat) (u : Value) : Tre N g v0 tr v2 ch v3 wa (w.setCell ⟨gl, j, none⟩ u) :=
 ⟨Kd.R_set h.1 hb (by decide) j u, Kd.S_set h.2.1 hb (by decide) j u, Kd.R_set h.2.2 hb (by decide) j u⟩
theorem Tre.put4 (h : Tre N g v0 tr v2 ch v3 wa w) (hb : w.heap[gl]? = some (.cells #[c0, c1, c2, c3] 28 (0, 0))) (u0 u1 u2 u3 : Value) : Tre N g v0 tr v2 ch v3 wa ((((w.setCell ⟨gl, 0, none⟩ u0).setCell ⟨gl, 1, none⟩ u1).setCell ⟨gl, 2, none⟩ u2).setCell ⟨gl, 3, none⟩ u3) :=
 (((h.set hb 0 u0).set (blk_put hb 0 u0 rfl) 1 u1).set (blk_put (blk_put hb 0 u0 rfl) 1 u1 rfl) 2 u2).set (blk_put (blk_put (blk_put hb 0 u0 rfl) 1 u1 rfl) 2 u2 rfl) 3 u3
theorem Tri.set (h : Tri N g v0 tr v2 ch v3 wa w) (hb : w.heap[gl]? = some (.cells #[c0, c1, c2, c3] 28 (0, 0))) (j : Nat) (u : Value) : Tri N g v0 tr v2 ch v3 wa (w.setCell ⟨gl, j, none⟩ u) :=
 ⟨Kd.R_set h.1 hb (by decide) j u, Kd.S_set h.2.1 hb (by decide) j u, Kd.S_set h.2.2 hb (by decide) j u⟩
theorem Tri.put4 (h : Tri N g v0 tr v2 ch v3 wa w) (hb : w.heap[gl]? = some (.cells #[c0, c1, c2, c3] 28 (0, 0))) (u0 u1 u2 u3 : Value) : Tri N g v0 tr v2 ch v3 wa ((((w.setCell ⟨gl, 0, none⟩ u0).setCell ⟨gl, 1, none⟩ u1).setCell ⟨gl, 2, none⟩ u2).setCell ⟨gl, 3, none⟩ u3) :=
 (((h.set hb 0 u0).set (blk_put hb 0 u0 rfl) 1 u1).set (blk_put (blk_put hb 0 u0 rfl) 1 u1 rfl) 2 u2).set (blk_put (blk_put (blk_put hb 0 u0 rfl) 1 u1 rfl) 2 u2 rfl) 3 u3
theorem Tre.reads (h : Tre N g v0 tr v2 ch v3 wa w) : ∃ A0 c0 A2 c2 A3 c3, v0 = .slice A0 tr.length c0 ∧ v2 = .slice A2 ch.length c2 ∧ v3 = .slice A3 wa.length c3 := by
 obtain ⟨A0, c0, e0⟩ := Kd.R_slice h.1
 obtain ⟨A2, c2, e2⟩ := Kd.S_slice h.2.1
 obtain ⟨A3, c3, e3⟩ := Kd.R_slice h.2.2
 exact ⟨A0, c0, A2, c2, A3, c3, e0, e2, e3⟩
theorem Tri.tray {A0 : Option Addr} (h : Tri N g (.slice A0 tr.length c) tr v2 ch v3 wa w) (h1 : 0 < (tr.length : Int)) (x : Int) :
 ∃ gT t, A0 = some ⟨gT, 0, none⟩ ∧ N ≤ gT ∧ gT ≠ g ∧ (∃ cs, w.heap[gT]? = some (.cells cs 3 (0, 0))) ∧ w.cell? ⟨gT, 0, none⟩ = some t ∧ w.frozen? ⟨gT, 0, none⟩ = false ∧ Tre N g (.slice A0 tr.length c) (tr.set 0 x) v2 ch v3 wa (w.setCell ⟨gT, 0, none⟩ (.int .i64 x)) := by
 obtain ⟨hR, hS, hW⟩ := h
 obtain ⟨gT, cap, e, hb, hlt, cells, hc⟩ := Kd.R_form hR (by omega)
 injection e with e1 e2 e3
 subst e1 e3
 obtain ⟨hc1, hf1⟩ := Kd.R_celln 0 hR 0 (by omega) h1
 have hgT : (Value.slice (some ⟨gT, 0, none⟩) tr.length c).ownBlock = some gT := by simp [Value.ownBlock]
 exact ⟨gT, _, rfl, hb, hR.1 gT hgT, ⟨cells, hc⟩, hc1, hf1, Kd.R_putn hR 0 x, Kd.S_mono (Kd.S_far (p := ⟨gT, 0, none⟩) hS (fun k hk e => hk.1 (by rw [e]; exact hgT.symm)) _) (fun k hk => hk.2), Kd.R_mono (Kd.S_R (Kd.S_far (p := ⟨gT, 0, none⟩) hW (fun k hk e => hk.1 (by rw [e]; exact hgT.symm)) _)) (fun k hk => hk.2)⟩
theorem Tri.chute {A2 : Option Addr} (h : Tri N g v0 tr (.slice A2 ch.length c) ch v3 wa w) (q : Nat) (h1 : q < ch.length) :
 ∃ gC t0 t1 u, A2 = some ⟨gC, 0, none⟩ ∧ N ≤ gC ∧ gC ≠ g ∧ (∃ cs, w.heap[gC]? = some (.cells cs 69 (0, 0))) ∧ w.cell? ⟨gC, q * 3, none⟩ = some (.int .i64 t0) ∧ w.cell? ⟨gC, q * 3 + 1, none⟩ = some (.int .i64 t1) ∧ w.cell? ⟨gC, q * 3 + 2, none⟩ = some u ∧ t0 = (rd_T69 ch q).f0 ∧ w.frozen? ⟨gC, q * 3, none⟩ = false ∧ w.frozen? ⟨gC, q * 3 + 1, none⟩ = false ∧
 (∀ x, Tre N g v0 tr (.slice A2 ch.length c) (ch.set q ⟨x, (rd_T69 ch q).f1, (rd_T69 ch q).f2⟩) v3 wa (w.setCell ⟨gC, q * 3, none⟩ (.int .i64 x))) ∧ (∀ x, Tre N g v0 tr (.slice A2 ch.length c) (ch.set q ⟨(rd_T69 ch q).f0, x, (rd_T69 ch q).f2⟩) v3 wa (w.setCell ⟨gC, q * 3 + 1, none⟩ (.int .i64 x))) := by
 obtain ⟨hR, hS, hW⟩ := h
 obtain ⟨gC, cap, e, hb, hlt, cells, hc⟩ := Kd.S_form hS (by omega)
 injection e with e1 e2 e3
 subst e1 e3
 have ho := (Kd.S_R hS).1 gC (by simp [Value.ownBlock])
 obtain ⟨oki, cc, hcl, hM, hcc, hfr, hoki, hH⟩ := Kd.S_elem hS z69 (q : Int) (by omega) (by omega)
 have hM' := hM
 obtain ⟨u, rfl, hu⟩ := k69_openM hM
 rw [Int.toNat_natCast] at hcc hfr
 refine ⟨gC, _, _, u, rfl, hb, ho.2, ⟨cells, hc⟩, hcc 0 _ rfl, hcc 1 _ rfl, hcc 2 _ rfl, rfl, hfr 0, hfr 1, fun x => ?_, fun x => ?_⟩
 ·obtain ⟨hS6, _⟩ := Kd.S_seg0 (seg := [.int .i64 x]) (j := 0) (x' := (⟨x, (rd_T69 ch q).f1, (rd_T69 ch q).f2⟩ : S69)) hH (by omega) (by omega) (show 1 ≤ 3 from by decide) (k69_mkM _ _ _ (⟨x, (rd_T69 ch q).f1, (rd_T69 ch q).f2⟩ : S69) hu) (fun _ hk => hk)
  rw [Int.toNat_natCast] at hS6
  exact ⟨Kd.R_set hR hc (by decide) _ _, Kd.S_mono hS6 (fun k hk => hk.2), Kd.R_mono (Kd.S_R (Kd.S_set hW hc (by decide) _ _)) (fun k hk => hk.2)⟩
 ·obtain ⟨hS6, _⟩ := Kd.S_seg0 (seg := [.int .i64 x]) (j := 1) (x' := (⟨(rd_T69 ch q).f0, x, (rd_T69 ch q).f2⟩ : S69)) hH (by omega) (by omega) (show 1 + 1 ≤ 3 from by decide) (k69_mkM _ _ _ (⟨(rd_T69 ch q).f0, x, (rd_T69 ch q).f2⟩ : S69) hu) (fun _ hk => hk)
  rw [Int.toNat_natCast] at hS6
  exact ⟨Kd.R_set hR hc (by decide) _ _, Kd.S_mono hS6 (fun k hk => hk.2), Kd.R_mono (Kd.S_R (Kd.S_set hW hc (by decide) _ _)) (fun k hk => hk.2)⟩
theorem Tri.want {A3 : Option Addr} (h : Tri N g v0 tr v2 ch (.slice A3 wa.length c) wa w) (q : Nat) (h1 : q < wa.length) :
 ∃ gW t0 u, A3 = some ⟨gW, 0, none⟩ ∧ N ≤ gW ∧ gW ≠ g ∧ (∃ cs, w.heap[gW]? = some (.cells cs 74 (0, 0))) ∧ w.cell? ⟨gW, q * 2, none⟩ = some (.int .i64 t0) ∧ w.cell? ⟨gW, q * 2 + 1, none⟩ = some u ∧ t0 = (rd_T74 wa q).f0 ∧ w.frozen? ⟨gW, q * 2, none⟩ = false ∧ w.frozen? ⟨gW, q * 2 + 1, none⟩ = false ∧
 (∀ x, Tre N g v0 tr v2 ch (.slice A3 wa.length c) (wa.set q ⟨x, (rd_T74 wa q).f1⟩) (w.setCell ⟨gW, q * 2, none⟩ (.int .i64 x))) := by
 obtain ⟨hR, hS, hW⟩ := h
 obtain ⟨gW, cap, e, hb, hlt, cells, hc⟩ := Kd.S_form hW (by omega)
 injection e with e1 e2 e3
 subst e1 e3
 have ho := (Kd.S_R hW).1 gW (by simp [Value.ownBlock])
 obtain ⟨oki, cc, hcl, hM, hcc, hfr, hoki, hH⟩ := Kd.S_elem hW z74 (q : Int) (by omega) (by omega)
 obtain ⟨u, rfl, hu⟩ := k74_openM hM
 rw [Int.toNat_natCast] at hcc hfr
 refine ⟨gW, _, u, rfl, hb, ho.2, ⟨cells, hc⟩, hcc 0 _ rfl, hcc 1 _ rfl, rfl, hfr 0, hfr 1, fun x => ?_⟩
 obtain ⟨hS6, _⟩ := Kd.S_seg0 (seg := [.int .i64 x]) (j := 0) (x' := (⟨x, (rd_T74 wa q).f1⟩ : S74)) hH (by omega) (by omega) (show 1 ≤ 2 from by decide) (k74_mkM _ _ _ (⟨x, (rd_T74 wa q).f1⟩ : S74) hu) (fun _ hk => hk)
 rw [Int.toNat_natCast] at hS6
 exact ⟨Kd.R_set hR hc (by decide) _ _, Kd.S_mono (Kd.S_set hS hc (by decide) _ _) (fun k hk => hk.2), Kd.R_mono (Kd.S_R hS6) (fun k hk => hk.2)⟩
theorem Tri.wantRow {A : Option Addr} (h : Tri N g v0 tr v2 ch (.slice (some ⟨gW, 0, none⟩) wa.length c) wa w) (q : Nat) (h1 : q < wa.length) (hl : Kd.R (Kd.int .i64) 3 w2 w.heap.size (fun _ => True) (.slice A l.length n) l) (hb : Below w.heap.size w w2) (hN : N ≤ w.heap.size) (hg : g < w.heap.size) :
 Tre N g v0 tr v2 ch (.slice (some ⟨gW, 0, none⟩) wa.length c) (wa.set q ⟨(rd_T74 wa q).f0, l⟩) (w2.setCell ⟨gW, q * 2 + 1, none⟩ (.slice A l.length n)) := by
 obtain ⟨hR, hS, hW⟩ := h
 obtain ⟨_, cap, e, _, _, cells, hc⟩ := Kd.S_form hW (by omega)
 injection e with e1 e2 e3
 injection e1 with e1
 injection e1 with e1 _ _
 subst e1; have hc2 := blk_below hc hb
 have hW2 : Kd.S k74 74 w2 N (fun k => (k ≠ g) ∧ ¬ (w.heap.size ≤ k)) (.slice (some ⟨gW, 0, none⟩) wa.length c) wa := Kd.S_below (Kd.S_mono (Kd.S_bound hW) (fun k hk => ⟨hk.1.2, by have := hk.2.2.1; omega⟩)) hb
 have hl2 : Kd.R (Kd.int .i64) 3 w2 N (fun k => w.heap.size ≤ k) (.slice A l.length n) l := Kd.R_lower (Kd.R_mono (Kd.R_bound hl) (fun k hk => hk.2.1)) hN
 obtain ⟨oki, cc, hcl, hM, hcc, hfr, hoki, hH⟩ := Kd.S_elem hW2 z74 (q : Int) (by omega) (by omega)
 obtain ⟨u, rfl, hu⟩ := k74_openM hM
 have hgW : gW < w.heap.size := blk_lt hc
 have hS6 := Kd.S_seg (ok := fun k => k ≠ g) (okg := fun k => w.heap.size ≤ k) (okp := fun k => w.heap.size ≤ k) hH (by omega) (by omega) (seg := [.slice A l.length n]) (j := 1) (show 1 + 1 ≤ 2 from by decide) (x' := (⟨(rd_T74 wa q).f0, l⟩ : S74)) (k74_mkM _ _ _ (⟨(rd_T74 wa q).f0, l⟩ : S74) hl2) (fun k hk => .inr hk) (fun k hk => ⟨fun e => by omega, fun e => by omega⟩)
 rw [Int.toNat_natCast] at hS6
 exact ⟨Kd.R_set (Kd.R_below hR hb) hc2 (by decide) _ _, Kd.S_mono (Kd.S_set (Kd.S_below hS hb) hc2 (by decide) _ _) (fun k hk => hk.2), Kd.S_R hS6.1⟩
end
def Dst (n g gr gl B : Nat) (c0 c1 c2 c3 v0 : Value) (tr : List Int) (v2 : Value) (ch : List S69) (v3 : Value) (wa : List S74) (w : World) : Prop :=
 Bx g gr (.slice none 0 0) (.int .i64 0) (.slice none 0 0) (.slice none 0 0) w ∧ Bx g gl c0 c1 c2 c3 w ∧ (B ≤ w.heap.size ∧ n ≤ gr ∧ gr < B ∧ gl < B ∧ g < B) ∧ Kd.R (Kd.int .i64) 3 w n (fun k => k ≠ g ∧ k < B) v0 tr ∧ Kd.S k69 69 w n (fun k => k ≠ g ∧ k < B) v2 ch ∧ Kd.R k74 74 w n (fun k => k ≠ g ∧ k < B) v3 wa
section
variable {n g gr gl B : Nat} {w w1 w2 : World} {v0 v2 v3 v c0 c1 c2 c3 : Value} {tr : List Int} {ch : List S69} {wa : List S74} {b : List Int} {i h i2 h2 : Int}
theorem Dst.mk (hr : Bx g gr (.slice none 0 0) (.int .i64 0) (.slice none 0 0) (.slice none 0 0) w) (hl : Bx g gl c0 c1 c2 c3 w) (ht : Tre n g v0 tr v2 ch v3 wa w) (hn : n ≤ gr) (hg : g < w.heap.size) : Dst n g gr gl w.heap.size c0 c1 c2 c3 v0 tr v2 ch v3 wa w :=
 ⟨hr, hl, ⟨Nat.le_refl _, hn, blk_lt hr.1, blk_lt hl.1, hg⟩, Kd.R_mono (Kd.R_bound ht.1) (fun k hk => ⟨hk.1, hk.2.2.1⟩), Kd.S_mono (Kd.S_bound ht.2.1) (fun k hk => ⟨hk.1, hk.2.2.1⟩), Kd.R_mono (Kd.R_bound ht.2.2) (fun k hk => ⟨hk.1, hk.2.2.1⟩)⟩
theorem Dst.step (q : Dst n g gr gl B c0 c1 c2 c3 v0 tr v2 ch v3 wa w) (hs : w.heap.size ≤ w1.heap.size) (hm : ∀ k, k ≠ g → k < B → w1.heap[k]? = w.heap[k]?) : Dst n g gr gl B c0 c1 c2 c3 v0 tr v2 ch v3 wa w1 :=
 ⟨⟨(hm gr q.1.2 q.2.2.1.2.2.1).trans q.1.1, q.1.2⟩, ⟨(hm gl q.2.1.2 q.2.2.1.2.2.2.1).trans q.2.1.1, q.2.1.2⟩, ⟨Nat.le_trans q.2.2.1.1 hs, q.2.2.1.2⟩, Kd.R_step q.2.2.2.1 (fun k hk _ => hm k hk.1 hk.2), Kd.S_step q.2.2.2.2.1 (fun k hk _ => hm k hk.1 hk.2), Kd.R_step q.2.2.2.2.2 (fun k hk _ => hm k hk.1 hk.2)⟩
theorem Dst.bel (q : Dst n g gr gl B c0 c1 c2 c3 v0 tr v2 ch v3 wa w) (hb : Below w.heap.size w w1) : Dst n g gr gl B c0 c1 c2 c3 v0 tr v2 ch v3 wa w1 := q.step hb.size (fun k _ hk => hb.block k (Nat.lt_of_lt_of_le hk q.2.2.1.1))
theorem Dst.keep (q : Dst n g gr gl B c0 c1 c2 c3 v0 tr v2 ch v3 wa w) (hk : KeepBut w w1 g none) : Dst n g gr gl B c0 c1 c2 c3 v0 tr v2 ch v3 wa w1 := q.step hk.1 (fun k h1 h2 => hk.2 k (Nat.lt_of_lt_of_le h2 q.2.2.1.1) h1 (by simp))
theorem Dst.grown (q : Dst n g gr gl B c0 c1 c2 c3 v0 tr v2 ch v3 wa w) {o : Option Nat} (hg : w.grownBy w1 o) (ho : ∀ k, o = some k → B ≤ k) : Dst n g gr gl B c0 c1 c2 c3 v0 tr v2 ch v3 wa w1 := q.step hg.size (fun k _ hk => hg.block k (Nat.lt_of_lt_of_le hk q.2.2.1.1) (fun e => Nat.not_le.2 hk (ho k e.symm)))
theorem Dst.e (q : Dst n g gr gl B c0 c1 c2 c3 v0 tr v2 ch v3 wa w) : Tre n g v0 tr v2 ch v3 wa w := ⟨Kd.R_mono q.2.2.2.1 (fun _ hk => hk.1), Kd.S_mono q.2.2.2.2.1 (fun _ hk => hk.1), Kd.R_mono q.2.2.2.2.2 (fun _ hk => hk.1)⟩
theorem r_put4 {l : List Int} {N : Nat} {ok : Nat → Prop} {u0 u1 u2 u3 : Value} (hr : Kd.R (Kd.int .i64) 3 w N ok v l) (hb : w.heap[gl]? = some (.cells #[u0, u1, u2, u3] 28 (0, 0))) (t0 t1 t2 t3 : Value) : Kd.R (Kd.int .i64) 3 ((((w.setCell ⟨gl, 0, none⟩ t0).setCell ⟨gl, 1, none⟩ t1).setCell ⟨gl, 2, none⟩ t2).setCell ⟨gl, 3, none⟩ t3) N ok v l :=
 Kd.R_set (Kd.R_set (Kd.R_set (Kd.R_set hr hb (by decide) 0 t0) (blk_put hb 0 t0 rfl) (by decide) 1 t1) (blk_put (blk_put hb 0 t0 rfl) 1 t1 rfl) (by decide) 2 t2) (blk_put (blk_put (blk_put hb 0 t0 rfl) 1 t1 rfl) 2 t2 rfl) (by decide) 3 t3
end
set_option maxHeartbeats 16000000 in
set_option maxRecDepth 100000 in
theorem spec_l05Any.calls (k : Nat) (g : Nat) (aa : List Int) (ak : Int) (an : Int) (r1 : List Int) (r2 : Int) (r3 : List (S69)) (r4 : List (S74)) (r5 : Int) (r6 : Int) (w0 w : World) (hI : IsS90 w0 w g aa ak an) (hB : Below w0.heap.size w0 w) (h : spec_l05Any.f k aa ak an = some (r1, r2, r3, r4, r5, r6)) :
 Calls Try.prog 84 #[.pointer (some ⟨g, 0, none⟩)] w fun e w' => ∃ v0_ v2_ v3_ : Value, e = .returned (.agg #[v0_, .int .i64 r2, v2_, v3_]) ∧ Tre w.heap.size g v0_ r1 v2_ r3 v3_ r4 w' ∧ IsS90 w0 w' g aa r5 r6 ∧ Below w0.heap.size w0 w' ∧ KeepBut w w' g none := by
 have hu28 := Try.underlying28; have GL := zK hI.lt; have WL := zK hB.size
 have HC := zK (show Crs w0 w g aa ak an w from ⟨hI, hB, KeepBut.refl w g none⟩)
 clear hI hB; have H := h; clear h
 unfold spec_l05Any.f at H
 replace H := Option.bind_eq_some_iff.mp H
 obtain ⟨⟨tr, T, ch, wa, i1, h1⟩, A10, H⟩ := H
 have AA1 := zK (show spec_l05Loop.f k aa ak an = some (tr, T, ch, wa, i1, h1) from A10)
 clear A10; replace H := Option.bind_eq_some_iff.mp H
 obtain ⟨⟨z, i2, h2⟩, A20, H⟩ := H
 have AA2 := zK (show spec_l01Below.f aa i1 h1 20 = some (z, i2, h2) from A20)
 clear A20
 dsimp only at H
 have HF := zK H; clear H
 go_enter Try.func84, Try.ntmps84
 go_upto_region 3 with (first
 | ((with_reducible refine gate_dst (N := 2) rfl ?_); refine zX 2 #[.slice none 0 0, .int .i64 0, .slice none 0 0, .slice none 0 0] 28 ?_; intro gr hg w1 hbox hb; have GR := zK (show w.heap.size ≤ gr from by rw [hg]; exact HC.out.2.2.1); have HR := zK (show Bx g gr (.slice none 0 0) (.int .i64 0) (.slice none 0 0) (.slice none 0 0) w1 from ⟨hbox, fun e => by have := GL.out; have := GR.out; omega⟩); replace HC := zK (HC.out.bel hb); clear hg hbox hb)
 | ((with_reducible refine gate_callee (f := 50) rfl ?_); refine goesL_ (some 5) rfl rfl Try.func50 (by kernel_rfl) rfl #[.pointer (some ⟨g, 0, none⟩)] rfl zg ?_; (with_reducible refine (spec_l05Loop.calls k g aa ak an tr T ch wa i1 h1 w0 _ HC.out.is HC.out.be AA1.out).mono ?_); rintro e w2 ⟨v0, v2, v3, rfl, ho0, ho2, ho3, hi, hb, hk⟩; refine ⟨_, rfl, ?_⟩; have HT := zK (Tri.of (N := w.heap.size) (g := g) ho0 ho2 ho3 (Nat.lt_of_lt_of_le GL.out HC.out.2.2.1) HC.out.2.2.1); obtain ⟨A0, a0, A2, a2, A3, a3, e0, e2, e3⟩ := HT.out.e.reads; subst e0 e2 e3; replace HC := zK (HC.out.cur hi hb hk); replace HR := zK (Sty.keep HR.out hk); clear ho0 ho2 ho3 hi hb hk)
 | ((with_reducible refine gate_dst (N := 3) rfl ?_); refine zX 3 #[.slice none 0 0, .int .i64 0, .slice none 0 0, .slice none 0 0] 28 ?_; intro gl hg w3 hbox hb; have GLL := zK (show w.heap.size ≤ gl from by rw [hg]; exact HC.out.2.2.1); have NG := zK (show gl ≠ g from fun e => by have := GL.out; have := GLL.out; omega); have NR := zK (show gr ≠ gl from by rw [hg]; exact Nat.ne_of_lt (blk_lt HR.out.1)); obtain ⟨ac, ad, ae, af⟩ := cells4 hbox; have ag := blk_frozen hbox 0; have ah := blk_frozen hbox 1; have ai := blk_frozen hbox 2; have aj := blk_frozen hbox 3; have HG := zK (Bx.put4 (show Bx g gl (.slice none 0 0) (.int .i64 0) (.slice none 0 0) (.slice none 0 0) w3 from ⟨hbox, NG.out⟩) (.slice A0 tr.length a0) (.int .i64 T) (.slice A2 ch.length a2) (.slice A3 wa.length a3)); replace HC := zK ((HC.out.bel hb).far4 (Nat.le_trans WL.out GLL.out) GLL.out NG.out (.slice A0 tr.length a0) (.int .i64 T) (.slice A2 ch.length a2) (.slice A3 wa.length a3)); replace HR := zK ((Sty.bel HR.out hb).far4 NR.out (.slice A0 tr.length a0) (.int .i64 T) (.slice A2 ch.length a2) (.slice A3 wa.length a3)); replace HT := zK ((Sty.bel HT.out hb).put4 hbox (.slice A0 tr.length a0) (.int .i64 T) (.slice A2 ch.length a2) (.slice A3 wa.length a3)); clear hg hbox hb)
 | ((with_reducible refine gate_callee (f := 89) rfl ?_); refine goesL_ (some 7) rfl rfl Try.func89 (by kernel_rfl) rfl #[.pointer (some ⟨g, 0, none⟩), .int .i64 20] rfl zg ?_; (with_reducible refine (spec_l01Below.calls g aa i1 h1 20 z i2 h2 w0 _ HC.out.is HC.out.be AA2.out).mono ?_); rintro e w4 ⟨rfl, hi, hb, hk⟩; refine ⟨_, rfl, ?_⟩; clear ac ad ae af ag ah ai aj; replace HC := zK (HC.out.cur hi hb hk); replace HR := zK (Sty.keep HR.out hk); replace HG := zK (Sty.keep HG.out hk); replace HT := zK (Sty.keep HT.out hk); clear hi hb hk)
 )
 have H := HF.out; clear HF
 by_cases c0 : z = 0
 ·rw [if_pos c0] at H
  have b0 : (z == 0) = true := beq_iff_eq.mpr c0
  clear c0
  obtain ⟨L, NL0⟩ : ∃ y_ : List Int, y_ = [(-1), (tr.length : Int), 0] := ⟨_, rfl⟩
  have NL := zK NL0; replace H := Option.bind_eq_some_iff.mp H
  obtain ⟨⟨x, i3, h3⟩, ab, H⟩ := H
  rw [← NL0] at ab
  have AA3 := zK (show spec_l01PickInt.f aa i2 h2 L = some (x, i3, h3) from ab)
  clear ab NL0
  dsimp only at H
  simp only [Option.some.injEq, Prod.mk.injEq] at H
  obtain ⟨rfl, rfl, rfl, rfl, rfl, rfl⟩ := H
  obtain ⟨hz0, hz1, hz2, hz3⟩ := cells4 HG.out.1
  go_wp2_with (first
 | ((with_reducible refine gate_dst (N := 14) rfl ?_); refine Kd.R_lit (Kd.int .i64) _ 3 ?hg (N := 14) ?hd (xs := ([(-1), (tr.length : Int), 0] : List Int)) (inner := [.int .i64 (-1), .int .i64 (tr.length : Int), .int .i64 0]) (ok := fun _ => True) (okp := fun _ => True) ?hr ?hp (fun _ hk => hk) trivial (Below.refl _ _) (Nat.le_refl _) (by simp) ?_; (case hd => rfl); (case hg => rfl); (case hr => first | (go_simp; done) | (go_simp; rfl)); (case hp => exact (Reps.one (show Kd.M (Kd.int .i64) _ _ _ (-1) [.int .i64 (-1)] from rfl) (Reps.one (show Kd.M (Kd.int .i64) _ _ _ (tr.length : Int) [.int .i64 (tr.length : Int)] from rfl) (Reps.one (show Kd.M (Kd.int .i64) _ _ _ 0 [.int .i64 0] from rfl) (Reps.none _ _))))); intro vl w5 hl hb hg_ hnew_; clear hg_ hnew_; rw [← NL.out] at hl; obtain ⟨Al, al, el⟩ := Kd.R_slice hl; subst el; replace HC := zK (HC.out.bel hb); replace HR := zK (Sty.bel HR.out hb); replace HG := zK (Sty.bel HG.out hb); replace HT := zK (Sty.bel HT.out hb); have HI := zK hl; clear hb hl)
 | ((with_reducible refine gate_callee (f := 86) rfl ?_); refine goesL_ (some 15) rfl rfl Try.func86 (by kernel_rfl) rfl #[.pointer (some ⟨g, 0, none⟩), .slice Al L.length al] rfl zg ?_; (with_reducible refine (spec_l01PickInt.calls g aa i2 h2 Al al L x i3 h3 w0 _ HC.out.is HC.out.be (Kd.R_reads' HI.out).2.2 (Kd.R_reads' HI.out).2.1 (far_slice (IsS90.own_ne HC.out.is HI.out (by decide))) AA3.out).mono ?_); rintro e w6 ⟨rfl, hi, hb, hk⟩; refine ⟨_, rfl, ?_⟩; replace HC := zK (HC.out.cur hi hb hk); replace HR := zK (Sty.keep HR.out hk); replace HG := zK (Sty.keep HG.out hk); replace HT := zK (Sty.keep HT.out hk); clear hi hb hk; clear HI; clear hz0 hz1 hz2 hz3; obtain ⟨hz0, hz1, hz2, hz3⟩ := cells4 HG.out.1; have hf9 := blk_frozen HG.out.1 1)
 | ((with_reducible refine gate_store (t := 3) (p := 16) rfl ?_); refine store_event (t := 3) (p := 16) (v := ?vo_) (w1 := (w6.setCell ⟨gl, 1, none⟩ (.int .i64 x))) ?hg ?ho ?hn ?hr ?_; (case ho => rfl); (case hg => rfl); (case hn => rfl); (case hr => first | (go_simp; done) | (go_simp; rfl)); intro w7 hw; replace HC := zK (show Crs w0 w g aa _ _ w7 from by rw [hw]; exact HC.out.far (p := ⟨gl, 1, none⟩) (Nat.le_trans WL.out GLL.out) GLL.out NG.out _); replace HR := zK (show Bx g gr _ _ _ _ w7 from by rw [hw]; exact HR.out.set NR.out 1 _); replace HT := zK (show Tre w.heap.size g _ _ _ _ _ _ w7 from by rw [hw]; exact HT.out.e.set HG.out.1 1 _); replace HG := zK (show Bx g gl _ _ _ _ w7 from by rw [hw]; exact ⟨blk_put HG.out.1 1 _ rfl, NG.out⟩); clear hw hf9 hz0 hz1 hz2 hz3; obtain ⟨hz0, hz1, hz2, hz3⟩ := cells4 HG.out.1; obtain ⟨ac, ad, ae, af⟩ := cells4 HR.out.1; have ag := blk_frozen HR.out.1 0; have ah := blk_frozen HR.out.1 1; have ai := blk_frozen HR.out.1 2; have aj := blk_frozen HR.out.1 3)
 )
  refine bodyPost_ret (results_cell_row rfl _ _ gr 28 #[_, _, _, _] (0, 0) _ rfl (blk_put4 HR.out.1 _ _ _ _) Try.underlying28 rfl (by kernel_rfl)) rfl ?_
  exact ⟨_, _, _, rfl, HT.out.put4 HR.out.1 _ _ _ _, (HC.out.far4 (Nat.le_trans WL.out GR.out) GR.out HR.out.2 _ _ _ _)⟩
 ·rw [if_neg c0] at H
  have b0 : (z == 0) = false := beq_eq_false_iff_ne.mpr c0
  clear c0
  by_cases c1 : z = 1
  ·rw [if_pos c1] at H
   have b1 : (z == 1) = true := beq_iff_eq.mpr c1
   clear c1
   obtain ⟨L, NL0⟩ : ∃ y_ : List Int, y_ = [(-1), 101, 3] := ⟨_, rfl⟩
   have NL := zK NL0; replace H := Option.bind_eq_some_iff.mp H
   obtain ⟨⟨x, i3, h3⟩, ab, H⟩ := H
   rw [← NL0] at ab
   have AA3 := zK (show spec_l01PickInt.f aa i2 h2 L = some (x, i3, h3) from ab)
   clear ab NL0
   dsimp only at H
   by_cases c9 : 0 < (tr.length : Int)
   ·rw [if_pos c9] at H
    simp only [Option.some.injEq, Prod.mk.injEq] at H
    obtain ⟨rfl, rfl, rfl, rfl, rfl, rfl⟩ := H
    have l9 : (0 < tr.length) = True := eq_true (by omega)
    have m9 : ((0 : Int) < ((tr.length : Nat) : Int)) = True := eq_true (by omega)
    have L9 : 0 < tr.length := by omega
    have L8 : 0 < tr.length := by omega
    obtain ⟨gT, t9, e9, nx, ng, ⟨cs, hc⟩, hx, hf, hS⟩ := HT.out.tray c9 x
    cases e9
    clear nx ng hc hx hf hS
    obtain ⟨hz0, hz1, hz2, hz3⟩ := cells4 HG.out.1
    go_wp2
    clear hz0 hz1 hz2 hz3
    replace HC := zK (HC.out.bel (below_drew (Below.refl _ _)))
    replace HR := zK (Sty.bel HR.out (below_drew (Below.refl _ _)))
    replace HG := zK (Sty.bel HG.out (below_drew (Below.refl _ _)))
    replace HT := zK (Sty.bel HT.out (below_drew (Below.refl _ _)))
    refine start_ (n := 7) (S := fun w' => w'.cell? ⟨gl, 0, none⟩ = some (.slice (some ⟨gT, 0, none⟩) tr.length a0)) (ds := [6]) (zv 7 0) (by kernel_rfl) rfl rfl ((cells4 HG.out.1).1) (fun hHeld => ?_)
    generalize w4.drew = w5 at HC HR HG HT hHeld ⊢
    refine zu 0 (some 19) (zv 7 1) (by kernel_rfl) ?_
    refine zu 2 (some 21) (zv 7 5) (by kernel_rfl) ?_
    refine zt 1 (some 20) (zv 7 7) (by kernel_rfl) hHeld ?_
    refine one_ (i := 3) (N := some 22) (zv 7 15) rfl rfl (by kernel_rfl) (by decide) (fun K hK => ?_)
    refine Kd.R_lit_step (Kd.int .i64) _ 3 ?hg (N := 22) ?hd (xs := ([(-1), 101, 3] : List Int)) (inner := [.int .i64 (-1), .int .i64 101, .int .i64 3]) (ok := fun _ => True) (okp := fun _ => True) ?hr ?hp (fun _ hk => hk) trivial (Below.refl _ _) (Nat.le_refl _) (by simp) ?_
    (case hd => rfl)
    (case hg => rfl)
    (case hr => first | (go_simp; done) | (go_simp; rfl))
    (case hp => exact (Reps.one (show Kd.M (Kd.int .i64) _ _ _ (-1) [.int .i64 (-1)] from rfl) (Reps.one (show Kd.M (Kd.int .i64) _ _ _ 101 [.int .i64 101] from rfl) (Reps.one (show Kd.M (Kd.int .i64) _ _ _ 3 [.int .i64 3] from rfl) (Reps.none _ _)))))
    intro vl w6 hl hb hg_ hnew_
    clear hg_ hnew_
    rw [← NL.out] at hl
    obtain ⟨Al, al, el⟩ := Kd.R_slice hl
    subst el
    replace HC := zK (HC.out.bel hb)
    replace HR := zK (Sty.bel HR.out hb)
    replace HG := zK (Sty.bel HG.out hb)
    replace HT := zK (Sty.bel HT.out hb)
    have HI := zK hl; clear hb hl
    refine hK.out _ _ ((cells4 HG.out.1).1) (fun hHeld => ?_)
    clear hK K
    refine norm_ (a' := ?_) ?_ ?_
    rotate_left
    ·show Act.put _ (some 22) _ = _
     simp only [Act.put, zp, zq, zr, i64_w, i32_w]
     rfl
    refine one_ (i := 4) (N := some 23) (zv 7 31) rfl rfl (by kernel_rfl) (by decide) (fun K hK => ?_)
    refine goes_ Try.func86 (by kernel_rfl) rfl #[.pointer (some ⟨g, 0, none⟩), .slice Al L.length al] (by rfl) rfl rfl (by simp only [List.map_toArray, List.map_cons, List.map_nil]; rfl) ?_
    with_reducible refine (spec_l01PickInt.calls g aa i2 h2 Al al L x i3 h3 w0 _ HC.out.is HC.out.be (Kd.R_reads' HI.out).2.2 (Kd.R_reads' HI.out).2.1 (far_slice (IsS90.own_ne HC.out.is HI.out (by decide))) AA3.out).mono ?_
    rintro e w7 ⟨rfl, hi, hb, hk⟩
    refine ⟨_, rfl, ?_⟩
    replace HC := zK (HC.out.cur hi hb hk)
    replace HR := zK (Sty.keep HR.out hk)
    replace HG := zK (Sty.keep HG.out hk)
    replace HT := zK (Sty.keep HT.out hk)
    clear hi hb hk HI
    obtain ⟨gTb, t9b, e9b, nxb, ngb, ⟨csb, hcb⟩, hxb, hfb, hSb⟩ := HT.out.tray c9 x
    cases e9b
    have q8 : w7.cell? ⟨gT, 0, none⟩ = some _ := hxb
    have q9 : w7.frozen? ⟨gT, 0, none⟩ = false := hfb
    have HN := zK (hSb)
    refine hK.out _ _ ((cells4 HG.out.1).1) (fun hHeld => ?_)
    clear hK K
    refine norm_ (a' := ?_) ?_ ?_
    rotate_left
    ·show Act.put _ (some 23) _ = _
     simp only [Act.put, zp, zq, zr, i64_w, i32_w]
     rfl
    refine zu 5 (some 24) (zv 7 63) (by kernel_rfl) ?_
    refine last_ (i := 6) (N := none) (zv 7 127) rfl rfl (by kernel_rfl) (by decide) (fun K hK => ?_)
    refine skip_ (w1 := ?_) (by rfl) rfl ?_ ?_
    rotate_left
    ·go_simp
     rfl
    refine hK.out _ _ ?_
    clear hK K
    refine done_ (by kernel_rfl) ?_
    replace HC := zK (HC.out.far (p := ⟨gT, 0, none⟩) (Nat.le_trans WL.out nxb) nxb ngb (.int .i64 x))
    replace HR := zK (HR.out.set (blk_ne HR.out.1 hcb (by decide)) 0 (.int .i64 x))
    replace HG := zK (HG.out.set (blk_ne HG.out.1 hcb (by decide)) 0 (.int .i64 x))
    replace HT := HN; clear HN q8 q9 nxb ngb hcb hxb hfb hSb
    generalize w7.setCell ⟨gT, 0, none⟩ (.int .i64 x) = w8 at HC HR HG HT ⊢
    obtain ⟨hz0, hz1, hz2, hz3⟩ := cells4 HG.out.1
    obtain ⟨ac, ad, ae, af⟩ := cells4 HR.out.1
    have ag := blk_frozen HR.out.1 0; have ah := blk_frozen HR.out.1 1; have ai := blk_frozen HR.out.1 2; have aj := blk_frozen HR.out.1 3
    go_wp2
    refine bodyPost_ret (results_cell_row rfl _ _ gr 28 #[_, _, _, _] (0, 0) _ rfl (blk_put4 HR.out.1 _ _ _ _) Try.underlying28 rfl (by kernel_rfl)) rfl ?_
    exact ⟨_, _, _, rfl, HT.out.put4 HR.out.1 _ _ _ _, (HC.out.far4 (Nat.le_trans WL.out GR.out) GR.out HR.out.2 _ _ _ _)⟩
   ·rw [if_neg c9] at H
    exact absurd H (by simp)
  ·rw [if_neg c1] at H
   have b1 : (z == 1) = false := beq_eq_false_iff_ne.mpr c1
   clear c1
   by_cases c2 : z = 2
   ·rw [if_pos c2] at H
    have b2 : (z == 2) = true := beq_iff_eq.mpr c2
    clear c2
    by_cases c9 : (ch.length : Int) > 0
    ·rw [if_pos c9] at H
     have d9 : decide ((ch.length : Int) > 0) = true := decide_eq_true c9
     obtain ⟨L, NL0⟩ : ∃ y_ : List Int, y_ = [0, 40, 41] := ⟨_, rfl⟩
     have NL := zK NL0; replace H := Option.bind_eq_some_iff.mp H
     obtain ⟨⟨x, i3, h3⟩, ab, H⟩ := H
     rw [← NL0] at ab
     have AA3 := zK (show spec_l01PickInt.f aa i2 h2 L = some (x, i3, h3) from ab)
     clear ab NL0
     dsimp only at H
     rw [if_pos (show 0 < (ch.length : Int) by omega)] at H
     simp only [Option.some.injEq, Prod.mk.injEq] at H
     obtain ⟨rfl, rfl, rfl, rfl, rfl, rfl⟩ := H
     have l9 : (0 < ch.length) = True := eq_true (by omega)
     have m9 : ((0 : Int) < ((ch.length : Nat) : Int)) = True := eq_true (by omega)
     have L9 : 0 < ch.length := by omega
     have L8 : 0 < ch.length := by omega
     obtain ⟨gC, t9, t8, u9, e9, nx, ng, ⟨cs, hc⟩, hx, hy, hu, ht, hf, hj, hS, hU⟩ := HT.out.chute 0 L9
     cases e9
     subst ht; clear nx ng hc hx hy hu hf hj hS hU
     obtain ⟨hz0, hz1, hz2, hz3⟩ := cells4 HG.out.1
     go_wp2
     clear hz0 hz1 hz2 hz3
     replace HC := zK (HC.out.bel (below_drew (Below.refl _ _)))
     replace HR := zK (Sty.bel HR.out (below_drew (Below.refl _ _)))
     replace HG := zK (Sty.bel HG.out (below_drew (Below.refl _ _)))
     replace HT := zK (Sty.bel HT.out (below_drew (Below.refl _ _)))
     refine start_ (n := 8) (S := fun w' => w'.cell? ⟨gl, 2, none⟩ = some (.slice (some ⟨gC, 0, none⟩) ch.length a2)) (ds := [7]) (zv 8 0) (by kernel_rfl) rfl rfl ((cells4 HG.out.1).2.2.1) (fun hHeld => ?_)
     generalize w4.drew = w5 at HC HR HG HT hHeld ⊢
     refine zu 0 (some 31) (zv 8 1) (by kernel_rfl) ?_
     refine zu 2 (some 33) (zv 8 5) (by kernel_rfl) ?_
     refine zt 1 (some 32) (zv 8 7) (by kernel_rfl) hHeld ?_
     refine one_ (i := 3) (N := some 34) (zv 8 15) rfl rfl (by kernel_rfl) (by decide) (fun K hK => ?_)
     refine Kd.R_lit_step (Kd.int .i64) _ 3 ?hg (N := 34) ?hd (xs := ([0, 40, 41] : List Int)) (inner := [.int .i64 0, .int .i64 40, .int .i64 41]) (ok := fun _ => True) (okp := fun _ => True) ?hr ?hp (fun _ hk => hk) trivial (Below.refl _ _) (Nat.le_refl _) (by simp) ?_
     (case hd => rfl)
     (case hg => rfl)
     (case hr => first | (go_simp; done) | (go_simp; rfl))
     (case hp => exact (Reps.one (show Kd.M (Kd.int .i64) _ _ _ 0 [.int .i64 0] from rfl) (Reps.one (show Kd.M (Kd.int .i64) _ _ _ 40 [.int .i64 40] from rfl) (Reps.one (show Kd.M (Kd.int .i64) _ _ _ 41 [.int .i64 41] from rfl) (Reps.none _ _)))))
     intro vl w6 hl hb hg_ hnew_
     clear hg_ hnew_
     rw [← NL.out] at hl
     obtain ⟨Al, al, el⟩ := Kd.R_slice hl
     subst el
     replace HC := zK (HC.out.bel hb)
     replace HR := zK (Sty.bel HR.out hb)
     replace HG := zK (Sty.bel HG.out hb)
     replace HT := zK (Sty.bel HT.out hb)
     have HI := zK hl; clear hb hl
     refine hK.out _ _ ((cells4 HG.out.1).2.2.1) (fun hHeld => ?_)
     clear hK K
     refine norm_ (a' := ?_) ?_ ?_
     rotate_left
     ·show Act.put _ (some 34) _ = _
      simp only [Act.put, zp, zq, zr, i64_w, i32_w]
      rfl
     refine one_ (i := 4) (N := some 35) (zv 8 31) rfl rfl (by kernel_rfl) (by decide) (fun K hK => ?_)
     refine goes_ Try.func86 (by kernel_rfl) rfl #[.pointer (some ⟨g, 0, none⟩), .slice Al L.length al] (by rfl) rfl rfl (by simp only [List.map_toArray, List.map_cons, List.map_nil]; rfl) ?_
     with_reducible refine (spec_l01PickInt.calls g aa i2 h2 Al al L x i3 h3 w0 _ HC.out.is HC.out.be (Kd.R_reads' HI.out).2.2 (Kd.R_reads' HI.out).2.1 (far_slice (IsS90.own_ne HC.out.is HI.out (by decide))) AA3.out).mono ?_
     rintro e w7 ⟨rfl, hi, hb, hk⟩
     refine ⟨_, rfl, ?_⟩
     replace HC := zK (HC.out.cur hi hb hk)
     replace HR := zK (Sty.keep HR.out hk)
     replace HG := zK (Sty.keep HG.out hk)
     replace HT := zK (Sty.keep HT.out hk)
     clear hi hb hk HI
     obtain ⟨gCb, t9b, t8b, u9b, e9b, nxb, ngb, ⟨csb, hcb⟩, hxb, hyb, hub, htb, hfb, hjb, hSb, hUb⟩ := HT.out.chute 0 L9
     cases e9b
     subst htb
     have q8 : w7.cell? ⟨gC, 1, none⟩ = some _ := hyb
     have q9 : w7.frozen? ⟨gC, 1, none⟩ = false := hjb
     have HN := zK (hUb x)
     refine hK.out _ _ ((cells4 HG.out.1).2.2.1) (fun hHeld => ?_)
     clear hK K
     refine norm_ (a' := ?_) ?_ ?_
     rotate_left
     ·show Act.put _ (some 35) _ = _
      simp only [Act.put, zp, zq, zr, i64_w, i32_w]
      rfl
     refine zu 5 (some 36) (zv 8 63) (by kernel_rfl) ?_
     refine zu 6 (some 37) (zv 8 127) (by kernel_rfl) ?_
     refine last_ (i := 7) (N := none) (zv 8 255) rfl rfl (by kernel_rfl) (by decide) (fun K hK => ?_)
     refine skip_ (w1 := ?_) (by rfl) rfl ?_ ?_
     rotate_left
     ·go_simp
      rfl
     refine hK.out _ _ ?_
     clear hK K
     refine done_ (by kernel_rfl) ?_
     replace HC := zK (HC.out.far (p := ⟨gC, 1, none⟩) (Nat.le_trans WL.out nxb) nxb ngb (.int .i64 x))
     replace HR := zK (HR.out.set (blk_ne HR.out.1 hcb (by decide)) 1 (.int .i64 x))
     replace HG := zK (HG.out.set (blk_ne HG.out.1 hcb (by decide)) 1 (.int .i64 x))
     replace HT := HN; clear HN q8 q9 nxb ngb hcb hxb hyb hub hfb hjb hSb hUb
     generalize w7.setCell ⟨gC, 1, none⟩ (.int .i64 x) = w8 at HC HR HG HT ⊢
     obtain ⟨hz0, hz1, hz2, hz3⟩ := cells4 HG.out.1
     obtain ⟨ac, ad, ae, af⟩ := cells4 HR.out.1
     have ag := blk_frozen HR.out.1 0; have ah := blk_frozen HR.out.1 1; have ai := blk_frozen HR.out.1 2; have aj := blk_frozen HR.out.1 3
     go_wp2
     refine bodyPost_ret (results_cell_row rfl _ _ gr 28 #[_, _, _, _] (0, 0) _ rfl (blk_put4 HR.out.1 _ _ _ _) Try.underlying28 rfl (by kernel_rfl)) rfl ?_
     exact ⟨_, _, _, rfl, HT.out.put4 HR.out.1 _ _ _ _, (HC.out.far4 (Nat.le_trans WL.out GR.out) GR.out HR.out.2 _ _ _ _)⟩
    ·rw [if_neg c9] at H
     have d9 : decide ((ch.length : Int) > 0) = false := decide_eq_false c9
     simp only [Option.some.injEq, Prod.mk.injEq] at H
     obtain ⟨rfl, rfl, rfl, rfl, rfl, rfl⟩ := H
     replace HT := zK HT.out.e
     obtain ⟨hz0, hz1, hz2, hz3⟩ := cells4 HG.out.1
     obtain ⟨ac, ad, ae, af⟩ := cells4 HR.out.1
     have ag := blk_frozen HR.out.1 0; have ah := blk_frozen HR.out.1 1; have ai := blk_frozen HR.out.1 2; have aj := blk_frozen HR.out.1 3
     go_wp2
     refine bodyPost_ret (results_cell_row rfl _ _ gr 28 #[_, _, _, _] (0, 0) _ rfl (blk_put4 HR.out.1 _ _ _ _) Try.underlying28 rfl (by kernel_rfl)) rfl ?_
     exact ⟨_, _, _, rfl, HT.out.put4 HR.out.1 _ _ _ _, (HC.out.far4 (Nat.le_trans WL.out GR.out) GR.out HR.out.2 _ _ _ _)⟩
   ·rw [if_neg c2] at H
    have b2 : (z == 2) = false := beq_eq_false_iff_ne.mpr c2
    clear c2
    by_cases c3 : z = 3
    ·rw [if_pos c3] at H
     have b3 : (z == 3) = true := beq_iff_eq.mpr c3
     clear c3
     by_cases c9 : (ch.length : Int) > 1
     ·rw [if_pos c9] at H
      have d9 : decide ((ch.length : Int) > 1) = true := decide_eq_true c9
      rw [if_pos (show 0 < (ch.length : Int) by omega)] at H
      rw [if_pos (show 1 < (ch.length : Int) by omega)] at H
      simp only [Option.some.injEq, Prod.mk.injEq] at H
      obtain ⟨rfl, rfl, rfl, rfl, rfl, rfl⟩ := H
      have l9 : (0 < ch.length) = True := eq_true (by omega)
      have m9 : ((0 : Int) < ((ch.length : Nat) : Int)) = True := eq_true (by omega)
      have k9 : (1 < ch.length) = True := eq_true (by omega)
      have n9 : ((1 : Int) < ((ch.length : Nat) : Int)) = True := eq_true (by omega)
      have L9 : 1 < ch.length := by omega
      have L8 : 0 < ch.length := by omega
      obtain ⟨gC, t9, t8, u9, e9, nx, ng, ⟨cs, hc⟩, hx, hy, hu, ht, hf, hj, hS, hU⟩ := HT.out.chute 0 L8
      cases e9
      subst ht; clear nx ng hc hx hy hu hf hj hS hU
      obtain ⟨hz0, hz1, hz2, hz3⟩ := cells4 HG.out.1
      go_wp2
      clear hz0 hz1 hz2 hz3
      replace HC := zK (HC.out.bel (below_drew (Below.refl _ _)))
      replace HR := zK (Sty.bel HR.out (below_drew (Below.refl _ _)))
      replace HG := zK (Sty.bel HG.out (below_drew (Below.refl _ _)))
      replace HT := zK (Sty.bel HT.out (below_drew (Below.refl _ _)))
      obtain ⟨gCa, t9a, t8a, u9a, e9a, nxa, nga, ⟨csa, hca⟩, hxa, hya, hua, hta, hfa, hja, hSa, hUa⟩ := HT.out.chute 0 L8
      cases e9a
      subst hta
      have p8 : w4.drew.cell? ⟨gC, 0, none⟩ = some (.int .i64 (rd_T69 ch 0).f0) := hxa
      clear nxa nga hca hxa hya hua hfa hja hSa hUa
      refine start_ (n := 10) (S := fun w' => w'.cell? ⟨gl, 2, none⟩ = some (.slice (some ⟨gC, 0, none⟩) ch.length a2) ∧ w'.cell? ⟨gC, 0, none⟩ = some (.int .i64 (rd_T69 ch 0).f0)) (ds := [9]) (zv 10 0) (by kernel_rfl) rfl rfl ⟨(cells4 HG.out.1).2.2.1, p8⟩ (fun hHeld => ?_)
      generalize w4.drew = w5 at HC HR HG HT p8 hHeld ⊢
      obtain ⟨gCb, t9b, t8b, u9b, e9b, nxb, ngb, ⟨csb, hcb⟩, hxb, hyb, hub, htb, hfb, hjb, hSb, hUb⟩ := HT.out.chute 1 L9
      cases e9b
      subst htb
      have q8 : w5.cell? ⟨gC, 3, none⟩ = some _ := hxb
      have q9 : w5.frozen? ⟨gC, 3, none⟩ = false := hfb
      have HN := zK (hSb (rd_T69 ch 0).f0)
      refine zu 0 (some 44) (zv 10 1) (by kernel_rfl) ?_
      refine zu 2 (some 46) (zv 10 5) (by kernel_rfl) ?_
      refine zt 1 (some 45) (zv 10 7) (by kernel_rfl) hHeld ?_
      refine zt 3 (some 47) (zv 10 15) (by kernel_rfl) hHeld ?_
      refine zu 4 (some 48) (zv 10 31) (by kernel_rfl) ?_
      refine zu 5 (some 49) (zv 10 63) (by kernel_rfl) ?_
      refine zt 6 (some 50) (zv 10 127) (by kernel_rfl) hHeld ?_
      refine zu 7 (some 51) (zv 10 255) (by kernel_rfl) ?_
      refine zu 8 (some 52) (zv 10 511) (by kernel_rfl) ?_
      refine last_ (i := 9) (N := none) (zv 10 1023) rfl rfl (by kernel_rfl) (by decide) (fun K hK => ?_)
      refine skip_ (w1 := ?_) (by rfl) rfl ?_ ?_
      rotate_left
      ·go_simp
       rfl
      refine hK.out _ _ ?_
      clear hK K
      refine done_ (by kernel_rfl) ?_
      replace HC := zK (HC.out.far (p := ⟨gC, 3, none⟩) (Nat.le_trans WL.out nxb) nxb ngb (.int .i64 (rd_T69 ch 0).f0))
      replace HR := zK (HR.out.set (blk_ne HR.out.1 hcb (by decide)) 3 (.int .i64 (rd_T69 ch 0).f0))
      replace HG := zK (HG.out.set (blk_ne HG.out.1 hcb (by decide)) 3 (.int .i64 (rd_T69 ch 0).f0))
      replace HT := HN; clear HN q8 q9 nxb ngb hcb hxb hyb hub hfb hjb hSb hUb
      generalize w5.setCell ⟨gC, 3, none⟩ (.int .i64 (rd_T69 ch 0).f0) = w8 at HC HR HG HT ⊢
      obtain ⟨hz0, hz1, hz2, hz3⟩ := cells4 HG.out.1
      obtain ⟨ac, ad, ae, af⟩ := cells4 HR.out.1
      have ag := blk_frozen HR.out.1 0; have ah := blk_frozen HR.out.1 1; have ai := blk_frozen HR.out.1 2; have aj := blk_frozen HR.out.1 3
      go_wp2
      refine bodyPost_ret (results_cell_row rfl _ _ gr 28 #[_, _, _, _] (0, 0) _ rfl (blk_put4 HR.out.1 _ _ _ _) Try.underlying28 rfl (by kernel_rfl)) rfl ?_
      exact ⟨_, _, _, rfl, HT.out.put4 HR.out.1 _ _ _ _, (HC.out.far4 (Nat.le_trans WL.out GR.out) GR.out HR.out.2 _ _ _ _)⟩
     ·rw [if_neg c9] at H
      have d9 : decide ((ch.length : Int) > 1) = false := decide_eq_false c9
      simp only [Option.some.injEq, Prod.mk.injEq] at H
      obtain ⟨rfl, rfl, rfl, rfl, rfl, rfl⟩ := H
      replace HT := zK HT.out.e
      obtain ⟨hz0, hz1, hz2, hz3⟩ := cells4 HG.out.1
      obtain ⟨ac, ad, ae, af⟩ := cells4 HR.out.1
      have ag := blk_frozen HR.out.1 0; have ah := blk_frozen HR.out.1 1; have ai := blk_frozen HR.out.1 2; have aj := blk_frozen HR.out.1 3
      go_wp2
      refine bodyPost_ret (results_cell_row rfl _ _ gr 28 #[_, _, _, _] (0, 0) _ rfl (blk_put4 HR.out.1 _ _ _ _) Try.underlying28 rfl (by kernel_rfl)) rfl ?_
      exact ⟨_, _, _, rfl, HT.out.put4 HR.out.1 _ _ _ _, (HC.out.far4 (Nat.le_trans WL.out GR.out) GR.out HR.out.2 _ _ _ _)⟩
    ·rw [if_neg c3] at H
     have b3 : (z == 3) = false := beq_eq_false_iff_ne.mpr c3
     clear c3
     by_cases c4 : z = 4
     ·rw [if_pos c4] at H
      have b4 : (z == 4) = true := beq_iff_eq.mpr c4
      clear c4
      by_cases c9 : (wa.length : Int) > 1
      ·rw [if_pos c9] at H
       have d9 : decide ((wa.length : Int) > 1) = true := decide_eq_true c9
       rw [if_pos (show 0 < (wa.length : Int) by omega)] at H
       rw [if_pos (show 1 < (wa.length : Int) by omega)] at H
       simp only [Option.some.injEq, Prod.mk.injEq] at H
       obtain ⟨rfl, rfl, rfl, rfl, rfl, rfl⟩ := H
       have l9 : (0 < wa.length) = True := eq_true (by omega)
       have m9 : ((0 : Int) < ((wa.length : Nat) : Int)) = True := eq_true (by omega)
       have k9 : (1 < wa.length) = True := eq_true (by omega)
       have n9 : ((1 : Int) < ((wa.length : Nat) : Int)) = True := eq_true (by omega)
       have L9 : 1 < wa.length := by omega
       have L8 : 0 < wa.length := by omega
       obtain ⟨gW, t9, u9, e9, nx, ng, ⟨cs, hc⟩, hx, hu, ht, hf, hj, hS⟩ := HT.out.want 0 L8
       cases e9
       subst ht; clear nx ng hc hx hu hf hj hS
       obtain ⟨hz0, hz1, hz2, hz3⟩ := cells4 HG.out.1
       go_wp2
       clear hz0 hz1 hz2 hz3
       replace HC := zK (HC.out.bel (below_drew (Below.refl _ _)))
       replace HR := zK (Sty.bel HR.out (below_drew (Below.refl _ _)))
       replace HG := zK (Sty.bel HG.out (below_drew (Below.refl _ _)))
       replace HT := zK (Sty.bel HT.out (below_drew (Below.refl _ _)))
       obtain ⟨gWa, t9a, u9a, e9a, nxa, nga, ⟨csa, hca⟩, hxa, hua, hta, hfa, hja, hSa⟩ := HT.out.want 0 L8
       cases e9a
       subst hta
       have p8 : w4.drew.cell? ⟨gW, 0, none⟩ = some (.int .i64 (rd_T74 wa 0).f0) := hxa
       clear nxa nga hca hxa hua hfa hja hSa
       refine start_ (n := 10) (S := fun w' => w'.cell? ⟨gl, 3, none⟩ = some (.slice (some ⟨gW, 0, none⟩) wa.length a3) ∧ w'.cell? ⟨gW, 0, none⟩ = some (.int .i64 (rd_T74 wa 0).f0)) (ds := [9]) (zv 10 0) (by kernel_rfl) rfl rfl ⟨(cells4 HG.out.1).2.2.2, p8⟩ (fun hHeld => ?_)
       generalize w4.drew = w5 at HC HR HG HT p8 hHeld ⊢
       obtain ⟨gWb, t9b, u9b, e9b, nxb, ngb, ⟨csb, hcb⟩, hxb, hub, htb, hfb, hjb, hSb⟩ := HT.out.want 1 L9
       cases e9b
       subst htb
       have q8 : w5.cell? ⟨gW, 2, none⟩ = some _ := hxb
       have q9 : w5.frozen? ⟨gW, 2, none⟩ = false := hfb
       have HN := zK (hSb (rd_T74 wa 0).f0)
       refine zu 0 (some 59) (zv 10 1) (by kernel_rfl) ?_
       refine zu 2 (some 61) (zv 10 5) (by kernel_rfl) ?_
       refine zt 1 (some 60) (zv 10 7) (by kernel_rfl) hHeld ?_
       refine zt 3 (some 62) (zv 10 15) (by kernel_rfl) hHeld ?_
       refine zu 4 (some 63) (zv 10 31) (by kernel_rfl) ?_
       refine zu 5 (some 64) (zv 10 63) (by kernel_rfl) ?_
       refine zt 6 (some 65) (zv 10 127) (by kernel_rfl) hHeld ?_
       refine zu 7 (some 66) (zv 10 255) (by kernel_rfl) ?_
       refine zu 8 (some 67) (zv 10 511) (by kernel_rfl) ?_
       refine last_ (i := 9) (N := none) (zv 10 1023) rfl rfl (by kernel_rfl) (by decide) (fun K hK => ?_)
       refine skip_ (w1 := ?_) (by rfl) rfl ?_ ?_
       rotate_left
       ·go_simp
        rfl
       refine hK.out _ _ ?_
       clear hK K
       refine done_ (by kernel_rfl) ?_
       replace HC := zK (HC.out.far (p := ⟨gW, 2, none⟩) (Nat.le_trans WL.out nxb) nxb ngb (.int .i64 (rd_T74 wa 0).f0))
       replace HR := zK (HR.out.set (blk_ne HR.out.1 hcb (by decide)) 2 (.int .i64 (rd_T74 wa 0).f0))
       replace HG := zK (HG.out.set (blk_ne HG.out.1 hcb (by decide)) 2 (.int .i64 (rd_T74 wa 0).f0))
       replace HT := HN; clear HN q8 q9 nxb ngb hcb hxb hub hfb hjb hSb
       generalize w5.setCell ⟨gW, 2, none⟩ (.int .i64 (rd_T74 wa 0).f0) = w8 at HC HR HG HT ⊢
       obtain ⟨hz0, hz1, hz2, hz3⟩ := cells4 HG.out.1
       obtain ⟨ac, ad, ae, af⟩ := cells4 HR.out.1
       have ag := blk_frozen HR.out.1 0; have ah := blk_frozen HR.out.1 1; have ai := blk_frozen HR.out.1 2; have aj := blk_frozen HR.out.1 3
       go_wp2
       refine bodyPost_ret (results_cell_row rfl _ _ gr 28 #[_, _, _, _] (0, 0) _ rfl (blk_put4 HR.out.1 _ _ _ _) Try.underlying28 rfl (by kernel_rfl)) rfl ?_
       exact ⟨_, _, _, rfl, HT.out.put4 HR.out.1 _ _ _ _, (HC.out.far4 (Nat.le_trans WL.out GR.out) GR.out HR.out.2 _ _ _ _)⟩
      ·rw [if_neg c9] at H
       have d9 : decide ((wa.length : Int) > 1) = false := decide_eq_false c9
       simp only [Option.some.injEq, Prod.mk.injEq] at H
       obtain ⟨rfl, rfl, rfl, rfl, rfl, rfl⟩ := H
       replace HT := zK HT.out.e
       obtain ⟨hz0, hz1, hz2, hz3⟩ := cells4 HG.out.1
       obtain ⟨ac, ad, ae, af⟩ := cells4 HR.out.1
       have ag := blk_frozen HR.out.1 0; have ah := blk_frozen HR.out.1 1; have ai := blk_frozen HR.out.1 2; have aj := blk_frozen HR.out.1 3
       go_wp2
       refine bodyPost_ret (results_cell_row rfl _ _ gr 28 #[_, _, _, _] (0, 0) _ rfl (blk_put4 HR.out.1 _ _ _ _) Try.underlying28 rfl (by kernel_rfl)) rfl ?_
       exact ⟨_, _, _, rfl, HT.out.put4 HR.out.1 _ _ _ _, (HC.out.far4 (Nat.le_trans WL.out GR.out) GR.out HR.out.2 _ _ _ _)⟩
     ·rw [if_neg c4] at H
      have b4 : (z == 4) = false := beq_eq_false_iff_ne.mpr c4
      clear c4
      by_cases c5 : z = 5
      ·rw [if_pos c5] at H
       have b5 : (z == 5) = true := beq_iff_eq.mpr c5
       clear c5
       by_cases c9 : (wa.length : Int) > 0
       ·rw [if_pos c9] at H
        have d9 : decide ((wa.length : Int) > 0) = true := decide_eq_true c9
        replace H := Option.bind_eq_some_iff.mp H
        obtain ⟨⟨y, i3, h3⟩, ab, H⟩ := H
        have AA3 := zK (show spec_l01Below.f aa i2 h2 4 = some (y, i3, h3) from ab)
        clear ab
        dsimp only at H
        obtain ⟨L, NL0⟩ : ∃ y_ : List Int, y_ = [y] := ⟨_, rfl⟩
        have NL := zK NL0
        rw [← NL0] at H
        clear NL0
        rw [if_pos (show 0 < (wa.length : Int) by omega)] at H
        simp only [Option.some.injEq, Prod.mk.injEq] at H
        obtain ⟨rfl, rfl, rfl, rfl, rfl, rfl⟩ := H
        have l9 : (0 < wa.length) = True := eq_true (by omega)
        have m9 : ((0 : Int) < ((wa.length : Nat) : Int)) = True := eq_true (by omega)
        have L9 : 0 < wa.length := by omega
        have L8 : 0 < wa.length := by omega
        obtain ⟨gW, t9, u9, e9, nx, ng, ⟨cs, hc⟩, hx, hu, ht, hf, hj, hS⟩ := HT.out.want 0 L9
        cases e9
        subst ht; clear nx ng hc hx hu hf hj hS
        obtain ⟨hz0, hz1, hz2, hz3⟩ := cells4 HG.out.1
        go_wp2
        clear hz0 hz1 hz2 hz3
        replace HC := zK (HC.out.bel (below_drew (Below.refl _ _)))
        replace HR := zK (Sty.bel HR.out (below_drew (Below.refl _ _)))
        replace HG := zK (Sty.bel HG.out (below_drew (Below.refl _ _)))
        replace HT := zK (Sty.bel HT.out (below_drew (Below.refl _ _)))
        refine start_ (n := 8) (S := fun w' => w'.cell? ⟨gl, 3, none⟩ = some (.slice (some ⟨gW, 0, none⟩) wa.length a3)) (ds := [7]) (zv 8 0) (by kernel_rfl) rfl rfl ((cells4 HG.out.1).2.2.2) (fun hHeld => ?_)
        generalize w4.drew = w5 at HC HR HG HT hHeld ⊢
        refine zu 0 (some 74) (zv 8 1) (by kernel_rfl) ?_
        refine zu 2 (some 76) (zv 8 5) (by kernel_rfl) ?_
        refine zt 1 (some 75) (zv 8 7) (by kernel_rfl) hHeld ?_
        refine one_ (i := 3) (N := some 77) (zv 8 15) rfl rfl (by kernel_rfl) (by decide) (fun K hK => ?_)
        refine goes_ Try.func89 (by kernel_rfl) rfl #[.pointer (some ⟨g, 0, none⟩), .int .i64 4] (by rfl) rfl rfl (by simp only [List.map_toArray, List.map_cons, List.map_nil]; rfl) ?_
        with_reducible refine (spec_l01Below.calls g aa i2 h2 4 y i3 h3 w0 _ HC.out.is HC.out.be AA3.out).mono ?_
        rintro e w6 ⟨rfl, hi, hb, hk⟩
        refine ⟨_, rfl, ?_⟩
        replace HC := zK (HC.out.cur hi hb hk)
        replace HR := zK (Sty.keep HR.out hk)
        replace HG := zK (Sty.keep HG.out hk)
        replace HT := zK (Sty.keep HT.out hk)
        clear hi hb hk
        refine hK.out _ _ ((cells4 HG.out.1).2.2.2) (fun hHeld => ?_)
        clear hK K
        refine norm_ (a' := ?_) ?_ ?_
        rotate_left
        ·show Act.put _ (some 77) _ = _
         simp only [Act.put, zp, zq, zr, i64_w, i32_w]
         rfl
        refine one_ (i := 4) (N := some 78) (zv 8 31) rfl rfl (by kernel_rfl) (by decide) (fun K hK => ?_)
        refine Kd.R_lit_step (Kd.int .i64) _ 3 ?hg (N := 78) ?hd (xs := ([y] : List Int)) (inner := [.int .i64 y]) (ok := fun _ => True) (okp := fun _ => True) ?hr ?hp (fun _ hk => hk) trivial (Below.refl _ _) (Nat.le_refl _) (by simp) ?_
        (case hd => rfl)
        (case hg => rfl)
        (case hr => first | (go_simp; done) | (go_simp; rfl))
        (case hp => exact (Reps.one (show Kd.M (Kd.int .i64) _ _ _ y [.int .i64 y] from rfl) (Reps.none _ _)))
        intro vl w7 hl hb hg_ hnew_
        clear hg_ hnew_
        rw [← NL.out] at hl
        obtain ⟨Al, al, el⟩ := Kd.R_slice hl
        subst el
        have HN := zK (HT.out.wantRow 0 L8 hl hb HC.out.2.2.1 (Nat.lt_of_lt_of_le GL.out HC.out.2.2.1))
        replace HC := zK (HC.out.bel hb)
        replace HR := zK (Sty.bel HR.out hb)
        replace HG := zK (Sty.bel HG.out hb)
        replace HT := zK (Sty.bel HT.out hb)
        clear hb hl
        obtain ⟨gWb, t9b, u9b, e9b, nxb, ngb, ⟨csb, hcb⟩, hxb, hub, htb, hfb, hjb, hSb⟩ := HT.out.want 0 L9
        cases e9b
        subst htb
        have q8 : w7.cell? ⟨gW, 1, none⟩ = some _ := hub
        have q9 : w7.frozen? ⟨gW, 1, none⟩ = false := hjb
        refine hK.out _ _ ((cells4 HG.out.1).2.2.2) (fun hHeld => ?_)
        clear hK K
        refine norm_ (a' := ?_) ?_ ?_
        rotate_left
        ·show Act.put _ (some 78) _ = _
         simp only [Act.put, zp, zq, zr, i64_w, i32_w]
         rfl
        refine zu 5 (some 79) (zv 8 63) (by kernel_rfl) ?_
        refine zu 6 (some 80) (zv 8 127) (by kernel_rfl) ?_
        refine last_ (i := 7) (N := none) (zv 8 255) rfl rfl (by kernel_rfl) (by decide) (fun K hK => ?_)
        refine skip_ (w1 := ?_) (by rfl) rfl ?_ ?_
        rotate_left
        ·go_simp
         rfl
        refine hK.out _ _ ?_
        clear hK K
        refine done_ (by kernel_rfl) ?_
        replace HC := zK (HC.out.far (p := ⟨gW, 1, none⟩) (Nat.le_trans WL.out nxb) nxb ngb (.slice Al L.length al))
        replace HR := zK (HR.out.set (blk_ne HR.out.1 hcb (by decide)) 1 (.slice Al L.length al))
        replace HG := zK (HG.out.set (blk_ne HG.out.1 hcb (by decide)) 1 (.slice Al L.length al))
        replace HT := HN; clear HN q8 q9 nxb ngb hcb hxb hub hfb hjb hSb
        generalize w7.setCell ⟨gW, 1, none⟩ (.slice Al L.length al) = w8 at HC HR HG HT ⊢
        obtain ⟨hz0, hz1, hz2, hz3⟩ := cells4 HG.out.1
        obtain ⟨ac, ad, ae, af⟩ := cells4 HR.out.1
        have ag := blk_frozen HR.out.1 0; have ah := blk_frozen HR.out.1 1; have ai := blk_frozen HR.out.1 2; have aj := blk_frozen HR.out.1 3
        go_wp2
        refine bodyPost_ret (results_cell_row rfl _ _ gr 28 #[_, _, _, _] (0, 0) _ rfl (blk_put4 HR.out.1 _ _ _ _) Try.underlying28 rfl (by kernel_rfl)) rfl ?_
        exact ⟨_, _, _, rfl, HT.out.put4 HR.out.1 _ _ _ _, (HC.out.far4 (Nat.le_trans WL.out GR.out) GR.out HR.out.2 _ _ _ _)⟩
       ·rw [if_neg c9] at H
        have d9 : decide ((wa.length : Int) > 0) = false := decide_eq_false c9
        simp only [Option.some.injEq, Prod.mk.injEq] at H
        obtain ⟨rfl, rfl, rfl, rfl, rfl, rfl⟩ := H
        replace HT := zK HT.out.e
        obtain ⟨hz0, hz1, hz2, hz3⟩ := cells4 HG.out.1
        obtain ⟨ac, ad, ae, af⟩ := cells4 HR.out.1
        have ag := blk_frozen HR.out.1 0; have ah := blk_frozen HR.out.1 1; have ai := blk_frozen HR.out.1 2; have aj := blk_frozen HR.out.1 3
        go_wp2
        refine bodyPost_ret (results_cell_row rfl _ _ gr 28 #[_, _, _, _] (0, 0) _ rfl (blk_put4 HR.out.1 _ _ _ _) Try.underlying28 rfl (by kernel_rfl)) rfl ?_
        exact ⟨_, _, _, rfl, HT.out.put4 HR.out.1 _ _ _ _, (HC.out.far4 (Nat.le_trans WL.out GR.out) GR.out HR.out.2 _ _ _ _)⟩
      ·rw [if_neg c5] at H
       have b5 : (z == 5) = false := beq_eq_false_iff_ne.mpr c5
       clear c5
       by_cases c6 : z = 6
       ·rw [if_pos c6] at H
        have b6 : (z == 6) = true := beq_iff_eq.mpr c6
        clear c6
        obtain ⟨L, NL0⟩ : ∃ y_ : List Int, y_ = [0, 1, 60, 61] := ⟨_, rfl⟩
        have NL := zK NL0; replace H := Option.bind_eq_some_iff.mp H
        obtain ⟨⟨x, i3, h3⟩, ab, H⟩ := H
        rw [← NL0] at ab
        have AA3 := zK (show spec_l01PickInt.f aa i2 h2 L = some (x, i3, h3) from ab)
        clear ab NL0
        dsimp only at H
        by_cases c8 : 0 ≤ x
        ·rw [if_pos c8] at H
         by_cases c9 : (x : Int).toNat ≤ 35184372088832
         ·rw [if_pos c9] at H
          obtain ⟨tn, NT0⟩ : ∃ y_ : List Int, y_ = List.replicate (x : Int).toNat 0 := ⟨_, rfl⟩
          rw [← NT0] at H
          have NT := zK NT0; clear NT0
          simp only [Option.some.injEq, Prod.mk.injEq] at H
          obtain ⟨rfl, rfl, rfl, rfl, rfl, rfl⟩ := H
          obtain ⟨hz0, hz1, hz2, hz3⟩ := cells4 HG.out.1
          have hg0 := blk_frozen HG.out.1 0; have hg1 := blk_frozen HG.out.1 1; have hg2 := blk_frozen HG.out.1 2; have hg3 := blk_frozen HG.out.1 3
          go_wp2_with (first
 | ((with_reducible refine gate_dst (N := 84) rfl ?_); refine Kd.R_lit (Kd.int .i64) _ 3 ?hg (N := 84) ?hd (xs := ([0, 1, 60, 61] : List Int)) (inner := [.int .i64 0, .int .i64 1, .int .i64 60, .int .i64 61]) (ok := fun _ => True) (okp := fun _ => True) ?hr ?hp (fun _ hk => hk) trivial (Below.refl _ _) (Nat.le_refl _) (by simp) ?_; (case hd => rfl); (case hg => rfl); (case hr => first | (go_simp; done) | (go_simp; rfl)); (case hp => exact (Reps.one (show Kd.M (Kd.int .i64) _ _ _ 0 [.int .i64 0] from rfl) (Reps.one (show Kd.M (Kd.int .i64) _ _ _ 1 [.int .i64 1] from rfl) (Reps.one (show Kd.M (Kd.int .i64) _ _ _ 60 [.int .i64 60] from rfl) (Reps.one (show Kd.M (Kd.int .i64) _ _ _ 61 [.int .i64 61] from rfl) (Reps.none _ _)))))); intro vl w5 hl hb hg_ hnew_; clear hg_ hnew_; rw [← NL.out] at hl; obtain ⟨Al, al, el⟩ := Kd.R_slice hl; subst el; replace HC := zK (HC.out.bel hb); replace HR := zK (Sty.bel HR.out hb); replace HG := zK (Sty.bel HG.out hb); replace HT := zK (Sty.bel HT.out hb); have HI := zK hl; clear hb hl)
 | ((with_reducible refine gate_callee (f := 86) rfl ?_); refine goesL_ (some 85) rfl rfl Try.func86 (by kernel_rfl) rfl #[.pointer (some ⟨g, 0, none⟩), .slice Al L.length al] rfl zg ?_; (with_reducible refine (spec_l01PickInt.calls g aa i2 h2 Al al L x i3 h3 w0 _ HC.out.is HC.out.be (Kd.R_reads' HI.out).2.2 (Kd.R_reads' HI.out).2.1 (far_slice (IsS90.own_ne HC.out.is HI.out (by decide))) AA3.out).mono ?_); rintro e w6 ⟨rfl, hi, hb, hk⟩; refine ⟨_, rfl, ?_⟩; replace HC := zK (HC.out.cur hi hb hk); replace HR := zK (Sty.keep HR.out hk); replace HG := zK (Sty.keep HG.out hk); replace HT := zK (Sty.keep HT.out hk); clear hi hb hk; clear HI hz0 hz1 hz2 hz3 hg0 hg1 hg2 hg3)
 | ((with_reducible refine gate_dst (N := 86) rfl ?_); refine Kd.R_make (Kd.int .i64) _ 3 rfl (N := 86) rfl 24 _ _ rfl x rfl rfl Try.underlying24 (.int .i64 0) 8 info3 rfl (by decide) (by omega) 0 (ok := fun _ => True) (okp := fun _ => True) rfl (fun _ hk => hk) trivial c8 (by omega) (Below.refl _ _) (Nat.le_refl _) ?_; intro vl w7 hl hb hg_ hnew_; clear hg_ hnew_; rw [← NT.out] at hl; obtain ⟨Am, am, el⟩ := Kd.R_slice hl; subst el; have GN := zK (show g < w6.heap.size from Nat.lt_of_lt_of_le GL.out HC.out.2.2.1); have WN := zK HC.out.2.2.1; replace HC := zK (HC.out.bel hb); replace HR := zK (Sty.bel HR.out hb); replace HG := zK (Sty.bel HG.out hb); replace HT := zK (Sty.bel HT.out hb); replace HT := zK (show Tre w.heap.size g (.slice Am tn.length am) tn (.slice none 0 0) [] (.slice none 0 0) [] w7 from Tre.of (g1 := g) ⟨Kd.R_mono (Kd.R_bound hl) (fun k hk e => by have := hk.2.1; have := GN.out; omega), Kd.S_nil _ _ _ _ _, Kd.R_nil _ _ _ _ _⟩ GN.out WN.out); clear hb hl; obtain ⟨hz0, hz1, hz2, hz3⟩ := cells4 HG.out.1; have hg0 := blk_frozen HG.out.1 0; have hg1 := blk_frozen HG.out.1 1; have hg2 := blk_frozen HG.out.1 2; have hg3 := blk_frozen HG.out.1 3; replace HC := zK (HC.out.far4 (Nat.le_trans WL.out GLL.out) GLL.out NG.out (.slice Am tn.length am) (.int .i64 0) (.slice none 0 0) (.slice none 0 0)); replace HR := zK (HR.out.far4 NR.out (.slice Am tn.length am) (.int .i64 0) (.slice none 0 0) (.slice none 0 0)); replace HT := zK (HT.out.put4 HG.out.1 (.slice Am tn.length am) (.int .i64 0) (.slice none 0 0) (.slice none 0 0)); replace HG := zK (HG.out.put4 (.slice Am tn.length am) (.int .i64 0) (.slice none 0 0) (.slice none 0 0)); obtain ⟨hv0, hv1, hv2, hv3⟩ := cells4 HG.out.1; obtain ⟨ac, ad, ae, af⟩ := cells4 HR.out.1; have ag := blk_frozen HR.out.1 0; have ah := blk_frozen HR.out.1 1; have ai := blk_frozen HR.out.1 2; have aj := blk_frozen HR.out.1 3)
 )
          refine bodyPost_ret (results_cell_row rfl _ _ gr 28 #[_, _, _, _] (0, 0) _ rfl (blk_put4 HR.out.1 _ _ _ _) Try.underlying28 rfl (by kernel_rfl)) rfl ?_
          exact ⟨_, _, _, rfl, HT.out.put4 HR.out.1 _ _ _ _, (HC.out.far4 (Nat.le_trans WL.out GR.out) GR.out HR.out.2 _ _ _ _)⟩
         ·rw [if_neg c9] at H
          exact absurd H (by simp)
        ·rw [if_neg c8] at H
         exact absurd H (by simp)
       ·rw [if_neg c6] at H
        have b6 : (z == 6) = false := beq_eq_false_iff_ne.mpr c6
        clear c6
        simp only [Option.some.injEq, Prod.mk.injEq] at H
        obtain ⟨rfl, rfl, rfl, rfl, rfl, rfl⟩ := H
        replace HT := zK HT.out.e
        obtain ⟨hz0, hz1, hz2, hz3⟩ := cells4 HG.out.1
        obtain ⟨ac, ad, ae, af⟩ := cells4 HR.out.1
        have ag := blk_frozen HR.out.1 0; have ah := blk_frozen HR.out.1 1; have ai := blk_frozen HR.out.1 2; have aj := blk_frozen HR.out.1 3
        go_wp2
        refine bodyPost_ret (results_cell_row rfl _ _ gr 28 #[_, _, _, _] (0, 0) _ rfl (blk_put4 HR.out.1 _ _ _ _) Try.underlying28 rfl (by kernel_rfl)) rfl ?_
        exact ⟨_, _, _, rfl, HT.out.put4 HR.out.1 _ _ _ _, (HC.out.far4 (Nat.le_trans WL.out GR.out) GR.out HR.out.2 _ _ _ _)⟩
def spec_l01Place.f (s0_0 : List Int) (s0_1 : Int) (s0_2 : Int) (a : Int) : Option (Int × Int × Int) := (spec_l01Once.f s0_0 s0_1 s0_2 15).bind fun b => (if b.1 = true then ((spec_l01PickInt.f s0_0 b.2.1 b.2.2 (([(-1), a, wrap64 (a + 1), 9223372036854775807, (-9223372036854775808)] : List Int))).bind fun c => (some (c.1, c.2.1, c.2.2))) else ((spec_l01Below.f s0_0 b.2.1 b.2.2 a).bind fun d => (some (d.1, d.2.1, d.2.2))))
set_option maxHeartbeats 8000000 in
set_option maxRecDepth 100000 in
theorem spec_l01Place.calls (g : Nat) (aa : List Int) (ah : Int) (ai : Int) (a1 : Int) (r1 : Int) (r2 : Int) (r3 : Int) (w0 w : World) (hI : IsS90 w0 w g aa ah ai) (hB : Below w0.heap.size w0 w) (h : spec_l01Place.f aa ah ai a1 = some (r1, r2, r3)) :
  Calls Try.prog 85 #[.pointer (some ⟨g, 0, none⟩), .int .i64 a1] w fun e w' => e = .returned (.int .i64 r1) ∧ IsS90 w0 w' g aa r2 r3 ∧ Below w0.heap.size w0 w' ∧ KeepBut w w' g none := by
 have HI0 := zK hI
 have HK := zK (KeepBut.refl w g none)
 have HL := zK hB.size; clear hI; have HW0 := zK hB.size; have HB := zK hB; clear hB
 have H := h; unfold spec_l01Place.f at H
 clear h; replace H := Option.bind_eq_some_iff.mp H
 obtain ⟨⟨al, ac, ad⟩, A30, H⟩ := H
 (try dsimp only at H)
 have A3 := zK A30; clear A30
 by_cases c4 : al = true
 ·subst c4
  rw [if_pos rfl] at H
  obtain ⟨ak, aj⟩ : ∃ y_ : List Int, y_ = (([(-1), a1, wrap64 (a1 + 1), 9223372036854775807, (-9223372036854775808)] : List Int)) := ⟨_, rfl⟩
  replace H : ((spec_l01PickInt.f aa ac ad ak).bind fun bt404 => (some (bt404.1, bt404.2.1, bt404.2.2))) = some (r1, r2, r3) := by rw [aj]; with_reducible exact H
  have Ny401 := zK aj; clear aj; replace H := Option.bind_eq_some_iff.mp H
  obtain ⟨⟨am, an, ao⟩, A50, H⟩ := H
  (try dsimp only at H)
  have A5 := zK A50; clear A50
  simp only [Option.some.injEq, Prod.mk.injEq] at H
  obtain ⟨rfl, rfl, rfl⟩ := H
  go_enter Try.func85, Try.ntmps85
  go_wp2_with (first | ((with_reducible refine gate_callee (f := 88) rfl ?_); refine goesL_ (some 6) rfl rfl Try.func88 (by kernel_rfl) rfl #[.pointer (some ⟨g, 0, none⟩), .int .i64 15] rfl zg ?_; (with_reducible refine (spec_l01Once.calls g aa ah ai 15 true ac ad w0 _ ?side1 ?side2 A3.out).mono ?_); (case side1 => exact zi9 HI0); (case side2 => exact zj9 HB); rintro e w6 ⟨rfl, hi, hb, hk⟩; refine ⟨_, rfl, ?_⟩; replace HK := zK (KeepBut.trans (by repeat (first | (with_reducible first | exact HK.out | apply KeepBut.set_ | apply keep_drewN | apply keep_drew | apply keep_alloc) | exact HK.out)) hk (.inl rfl)); replace HB := zK (hb); replace HI0 := zK (hi); (try clear hb); (try clear hk); (try clear hi)) | ((with_reducible refine gate_dst (N := 11) rfl ?_); refine Kd.R_lit (Kd.int .i64) _ 3 ?hg (N := 11) ?hd (xs := ([(-1), a1, wrap64 (a1 + 1), 9223372036854775807, (-9223372036854775808)] : List Int)) (inner := [.int .i64 (-1), .int .i64 a1, .int .i64 (wrap64 (a1 + 1)), .int .i64 9223372036854775807, .int .i64 (-9223372036854775808)]) (ok := fun _ => True) (okp := fun _ => True) ?hr ?hp (fun _ hk => hk) trivial (Below.refl _ _) (Nat.le_refl _) (by simp) ?_; (case hd => rfl); (case hg => rfl); (case hr => first | (go_simp; done) | (go_simp; rfl)); (case hp => exact (Reps.one (show Kd.M (Kd.int .i64) _ _ _ (-1) [.int .i64 (-1)] from rfl) (Reps.one (show Kd.M (Kd.int .i64) _ _ _ a1 [.int .i64 a1] from rfl) (Reps.one (show Kd.M (Kd.int .i64) _ _ _ (wrap64 (a1 + 1)) [.int .i64 (wrap64 (a1 + 1))] from rfl) (Reps.one (show Kd.M (Kd.int .i64) _ _ _ 9223372036854775807 [.int .i64 9223372036854775807] from rfl) (Reps.one (show Kd.M (Kd.int .i64) _ _ _ (-9223372036854775808) [.int .i64 (-9223372036854775808)] from rfl) (Reps.none _ _))))))); intro v402 w7 ho8 hb hg_ hnew_; clear hg_ hnew_; (first | rw [← Ny401.out] at ho8); have ab := zK (Kd.R_lower ho8 (keep_size (w := w) (g := g) (row := none) (zc9 HK))); replace HI0 := zK (IsS90.below (zi9 HI0) hb); replace HK := zK (KeepBut.trans (by repeat (first | (with_reducible first | exact HK.out | apply KeepBut.set_ | apply keep_drewN | apply keep_drew | apply keep_alloc) | exact HK.out)) (KeepBut.of_below hb g none) (.inl rfl)); replace HB := zK (below_step (zj9 HB) hb); clear hb ho8; obtain ⟨Ao9, co9, eo9⟩ := Kd.R_slice ab.out; subst eo9) | ((with_reducible refine gate_callee (f := 86) rfl ?_); refine goesL_ (some 12) rfl rfl Try.func86 (by kernel_rfl) rfl #[.pointer (some ⟨g, 0, none⟩), .slice Ao9 ak.length co9] rfl zg ?_; (with_reducible refine (spec_l01PickInt.calls g aa ac ad _ _ ak am an ao w0 _ ?side1 ?side2 ?side3 ?side4 ?side5 A5.out).mono ?_); (case side1 => exact zi9 HI0); (case side2 => exact zj9 HB); (case side3 => exact zs (Kd.R_reads' ab.out).2.2); (case side4 => exact (Kd.R_reads' ab.out).2.1); (case side5 => exact far_slice (IsS90.own_ne HI0.out ab.out (by decide))); rintro e w10 ⟨rfl, hi, hb, hk⟩; refine ⟨_, rfl, ?_⟩; replace ab := zK (Kd.R_mono (Kd.R_keep (IsS90.apart (show IsS90 w0 _ g aa ac ad from zi9 HI0) (zR ab) (by decide)) hk (fun _ h => h.2)) (fun _ h => h.1)); replace HK := zK (KeepBut.trans (by repeat (first | (with_reducible first | exact HK.out | apply KeepBut.set_ | apply keep_drewN | apply keep_drew | apply keep_alloc) | exact HK.out)) hk (.inl rfl)); replace HB := zK (hb); replace HI0 := zK (hi); (try clear hb); (try clear hk); (try clear hi)))
  go_ret
  exact ⟨ze, zi9 HI0, zj9 HB, zc9 HK⟩
 ·replace c4 := Bool.eq_false_iff.mpr c4
  subst c4
  rw [if_neg (show ¬ (false = true) by decide)] at H; replace H := Option.bind_eq_some_iff.mp H
  obtain ⟨⟨aq, ar, au⟩, av, H⟩ := H
  (try dsimp only at H)
  have A11 := zK av; clear av
  simp only [Option.some.injEq, Prod.mk.injEq] at H
  obtain ⟨rfl, rfl, rfl⟩ := H
  go_enter Try.func85, Try.ntmps85
  go_wp2_with (first | ((with_reducible refine gate_callee (f := 88) rfl ?_); refine goesL_ (some 6) rfl rfl Try.func88 (by kernel_rfl) rfl #[.pointer (some ⟨g, 0, none⟩), .int .i64 15] rfl zg ?_; (with_reducible refine (spec_l01Once.calls g aa ah ai 15 false ac ad w0 _ ?side1 ?side2 A3.out).mono ?_); (case side1 => exact zi9 HI0); (case side2 => exact zj9 HB); rintro e w12 ⟨rfl, hi, hb, hk⟩; refine ⟨_, rfl, ?_⟩; replace HK := zK (KeepBut.trans (by repeat (first | (with_reducible first | exact HK.out | apply KeepBut.set_ | apply keep_drewN | apply keep_drew | apply keep_alloc) | exact HK.out)) hk (.inl rfl)); replace HB := zK (hb); replace HI0 := zK (hi); (try clear hb); (try clear hk); (try clear hi)) | ((with_reducible refine gate_callee (f := 89) rfl ?_); refine goesL_ (some 15) rfl rfl Try.func89 (by kernel_rfl) rfl #[.pointer (some ⟨g, 0, none⟩), .int .i64 a1] rfl zg ?_; (with_reducible refine (spec_l01Below.calls g aa ac ad a1 aq ar au w0 _ ?side1 ?side2 A11.out).mono ?_); (case side1 => exact zi9 HI0); (case side2 => exact zj9 HB); rintro e w13 ⟨rfl, hi, hb, hk⟩; refine ⟨_, rfl, ?_⟩; replace HK := zK (KeepBut.trans (by repeat (first | (with_reducible first | exact HK.out | apply KeepBut.set_ | apply keep_drewN | apply keep_drew | apply keep_alloc) | exact HK.out)) hk (.inl rfl)); replace HB := zK (hb); replace HI0 := zK (hi); (try clear hb); (try clear hk); (try clear hi)))
  go_ret
  exact ⟨ze, zi9 HI0, zj9 HB, zc9 HK⟩
def spec_DrawInduct.f (k : Nat) (a : List Int) : Option (List Int × Int × (List (S69)) × (List (S74)) × Int × Int) := (spec_l01New.f k a).bind fun b => ((spec_l05Any.f k b.1 b.2.1 b.2.2).bind fun c => ((spec_l01Place.f b.1 c.2.2.2.2.1 c.2.2.2.2.2 (c.1.length : Int)).bind fun d => ((spec_l01PickInt.f b.1 d.2.1 d.2.2 (([50, 50, 50, 1, 2, 101, 0, (-1)] : List Int))).bind fun e => (some (c.1, c.2.1, c.2.2.1, c.2.2.2.1, d.1, e.1)))))
set_option maxHeartbeats 16000000 in
set_option maxRecDepth 100000 in
theorem spec_DrawInduct.calls (k : Nat) (A0 : Option Addr) (c0 : Nat) (l0 : List Int) (r1 : List Int) (r2 : Int) (r3 : List (S69)) (r4 : List (S74)) (r5 : Int) (r6 : Int) (w : World) (hr0 : Kd.C (Kd.int .u8) w A0 l0.length l0) (hc0 : l0.length ≤ c0) (h : spec_DrawInduct.f k l0 = some (r1, r2, r3, r4, r5, r6)) :
 Calls Try.prog 46 #[.slice A0 l0.length c0] w fun e w' => ∃ v0_ v2_ v3_ : Value, e = .returned (.tuple #[.agg #[v0_, .int .i64 r2, v2_, v3_], .int .i64 r5, .int .i64 r6]) ∧ (∃ g, Tre w.heap.size g v0_ r1 v2_ r3 v3_ r4 w') ∧ Below w.heap.size w w' := by
 have hu28 := Try.underlying28
 have HQ := zK (And.intro hr0 hc0)
 clear hr0 hc0
 have HB := zK (Below.refl w.heap.size w)
 have H := h; clear h
 unfold spec_DrawInduct.f at H
 replace H := Option.bind_eq_some_iff.mp H
 obtain ⟨⟨b, i, h⟩, A10, H⟩ := H
 have AA1 := zK (show spec_l01New.f k l0 = some (b, i, h) from A10)
 replace H := Option.bind_eq_some_iff.mp H
 obtain ⟨⟨tr, T, ch, wa, i1, h1⟩, A20, H⟩ := H
 have AA2 := zK (show spec_l05Any.f k b i h = some (tr, T, ch, wa, i1, h1) from A20)
 clear A10 A20
 dsimp only at H
 replace H := Option.bind_eq_some_iff.mp H
 obtain ⟨⟨p, i2, h2⟩, A25, H⟩ := H
 have AA5 := zK (show spec_l01Place.f b i1 h1 (tr.length : Int) = some (p, i2, h2) from A25)
 clear A25
 dsimp only at H
 obtain ⟨L, NL0⟩ : ∃ y_ : List Int, y_ = [50, 50, 50, 1, 2, 101, 0, (-1)] := ⟨_, rfl⟩
 have NL := zK NL0; replace H := Option.bind_eq_some_iff.mp H
 obtain ⟨⟨x, i3, h3⟩, A30, H⟩ := H
 rw [← NL0] at A30
 have AA3 := zK (show spec_l01PickInt.f b i2 h2 L = some (x, i3, h3) from A30)
 clear A30 NL0
 dsimp only at H
 simp only [Option.some.injEq, Prod.mk.injEq] at H
 obtain ⟨rfl, rfl, rfl, rfl, rfl, rfl⟩ := H
 go_enter Try.func46, Try.ntmps46
 go_wp2_with (first
 | ((with_reducible refine gate_dst (N := 2) rfl ?_); refine zX 2 #[.slice none 0 0, .int .i64 0, .slice none 0 0, .slice none 0 0] 28 ?_; intro gr hg w1 hbox hb; have GR := zK (show w.heap.size ≤ gr from by rw [hg]; exact Nat.le_refl _); have HK := zK hbox; replace HB := zK (below_step HB.out hb); clear hg hbox hb)
 | ((with_reducible refine gate_callee (f := 51) rfl ?_); refine goesL_ (some 9) rfl rfl Try.func51 (by kernel_rfl) rfl #[.slice A0 l0.length c0] rfl zg ?_; (with_reducible refine (spec_l01New.calls k A0 c0 l0 b i h w _ HB.out HQ.out.1 HQ.out.2 AA1.out).mono ?_); rintro e w2 ⟨g, rfl, hi, hb, hb2⟩; refine ⟨_, rfl, ?_⟩; have HC := zK (show Crs w w2 g b i h w2 from ⟨hi, hb, KeepBut.refl w2 g none⟩); have GL := zK hi.lt; have WL := zK hb.size; have HR := zK (show Bx g gr (.slice none 0 0) (.int .i64 0) (.slice none 0 0) (.slice none 0 0) w2 from ⟨blk_below HK.out hb2, Ne.symm (IsS90.ne_blk hi (blk_below HK.out hb2) (by decide))⟩); clear HK HB hi hb hb2)
 | ((with_reducible refine gate_callee (f := 84) rfl ?_); refine goesL_ (some 11) rfl rfl Try.func84 (by kernel_rfl) rfl #[.pointer (some ⟨g, 0, none⟩)] rfl zg ?_; (with_reducible refine (spec_l05Any.calls k g b i h tr T ch wa i1 h1 w _ HC.out.is HC.out.be AA2.out).mono ?_); rintro e w3 ⟨v0, v2, v3, rfl, ht, hi, hb, hk⟩; refine ⟨_, rfl, ?_⟩; have HT := zK (Tre.of (N := w.heap.size) (g := g) ht GL.out WL.out); obtain ⟨B0, b0, B2, b2, B3, b3, e0, e2, e3⟩ := HT.out.reads; subst e0 e2 e3; replace HC := zK (HC.out.cur hi hb hk); replace HR := zK (Sty.keep HR.out hk); clear ht hi hb hk)
 | ((with_reducible refine gate_dst (N := 6) rfl ?_); refine zX 6 #[.slice none 0 0, .int .i64 0, .slice none 0 0, .slice none 0 0] 28 ?_; intro gl hg w4 hbox hb; have GLL := zK (show w2.heap.size ≤ gl from by rw [hg]; exact HC.out.2.2.1); have NG := zK (show gl ≠ g from fun e => by have := GL.out; have := GLL.out; omega); have NR := zK (show gr ≠ gl from by rw [hg]; exact Nat.ne_of_lt (blk_lt HR.out.1)); obtain ⟨hy0, hy1, hy2, hy3⟩ := cells4 hbox; have hf0 := blk_frozen hbox 0; have hf1 := blk_frozen hbox 1; have hf2 := blk_frozen hbox 2; have hf3 := blk_frozen hbox 3; have HG := zK (Bx.put4 (show Bx g gl (.slice none 0 0) (.int .i64 0) (.slice none 0 0) (.slice none 0 0) w4 from ⟨hbox, NG.out⟩) (.slice B0 tr.length b0) (.int .i64 T) (.slice B2 ch.length b2) (.slice B3 wa.length b3)); replace HC := zK ((HC.out.bel hb).far4 (Nat.le_trans WL.out GLL.out) GLL.out NG.out (.slice B0 tr.length b0) (.int .i64 T) (.slice B2 ch.length b2) (.slice B3 wa.length b3)); replace HR := zK ((Sty.bel HR.out hb).far4 NR.out (.slice B0 tr.length b0) (.int .i64 T) (.slice B2 ch.length b2) (.slice B3 wa.length b3)); replace HT := zK ((Sty.bel HT.out hb).put4 hbox (.slice B0 tr.length b0) (.int .i64 T) (.slice B2 ch.length b2) (.slice B3 wa.length b3)); clear hg hbox hb; obtain ⟨hz0, hz1, hz2, hz3⟩ := cells4 HG.out.1)
 | ((with_reducible refine gate_callee (f := 85) rfl ?_); refine goesL_ (some 16) rfl rfl Try.func85 (by kernel_rfl) rfl #[.pointer (some ⟨g, 0, none⟩), .int .i64 (tr.length : Int)] rfl zg ?_; (with_reducible refine (spec_l01Place.calls g b i1 h1 (tr.length : Int) p i2 h2 w _ HC.out.is HC.out.be AA5.out).mono ?_); rintro e w5 ⟨rfl, hi, hb, hk⟩; refine ⟨_, rfl, ?_⟩; clear hy0 hy1 hy2 hy3 hf0 hf1 hf2 hf3 hz0 hz1 hz2 hz3; replace HC := zK (HC.out.cur hi hb hk); replace HR := zK (Sty.keep HR.out hk); replace HG := zK (Sty.keep HG.out hk); replace HT := zK (Sty.keep HT.out hk); clear hi hb hk)
 )
 replace HC := zK (HC.out.bel (below_drew (Below.refl _ _)))
 replace HR := zK (Sty.bel HR.out (below_drew (Below.refl _ _)))
 replace HG := zK (Sty.bel HG.out (below_drew (Below.refl _ _)))
 replace HT := zK (Sty.bel HT.out (below_drew (Below.refl _ _)))
 refine start_ (n := 8) (S := fun w' => w'.cell? ⟨gl, 0, none⟩ = some (.slice B0 tr.length b0) ∧ w'.cell? ⟨gl, 1, none⟩ = some (.int .i64 T) ∧ w'.cell? ⟨gl, 2, none⟩ = some (.slice B2 ch.length b2) ∧ w'.cell? ⟨gl, 3, none⟩ = some (.slice B3 wa.length b3)) (ds := [5]) (zv 8 0) (by kernel_rfl) rfl rfl ⟨(cells4 HG.out.1).1, (cells4 HG.out.1).2.1, (cells4 HG.out.1).2.2.1, (cells4 HG.out.1).2.2.2⟩ (fun hHeld => ?_)
 generalize w5.drew = w6 at HC HR HG HT hHeld ⊢
 refine zu 1 (some 18) (zv 8 2) (by kernel_rfl) ?_
 refine zu 2 (some 19) (zv 8 6) (by kernel_rfl) ?_
 refine zt 0 (some 17) (zv 8 7) (by kernel_rfl) hHeld ?_
 refine one_ (i := 3) (N := some 20) (zv 8 15) rfl rfl (by kernel_rfl) (by decide) (fun K hK => ?_)
 refine Kd.R_lit_step (Kd.int .i64) _ 3 ?hg (N := 20) ?hd (xs := ([50, 50, 50, 1, 2, 101, 0, (-1)] : List Int)) (inner := [.int .i64 50, .int .i64 50, .int .i64 50, .int .i64 1, .int .i64 2, .int .i64 101, .int .i64 0, .int .i64 (-1)]) (ok := fun _ => True) (okp := fun _ => True) ?hr ?hp (fun _ hk => hk) trivial (Below.refl _ _) (Nat.le_refl _) (by simp) ?_
 (case hd => rfl)
 (case hg => rfl)
 (case hr => first | (go_simp; done) | (go_simp; rfl))
 (case hp => exact (Reps.one (show Kd.M (Kd.int .i64) _ _ _ 50 [.int .i64 50] from rfl) (Reps.one (show Kd.M (Kd.int .i64) _ _ _ 50 [.int .i64 50] from rfl) (Reps.one (show Kd.M (Kd.int .i64) _ _ _ 50 [.int .i64 50] from rfl) (Reps.one (show Kd.M (Kd.int .i64) _ _ _ 1 [.int .i64 1] from rfl) (Reps.one (show Kd.M (Kd.int .i64) _ _ _ 2 [.int .i64 2] from rfl) (Reps.one (show Kd.M (Kd.int .i64) _ _ _ 101 [.int .i64 101] from rfl) (Reps.one (show Kd.M (Kd.int .i64) _ _ _ 0 [.int .i64 0] from rfl) (Reps.one (show Kd.M (Kd.int .i64) _ _ _ (-1) [.int .i64 (-1)] from rfl) (Reps.none _ _))))))))))
 intro vl w7 hl hb hg_ hnew_
 clear hg_ hnew_
 rw [← NL.out] at hl
 obtain ⟨Al, al, el⟩ := Kd.R_slice hl
 subst el
 replace HC := zK (HC.out.bel hb)
 replace HR := zK (Sty.bel HR.out hb)
 replace HG := zK (Sty.bel HG.out hb)
 replace HT := zK (Sty.bel HT.out hb)
 have HI := zK hl; clear hb hl
 refine hK.out _ _ ⟨(cells4 HG.out.1).1, (cells4 HG.out.1).2.1, (cells4 HG.out.1).2.2.1, (cells4 HG.out.1).2.2.2⟩ (fun hHeld => ?_)
 clear hK K
 refine norm_ (a' := ?_) ?_ ?_
 rotate_left
 ·show Act.put _ (some 20) _ = _
  simp only [Act.put, zp, zq, zr, i64_w, i32_w]
  rfl
 refine one_ (i := 4) (N := some 21) (zv 8 31) rfl rfl (by kernel_rfl) (by decide) (fun K hK => ?_)
 refine goes_ Try.func86 (by kernel_rfl) rfl #[.pointer (some ⟨g, 0, none⟩), .slice Al L.length al] (by rfl) rfl rfl (by simp only [List.map_toArray, List.map_cons, List.map_nil]; rfl) ?_
 with_reducible refine (spec_l01PickInt.calls g b i2 h2 Al al L x i3 h3 w _ HC.out.is HC.out.be (Kd.R_reads' HI.out).2.2 (Kd.R_reads' HI.out).2.1 (far_slice (IsS90.own_ne HC.out.is HI.out (by decide))) AA3.out).mono ?_
 rintro e w8 ⟨rfl, hi, hb, hk⟩
 refine ⟨_, rfl, ?_⟩
 replace HC := zK (HC.out.cur hi hb hk)
 replace HR := zK (Sty.keep HR.out hk)
 replace HG := zK (Sty.keep HG.out hk)
 replace HT := zK (Sty.keep HT.out hk)
 clear hi hb hk HI
 obtain ⟨hy0, hy1, hy2, hy3⟩ := cells4 HR.out.1
 have hf0 := blk_frozen HR.out.1 0; have hf1 := blk_frozen HR.out.1 1; have hf2 := blk_frozen HR.out.1 2; have hf3 := blk_frozen HR.out.1 3
 refine hK.out _ _ ⟨(cells4 HG.out.1).1, (cells4 HG.out.1).2.1, (cells4 HG.out.1).2.2.1, (cells4 HG.out.1).2.2.2⟩ (fun hHeld => ?_)
 clear hK K
 refine norm_ (a' := ?_) ?_ ?_
 rotate_left
 ·show Act.put _ (some 21) _ = _
  simp only [Act.put, zp, zq, zr, i64_w, i32_w]
  rfl
 refine last_ (i := 5) (N := none) (zv 8 63) rfl rfl (by kernel_rfl) (by decide) (fun K hK => ?_)
 refine skip_ (w1 := ?_) (by rfl) rfl ?_ ?_
 rotate_left
 ·go_simp
  rfl
 refine hK.out _ _ ?_
 clear hK K
 refine zu 6 (some 3) (zv 8 127) (by kernel_rfl) ?_
 refine zu 7 (some 4) (zv 8 255) (by kernel_rfl) ?_
 refine done_ (by kernel_rfl) ?_
 go_wp2
 refine bodyPost_ret (results_ctt rfl _ _ gr 28 #[_, _, _, _] (0, 0) _ rfl (blk_put4 HR.out.1 _ _ _ _) Try.underlying28 rfl (by kernel_rfl)) rfl ?_
 exact ⟨_, _, _, rfl, ⟨g, HT.out.put4 HR.out.1 _ _ _ _⟩, below_put4 HC.out.be GR.out _ _ _ _⟩
theorem LoopMem.box4 {base : Nat} {w : World} {PW : Nat → Prop} {v0 v2 v3 : Value} {tr : List Int} {ch : List S69} {wa : List S74} (h : LoopMem base w PW v0 tr v2 ch v3 wa) {g : Nat} {c0 c1 c2 c3 : Value} (hb : w.heap[g]? = some (.cells #[c0, c1, c2, c3] 28 (0, 0))) (u0 u1 u2 u3 : Value) : LoopMem base ((((w.setCell ⟨g, 0, none⟩ u0).setCell ⟨g, 1, none⟩ u1).setCell ⟨g, 2, none⟩ u2).setCell ⟨g, 3, none⟩ u3) PW v0 tr v2 ch v3 wa :=
 (((h.box hb 0 u0).box (blk_put hb 0 u0 rfl) 1 u1).box (blk_put (blk_put hb 0 u0 rfl) 1 u1 rfl) 2 u2).box (blk_put (blk_put (blk_put hb 0 u0 rfl) 1 u1 rfl) 2 u2 rfl) 3 u3
theorem blk_types {w : World} {g g2 : Nat} {c c2 : Array Value} {t t2 : Nat} (h : w.heap[g]? = some (.cells c t (0, 0))) (h2 : w.heap[g2]? = some (.cells c2 t2 (0, 0))) (hd : t ≠ t2) : g ≠ g2 := by
 rintro rfl
 rw [h] at h2
 injection h2 with h2
 injection h2 with _ h2
 exact hd h2
def impl_Induct.f (k : Nat) (a : List Int) (d : Int) (e : List (S69)) (f : List (S74)) (g : Int) (j : Int) : Option (List Int × Int × (List (S69)) × (List (S74)) × Bool) := (impl_copyLoop.f k a d e f).bind fun c => ((impl_TrayAt.f k a d e f g).bind fun i => (if i < 0 then (some (c.1, c.2.1, c.2.2.1, c.2.2.2, false)) else (if i < (a.length : Int) then (if rd a i = 0 then (if j < 1 then (some (c.1, c.2.1, c.2.2.1, c.2.2.2, false)) else ((impl_bagsOf.f k a d e f).bind fun b => ((slices_Contains_int_int.f k b j).bind fun h => (if h = true then (some (c.1, c.2.1, c.2.2.1, c.2.2.2, false)) else (if i < (c.1.length : Int) then (some (c.1.set i.toNat j, c.2.1, c.2.2.1, c.2.2.2, true)) else (none)))))) else (some (c.1, c.2.1, c.2.2.1, c.2.2.2, false))) else (none))))
set_option maxHeartbeats 16000000 in
set_option maxRecDepth 100000 in
theorem impl_Induct.calls2 (k : Nat) (aw : Option Addr) (ag : Nat) (aa : List Int) (a0_1 : Int) (ah : Option Addr) (ai : Nat) (ac : List (S69)) (aj : Option Addr) (ak : Nat) (ad : List (S74)) (a1 : Int) (a2 : Int) (r1 : List Int) (r2 : Int) (r3 : List (S69)) (r4 : List (S74)) (r5 : Bool) (w : World) (aM : Kd.C (Kd.int .i64) w aw aa.length aa) (hc0_0 : aa.length ≤ ag) (aN : Kd.C k69 w ah ac.length ac) (hc0_2 : ac.length ≤ ai) (aO : Kd.C k74 w aj ad.length ad) (hc0_3 : ad.length ≤ ak) (h : impl_Induct.f k aa a0_1 ac ad a1 a2 = some (r1, r2, r3, r4, r5)) :
 Calls Try.prog 47 #[.agg #[.slice aw aa.length ag, .int .i64 a0_1, .slice ah ac.length ai, .slice aj ad.length ak], .int .i64 a1, .int .i64 a2] w fun e w' => ∃ ax aP aQ : Value, e = .returned (.tuple #[.agg #[ax, .int .i64 r2, aP, aQ], .bool r5]) ∧ (∃ PW, LoopMem w.heap.size w' PW ax r1 aP r3 aQ r4) ∧ Below w.heap.size w w' := by
 have hu28 := Try.underlying28; have an := zK aM; have ap := zK hc0_0; have aq := zK aN; have ar := zK hc0_2; have au := zK aO; have av := zK hc0_3; clear aM hc0_0 aN hc0_2 aO hc0_3
 have HB := zK (Below.refl w.heap.size w)
 have H := h
 unfold impl_Induct.f at H
 clear h; replace H := Option.bind_eq_some_iff.mp H
 obtain ⟨⟨p0, pT, p2, p3⟩, A10, H⟩ := H
 have Ac := zK A10; replace H := Option.bind_eq_some_iff.mp H
 obtain ⟨i, A20, H⟩ := H
 have At := zK A20; clear A10 A20
 by_cases c1 : i < 0
 · rw [if_pos c1] at H
   have c1b : decide (i < 0) = true := decide_eq_true c1
   clear c1
   simp only [Option.some.injEq, Prod.mk.injEq] at H
   obtain ⟨rfl, rfl, rfl, rfl, rfl⟩ := H
   go_enter Try.func47, Try.ntmps47
   go_wp2_with (first
     | ((with_reducible refine gate_dst (N := 3) rfl ?_); refine zX 3 #[.slice aw aa.length ag, .int .i64 a0_1, .slice ah ac.length ai, .slice aj ad.length ak] 28 ?_; intro ga hg w1 hbox hb; replace HB := zK (below_step HB.out hb); have BKa := zK (hbox); clear hb hbox hg; obtain ⟨hzBKa0, hzBKa1, hzBKa2, hzBKa3⟩ := cells4 BKa.out)
     | ((with_reducible refine gate_dst (N := 6) rfl ?_); refine zX 6 #[.slice none 0 0, .int .i64 0, .slice none 0 0, .slice none 0 0] 28 ?_; intro gr hg w2 hbox hb; have ab := zK (below_step HB.out hb); have ae := zK (blk_below BKa.out hb); have m0_ := zK (hbox); have GER := zK (show w.heap.size ≤ gr from by rw [hg]; exact HB.out.size); clear HB BKa hzBKa0 hzBKa1 hzBKa2 hzBKa3; have HB := ab; have BKa := ae; have BKr := m0_; clear ab ae m0_; clear hb hbox hg; obtain ⟨hzBKa0, hzBKa1, hzBKa2, hzBKa3⟩ := cells4 BKa.out; obtain ⟨hzBKr0, hzBKr1, hzBKr2, hzBKr3⟩ := cells4 BKr.out)
     | ((with_reducible refine gate_callee (f := 53) rfl ?_); refine goesL_ (some 11) rfl rfl Try.func53 (by kernel_rfl) rfl #[.agg #[.slice aw aa.length ag, .int .i64 a0_1, .slice ah ac.length ai, .slice aj ad.length ak]] rfl zg ?_; (with_reducible refine (impl_copyLoop.calls2 k _ _ aa a0_1 _ _ ac _ _ ad p0 pT p2 p3 _ (Kd.C_below an.out HB.out) ap.out (Kd.C_below aq.out HB.out) ar.out (Kd.C_below au.out HB.out) av.out Ac.out).mono ?_); rintro e w3 ⟨ax, aP, aQ, N_, rfl, ho0_, ho2_, ho3_, hN_, hb⟩; refine ⟨_, rfl, ?_⟩; obtain ⟨PW, hL_⟩ := LoopMem.mk (Kd.R_lower ho0_ HB.out.size) (Kd.S_lower ho2_ HB.out.size) ho3_ (Nat.le_trans HB.out.size hN_); obtain ⟨P0, p0k, P2, p2k, P3, p3k, ao, ay, az, _, _, _, _, _, _⟩ := hL_.reads; subst ao; subst ay; subst az; replace HB := zK (below_step HB.out hb); replace BKa := zK (blk_below BKa.out hb); replace BKr := zK (blk_below BKr.out hb); have HL := zK (hL_); clear hzBKa0 hzBKa1 hzBKa2 hzBKa3 hzBKr0 hzBKr1 hzBKr2 hzBKr3; clear hb hL_ ho0_ ho2_ ho3_ hN_; obtain ⟨hzBKa0, hzBKa1, hzBKa2, hzBKa3⟩ := cells4 BKa.out; obtain ⟨hzBKr0, hzBKr1, hzBKr2, hzBKr3⟩ := cells4 BKr.out)
     | ((with_reducible refine gate_dst (N := 8) rfl ?_); refine zX 8 #[.slice none 0 0, .int .i64 0, .slice none 0 0, .slice none 0 0] 28 ?_; intro go hg w4 hbox hb; have aA : w4.cell? ⟨go, 0, none⟩ = some (.slice none 0 0) := (blk_cell hbox 0).trans rfl; have aB : w4.cell? ⟨go, 1, none⟩ = some (.int .i64 0) := (blk_cell hbox 1).trans rfl; have aC : w4.cell? ⟨go, 2, none⟩ = some (.slice none 0 0) := (blk_cell hbox 2).trans rfl; have aD : w4.cell? ⟨go, 3, none⟩ = some (.slice none 0 0) := (blk_cell hbox 3).trans rfl; have aE := blk_frozen hbox 0; have aF := blk_frozen hbox 1; have aG := blk_frozen hbox 2; have aH := blk_frozen hbox 3; replace HB := zK (below_put4 (below_step HB.out hb) (show w.heap.size ≤ go from by rw [hg]; exact HB.out.size) (.slice P0 p0.length p0k) (.int .i64 pT) (.slice P2 p2.length p2k) (.slice P3 p3.length p3k)); replace BKa := zK (blk_far4 (blk_below BKa.out hb) (show ga ≠ go from by rw [hg]; exact Nat.ne_of_lt (blk_lt BKa.out)) (.slice P0 p0.length p0k) (.int .i64 pT) (.slice P2 p2.length p2k) (.slice P3 p3.length p3k)); replace BKr := zK (blk_far4 (blk_below BKr.out hb) (show gr ≠ go from by rw [hg]; exact Nat.ne_of_lt (blk_lt BKr.out)) (.slice P0 p0.length p0k) (.int .i64 pT) (.slice P2 p2.length p2k) (.slice P3 p3.length p3k)); replace HL := zK ((HL.out.below hb).box4 hbox (.slice P0 p0.length p0k) (.int .i64 pT) (.slice P2 p2.length p2k) (.slice P3 p3.length p3k)); have BKo := zK (blk_put4 hbox (.slice P0 p0.length p0k) (.int .i64 pT) (.slice P2 p2.length p2k) (.slice P3 p3.length p3k)); clear hzBKa0 hzBKa1 hzBKa2 hzBKa3 hzBKr0 hzBKr1 hzBKr2 hzBKr3; clear hb hbox hg; obtain ⟨hzBKa0, hzBKa1, hzBKa2, hzBKa3⟩ := cells4 BKa.out; obtain ⟨hzBKr0, hzBKr1, hzBKr2, hzBKr3⟩ := cells4 BKr.out; obtain ⟨hzBKo0, hzBKo1, hzBKo2, hzBKo3⟩ := cells4 BKo.out)
     | ((with_reducible refine gate_callee (f := 35) rfl ?_); refine goesL_ (some 14) rfl rfl Try.func35 (by kernel_rfl) rfl #[.agg #[.slice aw aa.length ag, .int .i64 a0_1, .slice ah ac.length ai, .slice aj ad.length ak], .int .i64 a1] rfl zg ?_; (with_reducible refine (impl_TrayAt.calls k _ _ aa a0_1 _ _ ac _ _ ad a1 i _ (Kd.C_below an.out HB.out) ap.out (Kd.C_below aq.out HB.out) ar.out (Kd.C_below au.out HB.out) av.out At.out).mono ?_); rintro e w5 ⟨rfl, hb⟩; refine ⟨_, rfl, ?_⟩; replace HB := zK (below_step HB.out hb); replace BKa := zK (blk_below BKa.out hb); replace BKr := zK (blk_below BKr.out hb); replace HL := zK (HL.out.below hb); replace BKo := zK (blk_below BKo.out hb); clear hzBKa0 hzBKa1 hzBKa2 hzBKa3 hzBKr0 hzBKr1 hzBKr2 hzBKr3 hzBKo0 hzBKo1 hzBKo2 hzBKo3 aA aB aC aD aE aF aG aH; clear hb; obtain ⟨hzBKa0, hzBKa1, hzBKa2, hzBKa3⟩ := cells4 BKa.out; obtain ⟨hzBKr0, hzBKr1, hzBKr2, hzBKr3⟩ := cells4 BKr.out; obtain ⟨hzBKo0, hzBKo1, hzBKo2, hzBKo3⟩ := cells4 BKo.out; obtain ⟨aI, aJ, aK, aL⟩ := zF4 BKr)
     )
   refine bodyPost_ret (results_ct rfl _ _ gr 28 #[.slice P0 p0.length p0k, .int .i64 pT, .slice P2 p2.length p2k, .slice P3 p3.length p3k] (0, 0) _ rfl (blk_put4 BKr.out (.slice P0 p0.length p0k) (.int .i64 pT) (.slice P2 p2.length p2k) (.slice P3 p3.length p3k)) Try.underlying28 rfl (by kernel_rfl)) rfl ?_
   exact ⟨_, _, _, rfl, ⟨PW, HL.out.box4 BKr.out (.slice P0 p0.length p0k) (.int .i64 pT) (.slice P2 p2.length p2k) (.slice P3 p3.length p3k)⟩, below_put4 HB.out GER.out (.slice P0 p0.length p0k) (.int .i64 pT) (.slice P2 p2.length p2k) (.slice P3 p3.length p3k)⟩
 · rw [if_neg c1] at H
   have c1b : decide (i < 0) = false := decide_eq_false c1
   have ci : 0 ≤ i := by omega
   clear c1
   by_cases cj : i < (aa.length : Int)
   · rw [if_pos cj] at H
     by_cases c2 : rd aa i = 0
     · rw [if_pos c2] at H
       have c2a : (rd aa i == 0) = true := beq_iff_eq.mpr c2
       have c2b : (rd aa i != 0) = false := by rw [bne, c2a]; rfl
       clear c2
       by_cases c3 : a2 < 1
       · rw [if_pos c3] at H
         have c3b : decide (a2 < 1) = true := decide_eq_true c3
         clear c3
         simp only [Option.some.injEq, Prod.mk.injEq] at H
         obtain ⟨rfl, rfl, rfl, rfl, rfl⟩ := H
         obtain ⟨adp, ep, hxp⟩ := Kd.at_int an.out i ci cj
         cases ep
         have XP := zK hxp; have pi := eq_true ci
         have qi : (i < ((aa.length : Nat) : Int)) = True := eq_true cj
         clear hxp
         go_enter Try.func47, Try.ntmps47
         go_wp2_with (first
           | ((with_reducible refine gate_dst (N := 3) rfl ?_); refine zX 3 #[.slice (some adp) aa.length ag, .int .i64 a0_1, .slice ah ac.length ai, .slice aj ad.length ak] 28 ?_; intro ga hg w1 hbox hb; replace HB := zK (below_step HB.out hb); have BKa := zK (hbox); clear hb hbox hg; obtain ⟨hzBKa0, hzBKa1, hzBKa2, hzBKa3⟩ := cells4 BKa.out)
           | ((with_reducible refine gate_dst (N := 6) rfl ?_); refine zX 6 #[.slice none 0 0, .int .i64 0, .slice none 0 0, .slice none 0 0] 28 ?_; intro gr hg w2 hbox hb; have ab := zK (below_step HB.out hb); have ae := zK (blk_below BKa.out hb); have m0_ := zK (hbox); have GER := zK (show w.heap.size ≤ gr from by rw [hg]; exact HB.out.size); clear HB BKa hzBKa0 hzBKa1 hzBKa2 hzBKa3; have HB := ab; have BKa := ae; have BKr := m0_; clear ab ae m0_; clear hb hbox hg; obtain ⟨hzBKa0, hzBKa1, hzBKa2, hzBKa3⟩ := cells4 BKa.out; obtain ⟨hzBKr0, hzBKr1, hzBKr2, hzBKr3⟩ := cells4 BKr.out)
           | ((with_reducible refine gate_callee (f := 53) rfl ?_); refine goesL_ (some 11) rfl rfl Try.func53 (by kernel_rfl) rfl #[.agg #[.slice (some adp) aa.length ag, .int .i64 a0_1, .slice ah ac.length ai, .slice aj ad.length ak]] rfl zg ?_; (with_reducible refine (impl_copyLoop.calls2 k _ _ aa a0_1 _ _ ac _ _ ad p0 pT p2 p3 _ (Kd.C_below an.out HB.out) ap.out (Kd.C_below aq.out HB.out) ar.out (Kd.C_below au.out HB.out) av.out Ac.out).mono ?_); rintro e w3 ⟨ax, aP, aQ, N_, rfl, ho0_, ho2_, ho3_, hN_, hb⟩; refine ⟨_, rfl, ?_⟩; obtain ⟨PW, hL_⟩ := LoopMem.mk (Kd.R_lower ho0_ HB.out.size) (Kd.S_lower ho2_ HB.out.size) ho3_ (Nat.le_trans HB.out.size hN_); obtain ⟨P0, p0k, P2, p2k, P3, p3k, ao, ay, az, _, _, _, _, _, _⟩ := hL_.reads; subst ao; subst ay; subst az; replace HB := zK (below_step HB.out hb); replace BKa := zK (blk_below BKa.out hb); replace BKr := zK (blk_below BKr.out hb); have HL := zK (hL_); clear hzBKa0 hzBKa1 hzBKa2 hzBKa3 hzBKr0 hzBKr1 hzBKr2 hzBKr3; clear hb hL_ ho0_ ho2_ ho3_ hN_; obtain ⟨hzBKa0, hzBKa1, hzBKa2, hzBKa3⟩ := cells4 BKa.out; obtain ⟨hzBKr0, hzBKr1, hzBKr2, hzBKr3⟩ := cells4 BKr.out)
           | ((with_reducible refine gate_dst (N := 8) rfl ?_); refine zX 8 #[.slice none 0 0, .int .i64 0, .slice none 0 0, .slice none 0 0] 28 ?_; intro go hg w4 hbox hb; have aA : w4.cell? ⟨go, 0, none⟩ = some (.slice none 0 0) := (blk_cell hbox 0).trans rfl; have aB : w4.cell? ⟨go, 1, none⟩ = some (.int .i64 0) := (blk_cell hbox 1).trans rfl; have aC : w4.cell? ⟨go, 2, none⟩ = some (.slice none 0 0) := (blk_cell hbox 2).trans rfl; have aD : w4.cell? ⟨go, 3, none⟩ = some (.slice none 0 0) := (blk_cell hbox 3).trans rfl; have aE := blk_frozen hbox 0; have aF := blk_frozen hbox 1; have aG := blk_frozen hbox 2; have aH := blk_frozen hbox 3; replace HB := zK (below_put4 (below_step HB.out hb) (show w.heap.size ≤ go from by rw [hg]; exact HB.out.size) (.slice P0 p0.length p0k) (.int .i64 pT) (.slice P2 p2.length p2k) (.slice P3 p3.length p3k)); replace BKa := zK (blk_far4 (blk_below BKa.out hb) (show ga ≠ go from by rw [hg]; exact Nat.ne_of_lt (blk_lt BKa.out)) (.slice P0 p0.length p0k) (.int .i64 pT) (.slice P2 p2.length p2k) (.slice P3 p3.length p3k)); replace BKr := zK (blk_far4 (blk_below BKr.out hb) (show gr ≠ go from by rw [hg]; exact Nat.ne_of_lt (blk_lt BKr.out)) (.slice P0 p0.length p0k) (.int .i64 pT) (.slice P2 p2.length p2k) (.slice P3 p3.length p3k)); replace HL := zK ((HL.out.below hb).box4 hbox (.slice P0 p0.length p0k) (.int .i64 pT) (.slice P2 p2.length p2k) (.slice P3 p3.length p3k)); have BKo := zK (blk_put4 hbox (.slice P0 p0.length p0k) (.int .i64 pT) (.slice P2 p2.length p2k) (.slice P3 p3.length p3k)); clear hzBKa0 hzBKa1 hzBKa2 hzBKa3 hzBKr0 hzBKr1 hzBKr2 hzBKr3; clear hb hbox hg; obtain ⟨hzBKa0, hzBKa1, hzBKa2, hzBKa3⟩ := cells4 BKa.out; obtain ⟨hzBKr0, hzBKr1, hzBKr2, hzBKr3⟩ := cells4 BKr.out; obtain ⟨hzBKo0, hzBKo1, hzBKo2, hzBKo3⟩ := cells4 BKo.out)
           | ((with_reducible refine gate_callee (f := 35) rfl ?_); refine goesL_ (some 14) rfl rfl Try.func35 (by kernel_rfl) rfl #[.agg #[.slice (some adp) aa.length ag, .int .i64 a0_1, .slice ah ac.length ai, .slice aj ad.length ak], .int .i64 a1] rfl zg ?_; (with_reducible refine (impl_TrayAt.calls k _ _ aa a0_1 _ _ ac _ _ ad a1 i _ (Kd.C_below an.out HB.out) ap.out (Kd.C_below aq.out HB.out) ar.out (Kd.C_below au.out HB.out) av.out At.out).mono ?_); rintro e w5 ⟨rfl, hb⟩; refine ⟨_, rfl, ?_⟩; replace HB := zK (below_step HB.out hb); replace BKa := zK (blk_below BKa.out hb); replace BKr := zK (blk_below BKr.out hb); replace HL := zK (HL.out.below hb); replace BKo := zK (blk_below BKo.out hb); clear hzBKa0 hzBKa1 hzBKa2 hzBKa3 hzBKr0 hzBKr1 hzBKr2 hzBKr3 hzBKo0 hzBKo1 hzBKo2 hzBKo3 aA aB aC aD aE aF aG aH; clear hb; obtain ⟨hzBKa0, hzBKa1, hzBKa2, hzBKa3⟩ := cells4 BKa.out; obtain ⟨hzBKr0, hzBKr1, hzBKr2, hzBKr3⟩ := cells4 BKr.out; obtain ⟨hzBKo0, hzBKo1, hzBKo2, hzBKo3⟩ := cells4 BKo.out; have hxq := (HB.out.cell (World.block_lt_of_cell? w _ XP.out)).trans XP.out; obtain ⟨aI, aJ, aK, aL⟩ := zF4 BKr)
           )
         refine bodyPost_ret (results_ct rfl _ _ gr 28 #[.slice P0 p0.length p0k, .int .i64 pT, .slice P2 p2.length p2k, .slice P3 p3.length p3k] (0, 0) _ rfl (blk_put4 BKr.out (.slice P0 p0.length p0k) (.int .i64 pT) (.slice P2 p2.length p2k) (.slice P3 p3.length p3k)) Try.underlying28 rfl (by kernel_rfl)) rfl ?_
         exact ⟨_, _, _, rfl, ⟨PW, HL.out.box4 BKr.out (.slice P0 p0.length p0k) (.int .i64 pT) (.slice P2 p2.length p2k) (.slice P3 p3.length p3k)⟩, below_put4 HB.out GER.out (.slice P0 p0.length p0k) (.int .i64 pT) (.slice P2 p2.length p2k) (.slice P3 p3.length p3k)⟩
       · rw [if_neg c3] at H
         have c3b : decide (a2 < 1) = false := decide_eq_false c3
         clear c3; replace H := Option.bind_eq_some_iff.mp H
         obtain ⟨bs, A30, H⟩ := H
         have Ab := zK A30; replace H := Option.bind_eq_some_iff.mp H
         obtain ⟨hs, A40, H⟩ := H
         have Ah := zK A40; clear A30 A40
         cases hs with
         | true =>
           rw [if_pos rfl] at H
           simp only [Option.some.injEq, Prod.mk.injEq] at H
           obtain ⟨rfl, rfl, rfl, rfl, rfl⟩ := H
           obtain ⟨adp, ep, hxp⟩ := Kd.at_int an.out i ci cj
           cases ep
           have XP := zK hxp; have pi := eq_true ci
           have qi : (i < ((aa.length : Nat) : Int)) = True := eq_true cj
           clear hxp
           go_enter Try.func47, Try.ntmps47
           go_wp2_with (first
             | ((with_reducible refine gate_dst (N := 3) rfl ?_); refine zX 3 #[.slice (some adp) aa.length ag, .int .i64 a0_1, .slice ah ac.length ai, .slice aj ad.length ak] 28 ?_; intro ga hg w1 hbox hb; replace HB := zK (below_step HB.out hb); have BKa := zK (hbox); clear hb hbox hg; obtain ⟨hzBKa0, hzBKa1, hzBKa2, hzBKa3⟩ := cells4 BKa.out)
             | ((with_reducible refine gate_dst (N := 6) rfl ?_); refine zX 6 #[.slice none 0 0, .int .i64 0, .slice none 0 0, .slice none 0 0] 28 ?_; intro gr hg w2 hbox hb; have ab := zK (below_step HB.out hb); have ae := zK (blk_below BKa.out hb); have m0_ := zK (hbox); have GER := zK (show w.heap.size ≤ gr from by rw [hg]; exact HB.out.size); clear HB BKa hzBKa0 hzBKa1 hzBKa2 hzBKa3; have HB := ab; have BKa := ae; have BKr := m0_; clear ab ae m0_; clear hb hbox hg; obtain ⟨hzBKa0, hzBKa1, hzBKa2, hzBKa3⟩ := cells4 BKa.out; obtain ⟨hzBKr0, hzBKr1, hzBKr2, hzBKr3⟩ := cells4 BKr.out)
             | ((with_reducible refine gate_callee (f := 53) rfl ?_); refine goesL_ (some 11) rfl rfl Try.func53 (by kernel_rfl) rfl #[.agg #[.slice (some adp) aa.length ag, .int .i64 a0_1, .slice ah ac.length ai, .slice aj ad.length ak]] rfl zg ?_; (with_reducible refine (impl_copyLoop.calls2 k _ _ aa a0_1 _ _ ac _ _ ad p0 pT p2 p3 _ (Kd.C_below an.out HB.out) ap.out (Kd.C_below aq.out HB.out) ar.out (Kd.C_below au.out HB.out) av.out Ac.out).mono ?_); rintro e w3 ⟨ax, aP, aQ, N_, rfl, ho0_, ho2_, ho3_, hN_, hb⟩; refine ⟨_, rfl, ?_⟩; obtain ⟨PW, hL_⟩ := LoopMem.mk (Kd.R_lower ho0_ HB.out.size) (Kd.S_lower ho2_ HB.out.size) ho3_ (Nat.le_trans HB.out.size hN_); obtain ⟨P0, p0k, P2, p2k, P3, p3k, ao, ay, az, _, _, _, _, _, _⟩ := hL_.reads; subst ao; subst ay; subst az; replace HB := zK (below_step HB.out hb); replace BKa := zK (blk_below BKa.out hb); replace BKr := zK (blk_below BKr.out hb); have HL := zK (hL_); clear hzBKa0 hzBKa1 hzBKa2 hzBKa3 hzBKr0 hzBKr1 hzBKr2 hzBKr3; clear hb hL_ ho0_ ho2_ ho3_ hN_; obtain ⟨hzBKa0, hzBKa1, hzBKa2, hzBKa3⟩ := cells4 BKa.out; obtain ⟨hzBKr0, hzBKr1, hzBKr2, hzBKr3⟩ := cells4 BKr.out)
             | ((with_reducible refine gate_dst (N := 8) rfl ?_); refine zX 8 #[.slice none 0 0, .int .i64 0, .slice none 0 0, .slice none 0 0] 28 ?_; intro go hg w4 hbox hb; have aA : w4.cell? ⟨go, 0, none⟩ = some (.slice none 0 0) := (blk_cell hbox 0).trans rfl; have aB : w4.cell? ⟨go, 1, none⟩ = some (.int .i64 0) := (blk_cell hbox 1).trans rfl; have aC : w4.cell? ⟨go, 2, none⟩ = some (.slice none 0 0) := (blk_cell hbox 2).trans rfl; have aD : w4.cell? ⟨go, 3, none⟩ = some (.slice none 0 0) := (blk_cell hbox 3).trans rfl; have aE := blk_frozen hbox 0; have aF := blk_frozen hbox 1; have aG := blk_frozen hbox 2; have aH := blk_frozen hbox 3; replace HB := zK (below_put4 (below_step HB.out hb) (show w.heap.size ≤ go from by rw [hg]; exact HB.out.size) (.slice P0 p0.length p0k) (.int .i64 pT) (.slice P2 p2.length p2k) (.slice P3 p3.length p3k)); replace BKa := zK (blk_far4 (blk_below BKa.out hb) (show ga ≠ go from by rw [hg]; exact Nat.ne_of_lt (blk_lt BKa.out)) (.slice P0 p0.length p0k) (.int .i64 pT) (.slice P2 p2.length p2k) (.slice P3 p3.length p3k)); replace BKr := zK (blk_far4 (blk_below BKr.out hb) (show gr ≠ go from by rw [hg]; exact Nat.ne_of_lt (blk_lt BKr.out)) (.slice P0 p0.length p0k) (.int .i64 pT) (.slice P2 p2.length p2k) (.slice P3 p3.length p3k)); replace HL := zK ((HL.out.below hb).box4 hbox (.slice P0 p0.length p0k) (.int .i64 pT) (.slice P2 p2.length p2k) (.slice P3 p3.length p3k)); have BKo := zK (blk_put4 hbox (.slice P0 p0.length p0k) (.int .i64 pT) (.slice P2 p2.length p2k) (.slice P3 p3.length p3k)); clear hzBKa0 hzBKa1 hzBKa2 hzBKa3 hzBKr0 hzBKr1 hzBKr2 hzBKr3; clear hb hbox hg; obtain ⟨hzBKa0, hzBKa1, hzBKa2, hzBKa3⟩ := cells4 BKa.out; obtain ⟨hzBKr0, hzBKr1, hzBKr2, hzBKr3⟩ := cells4 BKr.out; obtain ⟨hzBKo0, hzBKo1, hzBKo2, hzBKo3⟩ := cells4 BKo.out)
             | ((with_reducible refine gate_callee (f := 35) rfl ?_); refine goesL_ (some 14) rfl rfl Try.func35 (by kernel_rfl) rfl #[.agg #[.slice (some adp) aa.length ag, .int .i64 a0_1, .slice ah ac.length ai, .slice aj ad.length ak], .int .i64 a1] rfl zg ?_; (with_reducible refine (impl_TrayAt.calls k _ _ aa a0_1 _ _ ac _ _ ad a1 i _ (Kd.C_below an.out HB.out) ap.out (Kd.C_below aq.out HB.out) ar.out (Kd.C_below au.out HB.out) av.out At.out).mono ?_); rintro e w5 ⟨rfl, hb⟩; refine ⟨_, rfl, ?_⟩; replace HB := zK (below_step HB.out hb); replace BKa := zK (blk_below BKa.out hb); replace BKr := zK (blk_below BKr.out hb); replace HL := zK (HL.out.below hb); replace BKo := zK (blk_below BKo.out hb); clear hzBKa0 hzBKa1 hzBKa2 hzBKa3 hzBKr0 hzBKr1 hzBKr2 hzBKr3 hzBKo0 hzBKo1 hzBKo2 hzBKo3 aA aB aC aD aE aF aG aH; clear hb; obtain ⟨hzBKa0, hzBKa1, hzBKa2, hzBKa3⟩ := cells4 BKa.out; obtain ⟨hzBKr0, hzBKr1, hzBKr2, hzBKr3⟩ := cells4 BKr.out; obtain ⟨hzBKo0, hzBKo1, hzBKo2, hzBKo3⟩ := cells4 BKo.out; have hxq := (HB.out.cell (World.block_lt_of_cell? w _ XP.out)).trans XP.out)
             | ((with_reducible refine gate_callee (f := 64) rfl ?_); (try (refine gate_guard (by rfl) ?_; dsimp only)); refine goesL_ (some 31) rfl rfl Try.func64 (by kernel_rfl) rfl #[.agg #[.slice (some adp) aa.length ag, .int .i64 a0_1, .slice ah ac.length ai, .slice aj ad.length ak]] rfl zg ?_; (with_reducible refine (impl_bagsOf.calls k _ _ aa a0_1 _ _ ac _ _ ad bs _ (Kd.C_below an.out HB.out) ap.out (Kd.C_below aq.out HB.out) ar.out (Kd.C_below au.out HB.out) av.out Ab.out).mono ?_); rintro e w6 ⟨ax, rfl, ho0_, hb⟩; refine ⟨_, rfl, ?_⟩; obtain ⟨Q0, q0k, ao, aR, aS⟩ := Kd.R_reads ho0_; subst ao; have RQ := zK (And.intro aR aS); replace HB := zK (below_step HB.out hb); replace BKa := zK (blk_below BKa.out hb); replace BKr := zK (blk_below BKr.out hb); replace HL := zK (HL.out.below hb); replace BKo := zK (blk_below BKo.out hb); clear hzBKa0 hzBKa1 hzBKa2 hzBKa3 hzBKr0 hzBKr1 hzBKr2 hzBKr3 hzBKo0 hzBKo1 hzBKo2 hzBKo3; clear hb ho0_ aR aS hxq; obtain ⟨hzBKa0, hzBKa1, hzBKa2, hzBKa3⟩ := cells4 BKa.out; obtain ⟨hzBKr0, hzBKr1, hzBKr2, hzBKr3⟩ := cells4 BKr.out; obtain ⟨hzBKo0, hzBKo1, hzBKo2, hzBKo3⟩ := cells4 BKo.out)
             | ((with_reducible refine gate_callee (f := 52) rfl ?_); (try (refine gate_guard (by rfl) ?_; dsimp only)); refine goesL_ (some 33) rfl rfl Try.func52 (by kernel_rfl) rfl #[.slice Q0 bs.length q0k, .int .i64 a2] rfl zg ?_; (with_reducible refine (slices_Contains_int_int.calls k _ _ bs a2 true _ RQ.out.2 RQ.out.1 Ah.out).mono ?_); rintro e w7 ⟨rfl, hd_⟩; refine ⟨_, rfl, ?_⟩; have hb := hd_.below; clear hd_ RQ; replace HB := zK (below_step HB.out hb); replace BKa := zK (blk_below BKa.out hb); replace BKr := zK (blk_below BKr.out hb); replace HL := zK (HL.out.below hb); replace BKo := zK (blk_below BKo.out hb); clear hzBKa0 hzBKa1 hzBKa2 hzBKa3 hzBKr0 hzBKr1 hzBKr2 hzBKr3 hzBKo0 hzBKo1 hzBKo2 hzBKo3; clear hb; obtain ⟨hzBKa0, hzBKa1, hzBKa2, hzBKa3⟩ := cells4 BKa.out; obtain ⟨hzBKr0, hzBKr1, hzBKr2, hzBKr3⟩ := cells4 BKr.out; obtain ⟨hzBKo0, hzBKo1, hzBKo2, hzBKo3⟩ := cells4 BKo.out; obtain ⟨aI, aJ, aK, aL⟩ := zF4 BKr)
             )
           refine bodyPost_ret (results_ct rfl _ _ gr 28 #[.slice P0 p0.length p0k, .int .i64 pT, .slice P2 p2.length p2k, .slice P3 p3.length p3k] (0, 0) _ rfl (blk_put4 BKr.out (.slice P0 p0.length p0k) (.int .i64 pT) (.slice P2 p2.length p2k) (.slice P3 p3.length p3k)) Try.underlying28 rfl (by kernel_rfl)) rfl ?_
           exact ⟨_, _, _, rfl, ⟨PW, HL.out.box4 BKr.out (.slice P0 p0.length p0k) (.int .i64 pT) (.slice P2 p2.length p2k) (.slice P3 p3.length p3k)⟩, below_put4 HB.out GER.out (.slice P0 p0.length p0k) (.int .i64 pT) (.slice P2 p2.length p2k) (.slice P3 p3.length p3k)⟩
         | false =>
           rw [if_neg (by simp)] at H
           by_cases ck : i < (p0.length : Int)
           · rw [if_pos ck] at H
             simp only [Option.some.injEq, Prod.mk.injEq] at H
             obtain ⟨rfl, rfl, rfl, rfl, rfl⟩ := H
             obtain ⟨adp, ep, hxp⟩ := Kd.at_int an.out i ci cj
             cases ep
             have XP := zK hxp; have pi := eq_true ci
             have qi : (i < ((aa.length : Nat) : Int)) = True := eq_true cj
             clear hxp
             go_enter Try.func47, Try.ntmps47
             go_wp2_with (first
               | ((with_reducible refine gate_dst (N := 3) rfl ?_); refine zX 3 #[.slice (some adp) aa.length ag, .int .i64 a0_1, .slice ah ac.length ai, .slice aj ad.length ak] 28 ?_; intro ga hg w1 hbox hb; replace HB := zK (below_step HB.out hb); have BKa := zK (hbox); clear hb hbox hg; obtain ⟨hzBKa0, hzBKa1, hzBKa2, hzBKa3⟩ := cells4 BKa.out)
               | ((with_reducible refine gate_dst (N := 6) rfl ?_); refine zX 6 #[.slice none 0 0, .int .i64 0, .slice none 0 0, .slice none 0 0] 28 ?_; intro gr hg w2 hbox hb; have ab := zK (below_step HB.out hb); have ae := zK (blk_below BKa.out hb); have m0_ := zK (hbox); have GER := zK (show w.heap.size ≤ gr from by rw [hg]; exact HB.out.size); clear HB BKa hzBKa0 hzBKa1 hzBKa2 hzBKa3; have HB := ab; have BKa := ae; have BKr := m0_; clear ab ae m0_; clear hb hbox hg; obtain ⟨hzBKa0, hzBKa1, hzBKa2, hzBKa3⟩ := cells4 BKa.out; obtain ⟨hzBKr0, hzBKr1, hzBKr2, hzBKr3⟩ := cells4 BKr.out)
               | ((with_reducible refine gate_callee (f := 53) rfl ?_); refine goesL_ (some 11) rfl rfl Try.func53 (by kernel_rfl) rfl #[.agg #[.slice (some adp) aa.length ag, .int .i64 a0_1, .slice ah ac.length ai, .slice aj ad.length ak]] rfl zg ?_; (with_reducible refine (impl_copyLoop.calls2 k _ _ aa a0_1 _ _ ac _ _ ad p0 pT p2 p3 _ (Kd.C_below an.out HB.out) ap.out (Kd.C_below aq.out HB.out) ar.out (Kd.C_below au.out HB.out) av.out Ac.out).mono ?_); rintro e w3 ⟨ax, aP, aQ, N_, rfl, ho0_, ho2_, ho3_, hN_, hb⟩; refine ⟨_, rfl, ?_⟩; obtain ⟨PW, hL_⟩ := LoopMem.mk (Kd.R_lower ho0_ HB.out.size) (Kd.S_lower ho2_ HB.out.size) ho3_ (Nat.le_trans HB.out.size hN_); obtain ⟨P0, p0k, P2, p2k, P3, p3k, ao, ay, az, _, _, _, _, _, _⟩ := hL_.reads; subst ao; subst ay; subst az; obtain ⟨gT, eT_, _, _, _, _, _⟩ := hL_.tray i ci ck a2; cases eT_; replace HB := zK (below_step HB.out hb); replace BKa := zK (blk_below BKa.out hb); replace BKr := zK (blk_below BKr.out hb); have HL := zK (hL_); clear hzBKa0 hzBKa1 hzBKa2 hzBKa3 hzBKr0 hzBKr1 hzBKr2 hzBKr3; clear hb hL_ ho0_ ho2_ ho3_ hN_; obtain ⟨hzBKa0, hzBKa1, hzBKa2, hzBKa3⟩ := cells4 BKa.out; obtain ⟨hzBKr0, hzBKr1, hzBKr2, hzBKr3⟩ := cells4 BKr.out)
               | ((with_reducible refine gate_dst (N := 8) rfl ?_); refine zX 8 #[.slice none 0 0, .int .i64 0, .slice none 0 0, .slice none 0 0] 28 ?_; intro go hg w4 hbox hb; have aA : w4.cell? ⟨go, 0, none⟩ = some (.slice none 0 0) := (blk_cell hbox 0).trans rfl; have aB : w4.cell? ⟨go, 1, none⟩ = some (.int .i64 0) := (blk_cell hbox 1).trans rfl; have aC : w4.cell? ⟨go, 2, none⟩ = some (.slice none 0 0) := (blk_cell hbox 2).trans rfl; have aD : w4.cell? ⟨go, 3, none⟩ = some (.slice none 0 0) := (blk_cell hbox 3).trans rfl; have aE := blk_frozen hbox 0; have aF := blk_frozen hbox 1; have aG := blk_frozen hbox 2; have aH := blk_frozen hbox 3; replace HB := zK (below_put4 (below_step HB.out hb) (show w.heap.size ≤ go from by rw [hg]; exact HB.out.size) (.slice (some ⟨gT, 0, none⟩) p0.length p0k) (.int .i64 pT) (.slice P2 p2.length p2k) (.slice P3 p3.length p3k)); replace BKa := zK (blk_far4 (blk_below BKa.out hb) (show ga ≠ go from by rw [hg]; exact Nat.ne_of_lt (blk_lt BKa.out)) (.slice (some ⟨gT, 0, none⟩) p0.length p0k) (.int .i64 pT) (.slice P2 p2.length p2k) (.slice P3 p3.length p3k)); replace BKr := zK (blk_far4 (blk_below BKr.out hb) (show gr ≠ go from by rw [hg]; exact Nat.ne_of_lt (blk_lt BKr.out)) (.slice (some ⟨gT, 0, none⟩) p0.length p0k) (.int .i64 pT) (.slice P2 p2.length p2k) (.slice P3 p3.length p3k)); replace HL := zK ((HL.out.below hb).box4 hbox (.slice (some ⟨gT, 0, none⟩) p0.length p0k) (.int .i64 pT) (.slice P2 p2.length p2k) (.slice P3 p3.length p3k)); have BKo := zK (blk_put4 hbox (.slice (some ⟨gT, 0, none⟩) p0.length p0k) (.int .i64 pT) (.slice P2 p2.length p2k) (.slice P3 p3.length p3k)); clear hzBKa0 hzBKa1 hzBKa2 hzBKa3 hzBKr0 hzBKr1 hzBKr2 hzBKr3; clear hb hbox hg; obtain ⟨hzBKa0, hzBKa1, hzBKa2, hzBKa3⟩ := cells4 BKa.out; obtain ⟨hzBKr0, hzBKr1, hzBKr2, hzBKr3⟩ := cells4 BKr.out; obtain ⟨hzBKo0, hzBKo1, hzBKo2, hzBKo3⟩ := cells4 BKo.out)
               | ((with_reducible refine gate_callee (f := 35) rfl ?_); refine goesL_ (some 14) rfl rfl Try.func35 (by kernel_rfl) rfl #[.agg #[.slice (some adp) aa.length ag, .int .i64 a0_1, .slice ah ac.length ai, .slice aj ad.length ak], .int .i64 a1] rfl zg ?_; (with_reducible refine (impl_TrayAt.calls k _ _ aa a0_1 _ _ ac _ _ ad a1 i _ (Kd.C_below an.out HB.out) ap.out (Kd.C_below aq.out HB.out) ar.out (Kd.C_below au.out HB.out) av.out At.out).mono ?_); rintro e w5 ⟨rfl, hb⟩; refine ⟨_, rfl, ?_⟩; replace HB := zK (below_step HB.out hb); replace BKa := zK (blk_below BKa.out hb); replace BKr := zK (blk_below BKr.out hb); replace HL := zK (HL.out.below hb); replace BKo := zK (blk_below BKo.out hb); clear hzBKa0 hzBKa1 hzBKa2 hzBKa3 hzBKr0 hzBKr1 hzBKr2 hzBKr3 hzBKo0 hzBKo1 hzBKo2 hzBKo3 aA aB aC aD aE aF aG aH; clear hb; obtain ⟨hzBKa0, hzBKa1, hzBKa2, hzBKa3⟩ := cells4 BKa.out; obtain ⟨hzBKr0, hzBKr1, hzBKr2, hzBKr3⟩ := cells4 BKr.out; obtain ⟨hzBKo0, hzBKo1, hzBKo2, hzBKo3⟩ := cells4 BKo.out; have hxq := (HB.out.cell (World.block_lt_of_cell? w _ XP.out)).trans XP.out)
               | ((with_reducible refine gate_callee (f := 64) rfl ?_); (try (refine gate_guard (by rfl) ?_; dsimp only)); refine goesL_ (some 31) rfl rfl Try.func64 (by kernel_rfl) rfl #[.agg #[.slice (some adp) aa.length ag, .int .i64 a0_1, .slice ah ac.length ai, .slice aj ad.length ak]] rfl zg ?_; (with_reducible refine (impl_bagsOf.calls k _ _ aa a0_1 _ _ ac _ _ ad bs _ (Kd.C_below an.out HB.out) ap.out (Kd.C_below aq.out HB.out) ar.out (Kd.C_below au.out HB.out) av.out Ab.out).mono ?_); rintro e w6 ⟨ax, rfl, ho0_, hb⟩; refine ⟨_, rfl, ?_⟩; obtain ⟨Q0, q0k, ao, aR, aS⟩ := Kd.R_reads ho0_; subst ao; have RQ := zK (And.intro aR aS); replace HB := zK (below_step HB.out hb); replace BKa := zK (blk_below BKa.out hb); replace BKr := zK (blk_below BKr.out hb); replace HL := zK (HL.out.below hb); replace BKo := zK (blk_below BKo.out hb); clear hzBKa0 hzBKa1 hzBKa2 hzBKa3 hzBKr0 hzBKr1 hzBKr2 hzBKr3 hzBKo0 hzBKo1 hzBKo2 hzBKo3; clear hb ho0_ aR aS hxq; obtain ⟨hzBKa0, hzBKa1, hzBKa2, hzBKa3⟩ := cells4 BKa.out; obtain ⟨hzBKr0, hzBKr1, hzBKr2, hzBKr3⟩ := cells4 BKr.out; obtain ⟨hzBKo0, hzBKo1, hzBKo2, hzBKo3⟩ := cells4 BKo.out)
               | ((with_reducible refine gate_callee (f := 52) rfl ?_); (try (refine gate_guard (by rfl) ?_; dsimp only)); refine goesL_ (some 33) rfl rfl Try.func52 (by kernel_rfl) rfl #[.slice Q0 bs.length q0k, .int .i64 a2] rfl zg ?_; (with_reducible refine (slices_Contains_int_int.calls k _ _ bs a2 false _ RQ.out.2 RQ.out.1 Ah.out).mono ?_); rintro e w7 ⟨rfl, hd_⟩; refine ⟨_, rfl, ?_⟩; have hb := hd_.below; clear hd_ RQ; replace HB := zK (below_step HB.out hb); replace BKa := zK (blk_below BKa.out hb); replace BKr := zK (blk_below BKr.out hb); replace HL := zK (HL.out.below hb); replace BKo := zK (blk_below BKo.out hb); clear hzBKa0 hzBKa1 hzBKa2 hzBKa3 hzBKr0 hzBKr1 hzBKr2 hzBKr3 hzBKo0 hzBKo1 hzBKo2 hzBKo3; clear hb; obtain ⟨hzBKa0, hzBKa1, hzBKa2, hzBKa3⟩ := cells4 BKa.out; obtain ⟨hzBKr0, hzBKr1, hzBKr2, hzBKr3⟩ := cells4 BKr.out; obtain ⟨hzBKo0, hzBKo1, hzBKo2, hzBKo3⟩ := cells4 BKo.out; obtain ⟨gT2_, eT_, hbT_, ⟨cT_, hct_⟩, hcT, hfT, hLT_⟩ := HL.out.tray i ci ck a2; cases eT_; have XT := zK (And.intro hLT_ (And.intro (blk_types BKa.out hct_ (by decide)) (And.intro (blk_types BKr.out hct_ (by decide)) (And.intro (blk_types BKo.out hct_ (by decide)) hbT_)))); have qk : (i < ((p0.length : Nat) : Int)) = True := eq_true ck; clear hLT_ hct_ hbT_)
               | ((with_reducible refine gate_store (t := 3) (p := 40) rfl ?_); refine store_event (t := 3) (p := 40) (v := ?vo_w8) (w1 := (w7.setCell ⟨gT, i.toNat, none⟩ (.int .i64 a2))) ?hg ?ho ?hn ?hr ?_; (case ho => rfl); (case hg => rfl); (case hn => rfl); (case hr => first | (go_simp; done) | (go_simp; rfl)); intro w8 hw; replace HB := zK (show Below w.heap.size w w8 from by rw [hw]; exact zS HB.out XT.out.2.2.2.2); replace HL := zK (show LoopMem w.heap.size w8 PW _ (p0.set i.toNat a2) _ p2 _ p3 from by rw [hw]; exact XT.out.1); replace BKa := zK (show w8.heap[ga]? = some (.cells #[.slice (some adp) aa.length ag, .int .i64 a0_1, .slice ah ac.length ai, .slice aj ad.length ak] 28 (0, 0)) from by rw [hw]; exact (Below.heap_setCell w7 ⟨gT, i.toNat, none⟩ (.int .i64 a2) ga XT.out.2.1).trans BKa.out); replace BKr := zK (show w8.heap[gr]? = some (.cells #[.slice none 0 0, .int .i64 0, .slice none 0 0, .slice none 0 0] 28 (0, 0)) from by rw [hw]; exact (Below.heap_setCell w7 ⟨gT, i.toNat, none⟩ (.int .i64 a2) gr XT.out.2.2.1).trans BKr.out); replace BKo := zK (show w8.heap[go]? = some (.cells #[.slice (some ⟨gT, 0, none⟩) p0.length p0k, .int .i64 pT, .slice P2 p2.length p2k, .slice P3 p3.length p3k] 28 (0, 0)) from by rw [hw]; exact (Below.heap_setCell w7 ⟨gT, i.toNat, none⟩ (.int .i64 a2) go XT.out.2.2.2.1).trans BKo.out); clear XT hw hcT hfT hzBKa0 hzBKa1 hzBKa2 hzBKa3 hzBKr0 hzBKr1 hzBKr2 hzBKr3 hzBKo0 hzBKo1 hzBKo2 hzBKo3; obtain ⟨hzBKa0, hzBKa1, hzBKa2, hzBKa3⟩ := cells4 BKa.out; obtain ⟨hzBKr0, hzBKr1, hzBKr2, hzBKr3⟩ := cells4 BKr.out; obtain ⟨hzBKo0, hzBKo1, hzBKo2, hzBKo3⟩ := cells4 BKo.out; obtain ⟨aI, aJ, aK, aL⟩ := zF4 BKr)
               )
             refine bodyPost_ret (results_ct rfl _ _ gr 28 #[.slice (some ⟨gT, 0, none⟩) p0.length p0k, .int .i64 pT, .slice P2 p2.length p2k, .slice P3 p3.length p3k] (0, 0) _ rfl (blk_put4 BKr.out (.slice (some ⟨gT, 0, none⟩) p0.length p0k) (.int .i64 pT) (.slice P2 p2.length p2k) (.slice P3 p3.length p3k)) Try.underlying28 rfl (by kernel_rfl)) rfl ?_
             exact ⟨_, _, _, rfl, ⟨PW, HL.out.box4 BKr.out (.slice (some ⟨gT, 0, none⟩) p0.length p0k) (.int .i64 pT) (.slice P2 p2.length p2k) (.slice P3 p3.length p3k)⟩, below_put4 HB.out GER.out (.slice (some ⟨gT, 0, none⟩) p0.length p0k) (.int .i64 pT) (.slice P2 p2.length p2k) (.slice P3 p3.length p3k)⟩
           · rw [if_neg ck] at H
             cases H
     · rw [if_neg c2] at H
       have c2a : (rd aa i == 0) = false := beq_eq_false_iff_ne.mpr c2
       have c2b : (rd aa i != 0) = true := by rw [bne, c2a]; rfl
       clear c2
       simp only [Option.some.injEq, Prod.mk.injEq] at H
       obtain ⟨rfl, rfl, rfl, rfl, rfl⟩ := H
       obtain ⟨adp, ep, hxp⟩ := Kd.at_int an.out i ci cj
       cases ep
       have XP := zK hxp; have pi := eq_true ci
       have qi : (i < ((aa.length : Nat) : Int)) = True := eq_true cj
       clear hxp
       go_enter Try.func47, Try.ntmps47
       go_wp2_with (first
         | ((with_reducible refine gate_dst (N := 3) rfl ?_); refine zX 3 #[.slice (some adp) aa.length ag, .int .i64 a0_1, .slice ah ac.length ai, .slice aj ad.length ak] 28 ?_; intro ga hg w1 hbox hb; replace HB := zK (below_step HB.out hb); have BKa := zK (hbox); clear hb hbox hg; obtain ⟨hzBKa0, hzBKa1, hzBKa2, hzBKa3⟩ := cells4 BKa.out)
         | ((with_reducible refine gate_dst (N := 6) rfl ?_); refine zX 6 #[.slice none 0 0, .int .i64 0, .slice none 0 0, .slice none 0 0] 28 ?_; intro gr hg w2 hbox hb; have ab := zK (below_step HB.out hb); have ae := zK (blk_below BKa.out hb); have m0_ := zK (hbox); have GER := zK (show w.heap.size ≤ gr from by rw [hg]; exact HB.out.size); clear HB BKa hzBKa0 hzBKa1 hzBKa2 hzBKa3; have HB := ab; have BKa := ae; have BKr := m0_; clear ab ae m0_; clear hb hbox hg; obtain ⟨hzBKa0, hzBKa1, hzBKa2, hzBKa3⟩ := cells4 BKa.out; obtain ⟨hzBKr0, hzBKr1, hzBKr2, hzBKr3⟩ := cells4 BKr.out)
         | ((with_reducible refine gate_callee (f := 53) rfl ?_); refine goesL_ (some 11) rfl rfl Try.func53 (by kernel_rfl) rfl #[.agg #[.slice (some adp) aa.length ag, .int .i64 a0_1, .slice ah ac.length ai, .slice aj ad.length ak]] rfl zg ?_; (with_reducible refine (impl_copyLoop.calls2 k _ _ aa a0_1 _ _ ac _ _ ad p0 pT p2 p3 _ (Kd.C_below an.out HB.out) ap.out (Kd.C_below aq.out HB.out) ar.out (Kd.C_below au.out HB.out) av.out Ac.out).mono ?_); rintro e w3 ⟨ax, aP, aQ, N_, rfl, ho0_, ho2_, ho3_, hN_, hb⟩; refine ⟨_, rfl, ?_⟩; obtain ⟨PW, hL_⟩ := LoopMem.mk (Kd.R_lower ho0_ HB.out.size) (Kd.S_lower ho2_ HB.out.size) ho3_ (Nat.le_trans HB.out.size hN_); obtain ⟨P0, p0k, P2, p2k, P3, p3k, ao, ay, az, _, _, _, _, _, _⟩ := hL_.reads; subst ao; subst ay; subst az; replace HB := zK (below_step HB.out hb); replace BKa := zK (blk_below BKa.out hb); replace BKr := zK (blk_below BKr.out hb); have HL := zK (hL_); clear hzBKa0 hzBKa1 hzBKa2 hzBKa3 hzBKr0 hzBKr1 hzBKr2 hzBKr3; clear hb hL_ ho0_ ho2_ ho3_ hN_; obtain ⟨hzBKa0, hzBKa1, hzBKa2, hzBKa3⟩ := cells4 BKa.out; obtain ⟨hzBKr0, hzBKr1, hzBKr2, hzBKr3⟩ := cells4 BKr.out)
         | ((with_reducible refine gate_dst (N := 8) rfl ?_); refine zX 8 #[.slice none 0 0, .int .i64 0, .slice none 0 0, .slice none 0 0] 28 ?_; intro go hg w4 hbox hb; have aA : w4.cell? ⟨go, 0, none⟩ = some (.slice none 0 0) := (blk_cell hbox 0).trans rfl; have aB : w4.cell? ⟨go, 1, none⟩ = some (.int .i64 0) := (blk_cell hbox 1).trans rfl; have aC : w4.cell? ⟨go, 2, none⟩ = some (.slice none 0 0) := (blk_cell hbox 2).trans rfl; have aD : w4.cell? ⟨go, 3, none⟩ = some (.slice none 0 0) := (blk_cell hbox 3).trans rfl; have aE := blk_frozen hbox 0; have aF := blk_frozen hbox 1; have aG := blk_frozen hbox 2; have aH := blk_frozen hbox 3; replace HB := zK (below_put4 (below_step HB.out hb) (show w.heap.size ≤ go from by rw [hg]; exact HB.out.size) (.slice P0 p0.length p0k) (.int .i64 pT) (.slice P2 p2.length p2k) (.slice P3 p3.length p3k)); replace BKa := zK (blk_far4 (blk_below BKa.out hb) (show ga ≠ go from by rw [hg]; exact Nat.ne_of_lt (blk_lt BKa.out)) (.slice P0 p0.length p0k) (.int .i64 pT) (.slice P2 p2.length p2k) (.slice P3 p3.length p3k)); replace BKr := zK (blk_far4 (blk_below BKr.out hb) (show gr ≠ go from by rw [hg]; exact Nat.ne_of_lt (blk_lt BKr.out)) (.slice P0 p0.length p0k) (.int .i64 pT) (.slice P2 p2.length p2k) (.slice P3 p3.length p3k)); replace HL := zK ((HL.out.below hb).box4 hbox (.slice P0 p0.length p0k) (.int .i64 pT) (.slice P2 p2.length p2k) (.slice P3 p3.length p3k)); have BKo := zK (blk_put4 hbox (.slice P0 p0.length p0k) (.int .i64 pT) (.slice P2 p2.length p2k) (.slice P3 p3.length p3k)); clear hzBKa0 hzBKa1 hzBKa2 hzBKa3 hzBKr0 hzBKr1 hzBKr2 hzBKr3; clear hb hbox hg; obtain ⟨hzBKa0, hzBKa1, hzBKa2, hzBKa3⟩ := cells4 BKa.out; obtain ⟨hzBKr0, hzBKr1, hzBKr2, hzBKr3⟩ := cells4 BKr.out; obtain ⟨hzBKo0, hzBKo1, hzBKo2, hzBKo3⟩ := cells4 BKo.out)
         | ((with_reducible refine gate_callee (f := 35) rfl ?_); refine goesL_ (some 14) rfl rfl Try.func35 (by kernel_rfl) rfl #[.agg #[.slice (some adp) aa.length ag, .int .i64 a0_1, .slice ah ac.length ai, .slice aj ad.length ak], .int .i64 a1] rfl zg ?_; (with_reducible refine (impl_TrayAt.calls k _ _ aa a0_1 _ _ ac _ _ ad a1 i _ (Kd.C_below an.out HB.out) ap.out (Kd.C_below aq.out HB.out) ar.out (Kd.C_below au.out HB.out) av.out At.out).mono ?_); rintro e w5 ⟨rfl, hb⟩; refine ⟨_, rfl, ?_⟩; replace HB := zK (below_step HB.out hb); replace BKa := zK (blk_below BKa.out hb); replace BKr := zK (blk_below BKr.out hb); replace HL := zK (HL.out.below hb); replace BKo := zK (blk_below BKo.out hb); clear hzBKa0 hzBKa1 hzBKa2 hzBKa3 hzBKr0 hzBKr1 hzBKr2 hzBKr3 hzBKo0 hzBKo1 hzBKo2 hzBKo3 aA aB aC aD aE aF aG aH; clear hb; obtain ⟨hzBKa0, hzBKa1, hzBKa2, hzBKa3⟩ := cells4 BKa.out; obtain ⟨hzBKr0, hzBKr1, hzBKr2, hzBKr3⟩ := cells4 BKr.out; obtain ⟨hzBKo0, hzBKo1, hzBKo2, hzBKo3⟩ := cells4 BKo.out; have hxq := (HB.out.cell (World.block_lt_of_cell? w _ XP.out)).trans XP.out; obtain ⟨aI, aJ, aK, aL⟩ := zF4 BKr)
         )
       refine bodyPost_ret (results_ct rfl _ _ gr 28 #[.slice P0 p0.length p0k, .int .i64 pT, .slice P2 p2.length p2k, .slice P3 p3.length p3k] (0, 0) _ rfl (blk_put4 BKr.out (.slice P0 p0.length p0k) (.int .i64 pT) (.slice P2 p2.length p2k) (.slice P3 p3.length p3k)) Try.underlying28 rfl (by kernel_rfl)) rfl ?_
       exact ⟨_, _, _, rfl, ⟨PW, HL.out.box4 BKr.out (.slice P0 p0.length p0k) (.int .i64 pT) (.slice P2 p2.length p2k) (.slice P3 p3.length p3k)⟩, below_put4 HB.out GER.out (.slice P0 p0.length p0k) (.int .i64 pT) (.slice P2 p2.length p2k) (.slice P3 p3.length p3k)⟩
   · rw [if_neg cj] at H
     cases H
theorem impl_Induct.calls (k : Nat) (ad : Option Addr) (ae : Nat) (aa : List Int) (a0_1 : Int) (af : Option Addr) (ag : Nat) (ab : List (S69)) (ah : Option Addr) (ai : Nat) (ac : List (S74)) (a1 : Int) (a2 : Int) (r1 : List Int) (r2 : Int) (r3 : List (S69)) (r4 : List (S74)) (r5 : Bool) (w : World) (aj : Kd.C (Kd.int .i64) w ad aa.length aa) (hc0_0 : aa.length ≤ ae) (ak : Kd.C k69 w af ab.length ab) (hc0_2 : ab.length ≤ ag) (al : Kd.C k74 w ah ac.length ac) (hc0_3 : ac.length ≤ ai) (h : impl_Induct.f k aa a0_1 ab ac a1 a2 = some (r1, r2, r3, r4, r5)) :
 Calls Try.prog 47 #[.agg #[.slice ad aa.length ae, .int .i64 a0_1, .slice af ab.length ag, .slice ah ac.length ai], .int .i64 a1, .int .i64 a2] w fun e w' => ∃ v0_ v2_ v3_ : Value, e = .returned (.tuple #[.agg #[v0_, .int .i64 r2, v2_, v3_], .bool r5]) ∧ Kd.R (Kd.int .i64) 3 w' w.heap.size (fun _ => True) v0_ r1 ∧ Kd.S k69 69 w' w.heap.size (fun k_ => some k_ ≠ (v0_ : Value).ownBlock) v2_ r3 ∧ Kd.S k74 74 w' w.heap.size (fun k_ => some k_ ≠ (v0_ : Value).ownBlock) v3_ r4 ∧ Below w.heap.size w w' :=
 (impl_Induct.calls2 k ad ae aa a0_1 af ag ab ah ai ac a1 a2 r1 r2 r3 r4 r5 w aj hc0_0 ak hc0_2 al hc0_3 h).mono fun e w' ⟨v0, v2, v3, he, ⟨PW, m⟩, hb⟩ => ⟨v0, v2, v3, he, Kd.R_mono m.1 (fun _ _ => trivial), Kd.S_mono m.2.1 (fun _ hk => hk.1), Kd.S_mono m.2.2.1 (fun k_ hk e_ => m.1.1 k_ e_.symm hk), hb⟩
def spec_l05In.l0 : Nat → Int → Int → List Int → Int → List (S69) → List (S74) → Option (Bool)
 | 0, _, _, _, _, _, _ => none
 | k + 1, a, b, c, d, e, f => if b < (e.length : Int) then (if 0 ≤ b then ((spec_l03Has.f k ((rd_T69 e b).f2) a).bind fun g => (if g = true then (some true) else (spec_l05In.l0 k a (wrap64 (b + 1)) c d e f))) else (none)) else (some false)
def spec_l05In.f (k : Nat) (a : List Int) (b : Int) (c : List (S69)) (d : List (S74)) (e : Int) : Option (Bool) := (spec_l03Has.f k a e).bind fun f => (if f = true then (some true) else (spec_l05In.l0 k e 0 a b c d))
set_option maxHeartbeats 8000000 in
set_option maxRecDepth 100000 in
theorem spec_l05In.calls (k : Nat) (al : Option Addr) (am : Nat) (ad : List Int) (a0_1 : Int) (an : Option Addr) (ao : Nat) (ac : List (S69)) (ap : Option Addr) (aq : Nat) (af : List (S74)) (a1 : Int) (r : Bool) (w : World) (aB : Kd.C (Kd.int .i64) w al ad.length ad) (hc0_0 : ad.length ≤ am) (aC : Kd.C k69 w an ac.length ac) (hc0_2 : ac.length ≤ ao) (aD : Kd.C k74 w ap af.length af) (hc0_3 : af.length ≤ aq) (h : spec_l05In.f k ad a0_1 ac af a1 = some r) :
  Calls Try.prog 87 #[.agg #[.slice al ad.length am, .int .i64 a0_1, .slice an ac.length ao, .slice ap af.length aq], .int .i64 a1] w fun e w' => e = .returned (.bool r) ∧ Below w.heap.size w w' := by
 have hu28 := Try.underlying28; have aE := zK aB; have aF := zK hc0_0; clear aB hc0_0; have aG := zK aC; have HC0_2 := zK hc0_2; clear aC hc0_2; have HR0_3 := zK aD; have HC0_3 := zK hc0_3; clear aD hc0_3
 have HB := zK (Below.refl w.heap.size w)
 have H := h; unfold spec_l05In.f at H
 clear h; replace H := Option.bind_eq_some_iff.mp H
 obtain ⟨aA, A30, H⟩ := H
 (try dsimp only at H)
 have A3 := zK A30; clear A30
 by_cases c4 : aA = true
 ·subst c4
  rw [if_pos rfl] at H; obtain rfl := Option.some.inj H
  go_enter Try.func87, Try.ntmps87
  go_wp2_with (first | ((with_reducible refine gate_dst (N := 2) rfl ?_); refine zX 2 #[.slice al ad.length am, .int .i64 a0_1, .slice an ac.length ao, .slice ap af.length aq] 28 ?_; intro ab hg w5 hbox hb; have aa := zK (hbox); have aU := zK ((by rw [hg]; exact (below_size (zb HB)) : w.heap.size ≤ ab)); have ar := zK ((by rw [hg]; exact (below_size (zb HB)) : w.heap.size ≤ ab)); replace HB := zK (below_step (zb HB) hb); clear hb hbox hg; obtain ⟨hcz6_0, hcz6_1, hcz6_2, hcz6_3⟩ := zL4 aa; obtain ⟨hfz6_0, hfz6_1, hfz6_2, hfz6_3⟩ := zF4 aa) | ((with_reducible refine gate_callee (f := 55) rfl ?_); refine goesL_ (some 9) rfl rfl Try.func55 (by kernel_rfl) rfl #[.slice al ad.length am, .int .i64 a1] rfl zg ?_; (with_reducible refine (spec_l03Has.calls k _ _ ad a1 true _ ?side1 ?side2 A3.out).mono ?_); (case side1 => exact zs (Kd.C_below aE.out HB.out)); (case side2 => exact aF.out); rintro e w' ⟨rfl, ⟨nd, rfl⟩⟩; refine ⟨_, rfl, ?_⟩))
  go_ret
  exact ⟨ze, zb HB⟩
 ·replace c4 := Bool.eq_false_iff.mpr c4
  subst c4
  rw [if_neg (show ¬ (false = true) by decide)] at H; have H' := zK H; clear H
  go_enter Try.func87, Try.ntmps87
  go_wp2_with (first | ((with_reducible refine gate_dst (N := 2) rfl ?_); refine zX 2 #[.slice al ad.length am, .int .i64 a0_1, .slice an ac.length ao, .slice ap af.length aq] 28 ?_; intro ab hg w7 hbox hb; have aa := zK (hbox); have aU := zK ((by rw [hg]; exact (below_size (zb HB)) : w.heap.size ≤ ab)); have ar := zK ((by rw [hg]; exact (below_size (zb HB)) : w.heap.size ≤ ab)); replace HB := zK (below_step (zb HB) hb); clear hb hbox hg; obtain ⟨aH, aI, aJ, aK⟩ := zL4 aa; obtain ⟨aL, aM, aN, aO⟩ := zF4 aa) | ((with_reducible refine gate_callee (f := 55) rfl ?_); refine goesL_ (some 9) rfl rfl Try.func55 (by kernel_rfl) rfl #[.slice al ad.length am, .int .i64 a1] rfl zg ?_; (with_reducible refine (spec_l03Has.calls k _ _ ad a1 false _ ?side1 ?side2 A3.out).mono ?_); (case side1 => exact zs (Kd.C_below aE.out HB.out)); (case side2 => exact aF.out); rintro e w' ⟨rfl, ⟨nd, rfl⟩⟩; refine ⟨_, rfl, ?_⟩))
  go_loopg [5] k (fun kq v5 w' => ∃ (ae : Int), v5 = .int .i64 ae ∧ Aside0 (spec_l05In.l0 kq a1 ae ad a0_1 ac af = some r) ∧ Aside0 (kq ≤ k) ∧ Aside0 (w'.heap[ab]? = some (.cells #[(.slice al ad.length am), .int .i64 a0_1, (.slice an ac.length ao), (.slice ap af.length aq)] 28 (0, 0))) ∧ Aside0 (Below w.heap.size w w'))
  case atStart => exact ⟨(0), zf, H', ⟨Nat.le_refl _⟩, ⟨zk aa⟩, ⟨zb HB⟩⟩
  case round =>
   clear H' aH aI aJ aK aL aM aN aO
   obtain ⟨ae, rfl, HA, HK1, aa, HB⟩ := hrel
   cases gk with
   | zero => exact absurd HA.out (by simp [spec_l05In.l0])
   | succ k1 =>
    have H := HA.out; clear HA
    simp only [spec_l05In.l0] at H
    by_cases c9 : ae < (ac.length : Int)
    ·rw [if_pos c9] at H
     have c9b0 : decide (ae < (ac.length : Int)) = true := decide_eq_true c9
     clear c9
     by_cases c10 : 0 ≤ ae
     ·rw [if_pos c10] at H
      have c10b0 : decide (0 ≤ ae) = true := decide_eq_true c10
      clear c10; replace H := Option.bind_eq_some_iff.mp H
      obtain ⟨aV, aW, H⟩ := H
      (try dsimp only at H)
      have A11 := zK aW; clear aW
      by_cases c12 : aV = true
      ·subst c12
       rw [if_pos rfl] at H; obtain rfl := Option.some.inj H
       obtain ⟨hcz13_0, hcz13_1, hcz13_2, hcz13_3⟩ := zL4 aa
       obtain ⟨hfz13_0, hfz13_1, hfz13_2, hfz13_3⟩ := zF4 aa
       have aw : 0 ≤ (ae : Int) := zd
       have ax : ae < (ac.length : Int) := zd
       obtain ⟨aX, ay, az, aP, ag, ah, ai, aj, ak⟩ := at_T69 aG.out ae aw ax
       cases aP
       replace ag := (HB.out.cell (World.block_lt_of_cell? w _ ag)).trans ag
       replace ah := (HB.out.cell (World.block_lt_of_cell? w _ ah)).trans ah
       replace ai := (HB.out.cell (World.block_lt_of_cell? w _ ai)).trans ai
       have au := zK ak; have av := zK aj; clear ak aj; replace aw := eq_true aw; replace ax := eq_true ax
       go_wp2_with ((with_reducible refine gate_callee (f := 55) rfl ?_); refine goesL_ (some 24) rfl rfl Try.func55 (by kernel_rfl) rfl #[.slice ay ((rd_T69 ac ae).f2).length az, .int .i64 a1] rfl zg ?_; (with_reducible refine (spec_l03Has.calls k1 _ _ ((rd_T69 ac ae).f2) a1 true _ ?side1 ?side2 A11.out).mono ?_); (case side1 => exact zs (Kd.C_below au.out HB.out)); (case side2 => exact av.out); rintro e w' ⟨rfl, ⟨nd, rfl⟩⟩; refine ⟨_, rfl, ?_⟩)
       go_ret
       exact ⟨ze, zb HB⟩
      ·replace c12 := Bool.eq_false_iff.mpr c12
       subst c12
       rw [if_neg (show ¬ (false = true) by decide)] at H; have H' := zK H; clear H
       obtain ⟨hcz14_0, hcz14_1, hcz14_2, hcz14_3⟩ := zL4 aa
       obtain ⟨hfz14_0, hfz14_1, hfz14_2, hfz14_3⟩ := zF4 aa
       have aw : 0 ≤ (ae : Int) := zd
       have ax : ae < (ac.length : Int) := zd
       obtain ⟨aX, ay, az, aP, ag, ah, ai, aj, ak⟩ := at_T69 aG.out ae aw ax
       cases aP
       replace ag := (HB.out.cell (World.block_lt_of_cell? w _ ag)).trans ag
       replace ah := (HB.out.cell (World.block_lt_of_cell? w _ ah)).trans ah
       replace ai := (HB.out.cell (World.block_lt_of_cell? w _ ai)).trans ai
       have au := zK ak; have av := zK aj; clear ak aj; replace aw := eq_true aw; replace ax := eq_true ax
       go_wp2_with ((with_reducible refine gate_callee (f := 55) rfl ?_); refine goesL_ (some 24) rfl rfl Try.func55 (by kernel_rfl) rfl #[.slice ay ((rd_T69 ac ae).f2).length az, .int .i64 a1] rfl zg ?_; (with_reducible refine (spec_l03Has.calls k1 _ _ ((rd_T69 ac ae).f2) a1 false _ ?side1 ?side2 A11.out).mono ?_); (case side1 => exact zs (Kd.C_below au.out HB.out)); (case side2 => exact av.out); rintro e w' ⟨rfl, ⟨nd, rfl⟩⟩; refine ⟨_, rfl, ?_⟩)
       go_roundg k1
       case measure => have := HK1.out; omega
       case rel => exact ⟨(wrap64 (ae + 1)), zf, H', ⟨by have := HK1.out; omega⟩, ⟨zk aa⟩, ⟨zb HB⟩⟩
     ·rw [if_neg c10] at H
      exact absurd H (by simp)
    ·rw [if_neg c9] at H
     have c9b0 : decide (ae < (ac.length : Int)) = false := decide_eq_false c9
     clear c9; obtain rfl := Option.some.inj H
     obtain ⟨hcz15_0, hcz15_1, hcz15_2, hcz15_3⟩ := zL4 aa
     obtain ⟨hfz15_0, hfz15_1, hfz15_2, hfz15_3⟩ := zF4 aa
     go_wp2
     go_ret
     exact ⟨ze, zb HB⟩
def spec_Induct.j0 : Nat → Int → Int → Bool → List Int → Int → List (S69) → List (S74) → Option (List Int × Int × (List (S69)) × (List (S74)) × Bool)
 | 0, _, _, _, _, _, _, _ => none
 | k + 1, a, b, c, d, e, f, g => if c = true then (some (d, e, f, g, false)) else ((spec_l05Copy.f k d e f g).bind fun i => (if 0 ≤ b then (if b < (i.1.length : Int) then (some ((i.1.set (b : Int).toNat a), i.2.1, i.2.2.1, i.2.2.2, true)) else (none)) else (none)))
def spec_Induct.f (k : Nat) (a : List Int) (b : Int) (c : List (S69)) (d : List (S74)) (e : Int) (f : Int) : Option (List Int × Int × (List (S69)) × (List (S74)) × Bool) := (spec_l05Copy.f k a b c d).bind fun g => ((spec_TrayAt.f k g.1 g.2.1 g.2.2.1 g.2.2.2 e).bind fun i => (if i < 0 then (spec_Induct.j0 k f i true g.1 g.2.1 g.2.2.1 g.2.2.2) else (if 0 ≤ i then (if i < (g.1.length : Int) then (if (rd g.1 i) = 0 then (if f < 1 then (spec_Induct.j0 k f i true g.1 g.2.1 g.2.2.1 g.2.2.2) else ((spec_l05In.f k g.1 g.2.1 g.2.2.1 g.2.2.2 f).bind fun j => (spec_Induct.j0 k f i j g.1 g.2.1 g.2.2.1 g.2.2.2))) else (spec_Induct.j0 k f i true g.1 g.2.1 g.2.2.1 g.2.2.2)) else (none)) else (none))))
set_option maxHeartbeats 8000000 in
set_option maxRecDepth 100000 in
theorem spec_Induct.calls (k : Nat) (a6 : Option Addr) (a7 : Nat) (aV : List Int) (a0_1 : Int) (aY : Option Addr) (aZ : Nat) (aP : List (S69)) (aW : Option Addr) (aX : Nat) (aO : List (S74)) (a1 : Int) (a2 : Int) (r1 : List Int) (r2 : Int) (r3 : List (S69)) (r4 : List (S74)) (r5 : Bool) (w : World) (bJ : Kd.C (Kd.int .i64) w a6 aV.length aV) (hc0_0 : aV.length ≤ a7) (bK : Kd.C k69 w aY aP.length aP) (hc0_2 : aP.length ≤ aZ) (bL : Kd.C k74 w aW aO.length aO) (hc0_3 : aO.length ≤ aX) (h : spec_Induct.f k aV a0_1 aP aO a1 a2 = some (r1, r2, r3, r4, r5)) :
  Calls Try.prog 48 #[.agg #[.slice a6 aV.length a7, .int .i64 a0_1, .slice aY aP.length aZ, .slice aW aO.length aX], .int .i64 a1, .int .i64 a2] w fun e w' => ∃ v0_ v2_ v3_ : Value, e = .returned (.tuple #[.agg #[v0_, .int .i64 r2, v2_, v3_], .bool r5]) ∧ Kd.R (Kd.int .i64) 3 w' w.heap.size (fun _ => True) v0_ r1 ∧ Kd.S k69 69 w' w.heap.size (fun k_ => some k_ ≠ (v0_ : Value).ownBlock) v2_ r3 ∧ Kd.S k74 74 w' w.heap.size (fun k_ => some k_ ≠ (v0_ : Value).ownBlock) v3_ r4 ∧ Below w.heap.size w w' := by
 have hu28 := Try.underlying28; have bS := zK bJ; have bT := zK hc0_0; clear bJ hc0_0; have bU := zK bK; have bV := zK hc0_2; clear bK hc0_2; have bW := zK bL; have bX := zK hc0_3; clear bL hc0_3
 have HB := zK (Below.refl w.heap.size w)
 have H := h; unfold spec_Induct.f at H
 clear h; replace H := Option.bind_eq_some_iff.mp H
 obtain ⟨⟨ac, an, al, am⟩, A40, H⟩ := H
 (try dsimp only at H)
 have A4 := zK A40; clear A40; replace H := Option.bind_eq_some_iff.mp H
 obtain ⟨ag, A50, H⟩ := H
 (try dsimp only at H)
 have A5 := zK A50; clear A50; have HC6 := zK H; clear H
 go_enter Try.func48, Try.ntmps48
 go_upto_region 3 with (first | ((with_reducible refine gate_dst (N := 3) rfl ?_); refine zX 3 #[.slice a6 aV.length a7, .int .i64 a0_1, .slice aY aP.length aZ, .slice aW aO.length aX] 28 ?_; intro ab hg w7 hbox hb; have aa := zK (hbox); have GW441 := zK ((by rw [hg]; exact (below_size (zb HB)) : w.heap.size ≤ ab)); have av := zK ((by rw [hg]; exact (below_size (zb HB)) : w.heap.size ≤ ab)); replace HB := zK (below_step (zb HB) hb); clear hb hbox hg) | ((with_reducible refine gate_dst (N := 6) rfl ?_); refine zX 6 #[.slice none 0 0, .int .i64 0, .slice none 0 0, .slice none 0 0] 28 ?_; intro ae hg w8 hbox hb; have ad := zK (hbox); have GW442 := zK ((by rw [hg]; exact (below_size (zb HB)) : w.heap.size ≤ ae)); have az := zK ((by rw [hg]; exact (below_size (zb HB)) : w.heap.size ≤ ae)); replace HB := zK (below_step (zb HB) hb); have aE := zK ((by rw [hg]; exact Nat.ne_of_lt (blk_lt (g := ab) (o := .cells #[.slice a6 aV.length a7, .int .i64 a0_1, .slice aY aP.length aZ, .slice aW aO.length aX] 28 (0, 0)) (zk aa)) : ab ≠ ae)); have au := zK ((by rw [hg]; exact Nat.ne_of_gt (blk_lt (g := ab) (o := .cells #[.slice a6 aV.length a7, .int .i64 a0_1, .slice aY aP.length aZ, .slice aW aO.length aX] 28 (0, 0)) (zk aa)) : ae ≠ ab)); replace aa := zK (blk_below (g := ab) (o := .cells #[.slice a6 aV.length a7, .int .i64 a0_1, .slice aY aP.length aZ, .slice aW aO.length aX] 28 (0, 0)) (zk aa) hb); clear hb hbox hg; have hnb9 := aE.out; have hnc9 := au.out; obtain ⟨br, bs, bu, bv⟩ := zL4 aa; obtain ⟨bw, bx, bz, bA⟩ := zF4 aa) | ((with_reducible refine gate_callee (f := 68) rfl ?_); refine goesL_ (some 11) rfl rfl Try.func68 (by kernel_rfl) rfl #[.agg #[.slice a6 aV.length a7, .int .i64 a0_1, .slice aY aP.length aZ, .slice aW aO.length aX]] rfl zg ?_; (with_reducible refine (spec_l05Copy.calls k _ _ aV a0_1 _ _ aP _ _ aO ac an al am _ ?side1 ?side2 ?side3 ?side4 ?side5 ?side6 A4.out).mono ?_); (case side1 => exact zs (Kd.C_below bS.out HB.out)); (case side2 => exact bT.out); (case side3 => exact zs (Kd.C_below bU.out HB.out)); (case side4 => exact bV.out); (case side5 => exact zs (Kd.C_below bW.out HB.out)); (case side6 => exact bX.out); rintro e w11 ⟨v444, v448, v451, rfl, ho0, ho1, ho2, hb⟩; refine ⟨_, rfl, ?_⟩; have aB := zK (Kd.R_lower ho0 (below_size (zb HB))); have aF := zK (Kd.S_lower ho1 (below_size (zb HB))); have aG := zK (Kd.S_lower ho2 (below_size (zb HB))); replace aa := zK (blk_below (g := ab) (o := .cells #[.slice a6 aV.length a7, .int .i64 a0_1, .slice aY aP.length aZ, .slice aW aO.length aX] 28 (0, 0)) (zk aa) hb); replace ad := zK (blk_below (g := ae) (o := .cells #[.slice none 0 0, .int .i64 0, .slice none 0 0, .slice none 0 0] 28 (0, 0)) (zk ad) hb); replace HB := zK (below_step (zb HB) hb); (try clear hb); (try clear hk); (try clear ho0); (try clear ho1); (try clear ho2); obtain ⟨ap, ao, eo12⟩ := Kd.R_slice aB.out; subst eo12; obtain ⟨bB, bC, bD, bE⟩ := zL4 aa; obtain ⟨bF, bG, bH, bI⟩ := zF4 aa; obtain ⟨ax, aw, eo14⟩ := Kd.S_slice aF.out; subst eo14; obtain ⟨aA, ay, eo15⟩ := Kd.S_slice aG.out; subst eo15) | ((with_reducible refine gate_callee (f := 34) rfl ?_); refine goesL_ (some 14) rfl rfl Try.func34 (by kernel_rfl) rfl #[.agg #[.slice ap ac.length ao, .int .i64 an, .slice ax al.length aw, .slice aA am.length ay], .int .i64 a1] rfl zg ?_; (with_reducible refine (spec_TrayAt.calls k _ _ ac an _ _ al _ _ am a1 ag _ ?side1 ?side2 ?side3 ?side4 ?side5 ?side6 A5.out).mono ?_); (case side1 => refine (Kd.R_reads' (e := 3) (base := w.heap.size) (ok := fun k_ => True) (n := ac.length) (c := ao) ?_).2.2; exact (by (with_reducible repeat (first | apply Kd.R_alloc | apply Kd.R_drewN | apply Kd.R_drew)); exact (Kd.R_mono (Kd.R_far (p := ⟨ab, 3, none⟩) (Kd.R_far (p := ⟨ab, 2, none⟩) (Kd.R_far (p := ⟨ab, 1, none⟩) (Kd.R_far (p := ⟨ab, 0, none⟩) (Kd.R_types aB.out aa.out (by decide)) (fun _ hk => hk.2) (.slice ap ac.length ao)) (fun _ hk => hk.2) (.int .i64 an)) (fun _ hk => hk.2) (.slice ax al.length aw)) (fun _ hk => hk.2) (.slice aA am.length ay)) (fun _ h_ => h_.1)))); (case side2 => exact (Kd.R_reads' aB.out).2.1); (case side3 => refine (Kd.S_reads' (e := 69) (base := w.heap.size) (ok := fun k_ => some k_ ≠ (.slice ap ac.length ao : Value).ownBlock) (n := al.length) (c := aw) ?_).2.2; exact (by (with_reducible repeat (first | apply Kd.S_alloc | apply Kd.S_drewN | apply Kd.S_drew)); exact (Kd.S_mono (Kd.S_far (p := ⟨ab, 3, none⟩) (Kd.S_far (p := ⟨ab, 2, none⟩) (Kd.S_far (p := ⟨ab, 1, none⟩) (Kd.S_far (p := ⟨ab, 0, none⟩) (Kd.S_types aF.out aa.out (by decide)) (fun _ hk => hk.2) (.slice ap ac.length ao)) (fun _ hk => hk.2) (.int .i64 an)) (fun _ hk => hk.2) (.slice ax al.length aw)) (fun _ hk => hk.2) (.slice aA am.length ay)) (fun _ h_ => h_.1)))); (case side4 => exact (Kd.S_reads' aF.out).2.1); (case side5 => refine (Kd.S_reads' (e := 74) (base := w.heap.size) (ok := fun k_ => some k_ ≠ (.slice ap ac.length ao : Value).ownBlock) (n := am.length) (c := ay) ?_).2.2; exact (by (with_reducible repeat (first | apply Kd.S_alloc | apply Kd.S_drewN | apply Kd.S_drew)); exact (Kd.S_mono (Kd.S_far (p := ⟨ab, 3, none⟩) (Kd.S_far (p := ⟨ab, 2, none⟩) (Kd.S_far (p := ⟨ab, 1, none⟩) (Kd.S_far (p := ⟨ab, 0, none⟩) (Kd.S_types aG.out aa.out (by decide)) (fun _ hk => hk.2) (.slice ap ac.length ao)) (fun _ hk => hk.2) (.int .i64 an)) (fun _ hk => hk.2) (.slice ax al.length aw)) (fun _ hk => hk.2) (.slice aA am.length ay)) (fun _ h_ => h_.1)))); (case side6 => exact (Kd.S_reads' aG.out).2.1); rintro e bk ⟨rfl, hb⟩; refine ⟨_, rfl, ?_⟩; replace aB := zK (Kd.R_below (by (with_reducible repeat (first | apply Kd.R_alloc | apply Kd.R_drewN | apply Kd.R_drew)); exact (Kd.R_mono (Kd.R_far (p := ⟨ab, 3, none⟩) (Kd.R_far (p := ⟨ab, 2, none⟩) (Kd.R_far (p := ⟨ab, 1, none⟩) (Kd.R_far (p := ⟨ab, 0, none⟩) (Kd.R_types aB.out aa.out (by decide)) (fun _ hk => hk.2) (.slice ap ac.length ao)) (fun _ hk => hk.2) (.int .i64 an)) (fun _ hk => hk.2) (.slice ax al.length aw)) (fun _ hk => hk.2) (.slice aA am.length ay)) (fun _ h_ => h_.1))) hb); replace aF := zK (Kd.S_below (by (with_reducible repeat (first | apply Kd.S_alloc | apply Kd.S_drewN | apply Kd.S_drew)); exact (Kd.S_mono (Kd.S_far (p := ⟨ab, 3, none⟩) (Kd.S_far (p := ⟨ab, 2, none⟩) (Kd.S_far (p := ⟨ab, 1, none⟩) (Kd.S_far (p := ⟨ab, 0, none⟩) (Kd.S_types aF.out aa.out (by decide)) (fun _ hk => hk.2) (.slice ap ac.length ao)) (fun _ hk => hk.2) (.int .i64 an)) (fun _ hk => hk.2) (.slice ax al.length aw)) (fun _ hk => hk.2) (.slice aA am.length ay)) (fun _ h_ => h_.1))) hb); replace aG := zK (Kd.S_below (by (with_reducible repeat (first | apply Kd.S_alloc | apply Kd.S_drewN | apply Kd.S_drew)); exact (Kd.S_mono (Kd.S_far (p := ⟨ab, 3, none⟩) (Kd.S_far (p := ⟨ab, 2, none⟩) (Kd.S_far (p := ⟨ab, 1, none⟩) (Kd.S_far (p := ⟨ab, 0, none⟩) (Kd.S_types aG.out aa.out (by decide)) (fun _ hk => hk.2) (.slice ap ac.length ao)) (fun _ hk => hk.2) (.int .i64 an)) (fun _ hk => hk.2) (.slice ax al.length aw)) (fun _ hk => hk.2) (.slice aA am.length ay)) (fun _ h_ => h_.1))) hb); replace aa := zK (blk_below (g := ab) (o := .cells #[.slice ap ac.length ao, .int .i64 an, .slice ax al.length aw, .slice aA am.length ay] 28 (0, 0)) (by (with_reducible repeat (first | refine zN ?_ _ | refine zD ?_ | refine zA ?_ _)); refine blk_put (cs := #[.slice ap ac.length ao, .int .i64 an, .slice ax al.length aw, .slice aW aO.length aX]) ?_ 3 _ rfl; (with_reducible repeat (first | refine zN ?_ _ | refine zD ?_ | refine zA ?_ _)); refine blk_put (cs := #[.slice ap ac.length ao, .int .i64 an, .slice aY aP.length aZ, .slice aW aO.length aX]) ?_ 2 _ rfl; (with_reducible repeat (first | refine zN ?_ _ | refine zD ?_ | refine zA ?_ _)); refine blk_put (cs := #[.slice ap ac.length ao, .int .i64 a0_1, .slice aY aP.length aZ, .slice aW aO.length aX]) ?_ 1 _ rfl; (with_reducible repeat (first | refine zN ?_ _ | refine zD ?_ | refine zA ?_ _)); refine blk_put (cs := #[.slice a6 aV.length a7, .int .i64 a0_1, .slice aY aP.length aZ, .slice aW aO.length aX]) ?_ 0 _ rfl; (with_reducible repeat (first | refine zN ?_ _ | refine zD ?_ | refine zA ?_ _)); exact aa.out) hb); replace ad := zK (blk_below (g := ae) (o := .cells #[.slice none 0 0, .int .i64 0, .slice none 0 0, .slice none 0 0] 28 (0, 0)) (zh ad au) hb); replace HB := zK (below_step (zb HB) hb); (try clear hb); (try clear hk)))
 go_cut [33] (fun v33 wc => ∃ (kq : Nat) (bg : Bool), v33 = .bool bg ∧ Aside0 (spec_Induct.j0 kq a2 ag bg ac an al am = some (r1, r2, r3, r4, r5)) ∧ Aside0 (kq ≤ k) ∧ Aside0 (Kd.R (Kd.int .i64) 3 wc w.heap.size (fun _ => True) (.slice ap ac.length ao) ac) ∧ Aside0 (Kd.S k69 69 wc w.heap.size (fun k_ => some k_ ≠ ((.slice ap ac.length ao) : Value).ownBlock) (.slice ax al.length aw) al) ∧ Aside0 (Kd.S k74 74 wc w.heap.size (fun k_ => some k_ ≠ ((.slice ap ac.length ao) : Value).ownBlock) (.slice aA am.length ay) am) ∧ Aside0 (wc.heap[ab]? = some (.cells #[(.slice ap ac.length ao), .int .i64 an, (.slice ax al.length aw), (.slice aA am.length ay)] 28 (0, 0))) ∧ Aside0 (wc.heap[ae]? = some (.cells #[(.slice none 0 0), .int .i64 0, (.slice none 0 0), (.slice none 0 0)] 28 (0, 0))) ∧ Aside0 (Below w.heap.size w wc))
 case first =>
  have H := HC6.out; clear HC6
  by_cases bQ : ag < 0
  ·rw [if_pos bQ] at H
   have bY : decide (ag < 0) = true := decide_eq_true bQ
   clear bQ; have H' := zK H; clear H
   go_wp2
   go_meet
   case rel => exact ⟨_, (true), zf, H', ⟨by first | omega | exact Nat.le_refl _⟩, ⟨zR aB⟩, ⟨zT aF⟩, ⟨zT aG⟩, ⟨zk aa⟩, ⟨zk ad⟩, ⟨zb HB⟩⟩
  ·rw [if_neg bQ] at H
   have bY : decide (ag < 0) = false := decide_eq_false bQ
   clear bQ
   by_cases c18 : 0 ≤ ag
   ·rw [if_pos c18] at H
    have c18b0 : decide (0 ≤ ag) = true := decide_eq_true c18
    clear c18
    by_cases c19 : ag < (ac.length : Int)
    ·rw [if_pos c19] at H
     have c19b0 : decide (ag < (ac.length : Int)) = true := decide_eq_true c19
     clear c19
     by_cases bO : (rd ac ag) = 0
     ·rw [if_pos bO] at H
      have bZ : ((rd ac ag) == 0) = true := beq_iff_eq.mpr bO
      have b0 : ((rd ac ag) != 0) = false := bne_eq_false_iff_eq.mpr bO
      clear bO
      by_cases bR : a2 < 1
      ·rw [if_pos bR] at H
       have b1 : decide (a2 < 1) = true := decide_eq_true bR
       clear bR; have H' := zK H; clear H; have hnb22 := aE.out; have hnc22 := au.out
       obtain ⟨hcz23_0, hcz23_1, hcz23_2, hcz23_3⟩ := zL4 aa
       obtain ⟨hfz23_0, hfz23_1, hfz23_2, hfz23_3⟩ := zF4 aa
       have ba : 0 ≤ (ag : Int) := zd
       have bb : ag < (ac.length : Int) := zd
       obtain ⟨bl, bm, bh⟩ := Kd.at_int (Kd.R_reads' aB.out).2.2 ag ba bb
       cases bm
       replace ba := eq_true ba; replace bb := eq_true bb
       go_wp2
       go_meet
       case rel => exact ⟨_, (true), zf, H', ⟨by first | omega | exact Nat.le_refl _⟩, ⟨zR aB⟩, ⟨zT aF⟩, ⟨zT aG⟩, ⟨zk aa⟩, ⟨zk ad⟩, ⟨zb HB⟩⟩
      ·rw [if_neg bR] at H
       have b1 : decide (a2 < 1) = false := decide_eq_false bR
       clear bR; replace H := Option.bind_eq_some_iff.mp H
       obtain ⟨bc, b2, H⟩ := H
       (try dsimp only at H)
       have A24 := zK b2; clear b2; have H' := zK H; clear H; have hnb25 := aE.out; have hnc25 := au.out
       obtain ⟨hcz26_0, hcz26_1, hcz26_2, hcz26_3⟩ := zL4 aa
       obtain ⟨hfz26_0, hfz26_1, hfz26_2, hfz26_3⟩ := zF4 aa
       have ba : 0 ≤ (ag : Int) := zd
       have bb : ag < (ac.length : Int) := zd
       obtain ⟨bl, bm, bh⟩ := Kd.at_int (Kd.R_reads' aB.out).2.2 ag ba bb
       cases bm
       replace ba := eq_true ba; replace bb := eq_true bb
       go_wp2_with (go_at_call 87; (with_reducible refine (spec_l05In.calls k _ _ ac an _ _ al _ _ am a2 bc _ ?side1 ?side2 ?side3 ?side4 ?side5 ?side6 A24.out).mono ?_); (case side1 => exact zs (Kd.R_reads' aB.out).2.2); (case side2 => exact (Kd.R_reads' aB.out).2.1); (case side3 => exact zs (Kd.S_reads' aF.out).2.2); (case side4 => exact (Kd.S_reads' aF.out).2.1); (case side5 => exact zs (Kd.S_reads' aG.out).2.2); (case side6 => exact (Kd.S_reads' aG.out).2.1); rintro e w27 ⟨rfl, hb⟩; replace aB := zK (Kd.R_below (zR aB) hb); replace aF := zK (Kd.S_below (zT aF) hb); replace aG := zK (Kd.S_below (zT aG) hb); replace aa := zK (blk_below (g := ab) (o := .cells #[.slice (some bl) ac.length ao, .int .i64 an, .slice ax al.length aw, .slice aA am.length ay] 28 (0, 0)) (zk aa) hb); replace ad := zK (blk_below (g := ae) (o := .cells #[.slice none 0 0, .int .i64 0, .slice none 0 0, .slice none 0 0] 28 (0, 0)) (zk ad) hb); replace HB := zK (below_step (zb HB) hb); (try clear hb))
       go_meet
       case rel => exact ⟨_, (bc), zf, H', ⟨by first | omega | exact Nat.le_refl _⟩, ⟨zR aB⟩, ⟨zT aF⟩, ⟨zT aG⟩, ⟨zk aa⟩, ⟨zk ad⟩, ⟨zb HB⟩⟩
     ·rw [if_neg bO] at H
      have bZ : ((rd ac ag) == 0) = false := beq_eq_false_iff_ne.mpr bO
      have b0 : ((rd ac ag) != 0) = true := bne_iff_ne.mpr bO
      have H' := zK H; clear H; have hnb28 := aE.out; have hnc28 := au.out
      obtain ⟨hcz29_0, hcz29_1, hcz29_2, hcz29_3⟩ := zL4 aa
      obtain ⟨hfz29_0, hfz29_1, hfz29_2, hfz29_3⟩ := zF4 aa
      have ba : 0 ≤ (ag : Int) := zd
      have bb : ag < (ac.length : Int) := zd
      obtain ⟨bl, bm, bh⟩ := Kd.at_int (Kd.R_reads' aB.out).2.2 ag ba bb
      cases bm
      replace ba := eq_true ba; replace bb := eq_true bb
      go_wp2
      go_meet
      case rel => exact ⟨_, (true), zf, H', ⟨by first | omega | exact Nat.le_refl _⟩, ⟨zR aB⟩, ⟨zT aF⟩, ⟨zT aG⟩, ⟨zk aa⟩, ⟨zk ad⟩, ⟨zb HB⟩⟩
    ·rw [if_neg c19] at H
     exact absurd H (by simp)
   ·rw [if_neg c18] at H
    exact absurd H (by simp)
 case rest =>
  clear HC6 br bs bu bv bB bC bD bE bw bx bz bA bF bG bH bI
  obtain ⟨kq, bg, rfl, HA, HJ5, ah, ai, aj, aa, ad, HB⟩ := hcut
  cases kq with
  | zero => exact absurd HA.out (by simp [spec_Induct.j0])
  | succ kj5 =>
   have H := HA.out; clear HA
   simp only [spec_Induct.j0] at H
   by_cases c30 : bg = true
   ·subst c30
    rw [if_pos rfl] at H
    simp only [Option.some.injEq, Prod.mk.injEq] at H
    obtain ⟨rfl, rfl, rfl, rfl, rfl⟩ := H
    have hnb31 := aE.out; have hnc31 := au.out
    obtain ⟨hcz32_0, hcz32_1, hcz32_2, hcz32_3⟩ := zL4 aa
    obtain ⟨hfz32_0, hfz32_1, hfz32_2, hfz32_3⟩ := zF4 aa
    obtain ⟨hcz33_0, hcz33_1, hcz33_2, hcz33_3⟩ := zL4 ad
    obtain ⟨hfz33_0, hfz33_1, hfz33_2, hfz33_3⟩ := zF4 ad
    go_wp2
    refine bodyPost_ret (results_ct rfl _ _ ae 28 #[.slice ap ac.length ao, .int .i64 an, .slice ax al.length aw, .slice aA am.length ay] (0, 0) _ rfl (by (with_reducible repeat (first | refine zN ?_ _ | refine zD ?_ | refine zA ?_ _)); refine blk_put (cs := #[.slice ap ac.length ao, .int .i64 an, .slice ax al.length aw, .slice none 0 0]) ?_ 3 _ rfl; (with_reducible repeat (first | refine zN ?_ _ | refine zD ?_ | refine zA ?_ _)); refine blk_put (cs := #[.slice ap ac.length ao, .int .i64 an, .slice none 0 0, .slice none 0 0]) ?_ 2 _ rfl; (with_reducible repeat (first | refine zN ?_ _ | refine zD ?_ | refine zA ?_ _)); refine blk_put (cs := #[.slice ap ac.length ao, .int .i64 0, .slice none 0 0, .slice none 0 0]) ?_ 1 _ rfl; (with_reducible repeat (first | refine zN ?_ _ | refine zD ?_ | refine zA ?_ _)); refine blk_put (cs := #[.slice none 0 0, .int .i64 0, .slice none 0 0, .slice none 0 0]) ?_ 0 _ rfl; (with_reducible repeat (first | refine zN ?_ _ | refine zD ?_ | refine zA ?_ _)); exact ad.out) Try.underlying28 rfl (by kernel_rfl)) rfl ?_
    exact ⟨_, _, _, ze, by (with_reducible repeat (first | apply Kd.R_alloc | apply Kd.R_drewN | apply Kd.R_drew)); exact Kd.R_mono (Kd.R_far (p := ⟨ae, 3, none⟩) (Kd.R_far (p := ⟨ae, 2, none⟩) (Kd.R_far (p := ⟨ae, 1, none⟩) (Kd.R_far (p := ⟨ae, 0, none⟩) (Kd.R_types ah.out ad.out (by decide)) (fun _ hk => hk.2) (.slice ap ac.length ao)) (fun _ hk => hk.2) (.int .i64 an)) (fun _ hk => hk.2) (.slice ax al.length aw)) (fun _ hk => hk.2) (.slice aA am.length ay)) (fun _ hk => trivial), by (with_reducible repeat (first | apply Kd.S_alloc | apply Kd.S_drewN | apply Kd.S_drew)); exact Kd.S_mono (Kd.S_far (p := ⟨ae, 3, none⟩) (Kd.S_far (p := ⟨ae, 2, none⟩) (Kd.S_far (p := ⟨ae, 1, none⟩) (Kd.S_far (p := ⟨ae, 0, none⟩) (Kd.S_types ai.out ad.out (by decide)) (fun _ hk => hk.2) (.slice ap ac.length ao)) (fun _ hk => hk.2) (.int .i64 an)) (fun _ hk => hk.2) (.slice ax al.length aw)) (fun _ hk => hk.2) (.slice aA am.length ay)) (fun _ hk => hk.1), by (with_reducible repeat (first | apply Kd.S_alloc | apply Kd.S_drewN | apply Kd.S_drew)); exact Kd.S_mono (Kd.S_far (p := ⟨ae, 3, none⟩) (Kd.S_far (p := ⟨ae, 2, none⟩) (Kd.S_far (p := ⟨ae, 1, none⟩) (Kd.S_far (p := ⟨ae, 0, none⟩) (Kd.S_types aj.out ad.out (by decide)) (fun _ hk => hk.2) (.slice ap ac.length ao)) (fun _ hk => hk.2) (.int .i64 an)) (fun _ hk => hk.2) (.slice ax al.length aw)) (fun _ hk => hk.2) (.slice aA am.length ay)) (fun _ hk => hk.1), zb HB⟩
   ·replace c30 := Bool.eq_false_iff.mpr c30
    subst c30
    rw [if_neg (show ¬ (false = true) by decide)] at H; replace H := Option.bind_eq_some_iff.mp H
    obtain ⟨⟨aq, aH, aD, aI⟩, b3, H⟩ := H
    (try dsimp only at H)
    have A34 := zK b3; clear b3
    by_cases c35 : 0 ≤ ag
    ·rw [if_pos c35] at H
     have c35b0 : decide (0 ≤ ag) = true := decide_eq_true c35
     clear c35
     by_cases c36 : ag < (aq.length : Int)
     ·rw [if_pos c36] at H
      have c36b0 : decide (ag < (aq.length : Int)) = true := decide_eq_true c36
      clear c36
      obtain ⟨b4, bn⟩ : ∃ y_ : List Int, y_ = (aq.set (ag : Int).toNat a2) := ⟨_, rfl⟩
      replace H : (some (b4, aH, aD, aI, true)) = some (r1, r2, r3, r4, r5) := by rw [bn]; with_reducible exact H
      have Ny467 := zK bn; clear bn
      simp only [Option.some.injEq, Prod.mk.injEq] at H
      obtain ⟨rfl, rfl, rfl, rfl, rfl⟩ := H
      have hnb38 := aE.out; have hnc38 := au.out
      obtain ⟨hcz39_0, hcz39_1, hcz39_2, hcz39_3⟩ := zL4 aa
      obtain ⟨hfz39_0, hfz39_1, hfz39_2, hfz39_3⟩ := zF4 aa
      go_wp2_with (first | ((with_reducible refine gate_callee (f := 68) rfl ?_); refine goesL_ (some 36) rfl rfl Try.func68 (by kernel_rfl) rfl #[.agg #[.slice ap ac.length ao, .int .i64 an, .slice ax al.length aw, .slice aA am.length ay]] rfl zg ?_; (with_reducible refine (spec_l05Copy.calls kj5 _ _ ac an _ _ al _ _ am aq aH aD aI _ ?side1 ?side2 ?side3 ?side4 ?side5 ?side6 A34.out).mono ?_); (case side1 => exact zs (Kd.R_reads' ah.out).2.2); (case side2 => exact (Kd.R_reads' ah.out).2.1); (case side3 => exact zs (Kd.S_reads' ai.out).2.2); (case side4 => exact (Kd.S_reads' ai.out).2.1); (case side5 => exact zs (Kd.S_reads' aj.out).2.2); (case side6 => exact (Kd.S_reads' aj.out).2.1); rintro e w40 ⟨v457, v461, v464, rfl, ho0, ho1, ho2, hb⟩; refine ⟨_, rfl, ?_⟩; have aC := zK (Kd.R_lower (Kd.R_new' ho0 (Kd.R_lt (zR ah))) (below_size (zb HB))); have aT := zK (Kd.S_lower (Kd.S_new' (Kd.S_new' ho1 (Kd.R_lt (zR ah))) (Kd.S_lt (zT ai))) (below_size (zb HB))); replace ai := zK (Kd.S_mono (Kd.S_told (Kd.S_told (Kd.S_old (zT ai) hb) (Kd.R_base ho0)) (Kd.S_base ho1)) (fun _ h_ => h_.1)); have aU := zK (Kd.S_lower (Kd.S_new' (Kd.S_new' ho2 (Kd.R_lt (zR ah))) (Kd.S_lt (zT aj))) (below_size (zb HB))); replace ah := zK (Kd.R_elder' (zR ah) (Kd.R_base ho0) hb); replace aj := zK (Kd.S_mono (Kd.S_told (Kd.S_told (Kd.S_old (zT aj) hb) (Kd.R_base ho0)) (Kd.S_base ho2)) (fun _ h_ => h_.1)); replace aa := zK (blk_below (g := ab) (o := .cells #[.slice ap ac.length ao, .int .i64 an, .slice ax al.length aw, .slice aA am.length ay] 28 (0, 0)) (zk aa) hb); replace ad := zK (blk_below (g := ae) (o := .cells #[.slice none 0 0, .int .i64 0, .slice none 0 0, .slice none 0 0] 28 (0, 0)) (zk ad) hb); replace HB := zK (below_step (zb HB) hb); (try clear hb); (try clear hk); (try clear ho0); (try clear ho1); (try clear ho2)) | ((with_reducible refine gate_dst (N := 9) rfl ?_); refine zX 9 #[.slice none 0 0, .int .i64 0, .slice none 0 0, .slice none 0 0] 28 ?_; intro af hg b5 hbox hb; replace ah := zK (Kd.R_below (zR ah) hb); replace ai := zK (Kd.S_below (zT ai) hb); replace aj := zK (Kd.S_below (zT aj) hb); replace aC := zK (Kd.R_below (zR aC) hb); replace aT := zK (Kd.S_below (zT aT) hb); replace aU := zK (Kd.S_below (zT aU) hb); have ak := zK (hbox); have GW466 := zK ((by rw [hg]; exact (below_size (zb HB)) : w.heap.size ≤ af)); have bN := zK ((by rw [hg]; exact (below_size (zb HB)) : w.heap.size ≤ af)); replace HB := zK (below_step (zb HB) hb); have aK := zK ((by rw [hg]; exact Nat.ne_of_lt (blk_lt (g := ab) (o := .cells #[.slice ap ac.length ao, .int .i64 an, .slice ax al.length aw, .slice aA am.length ay] 28 (0, 0)) (zk aa)) : ab ≠ af)); have bi := zK ((by rw [hg]; exact Nat.ne_of_gt (blk_lt (g := ab) (o := .cells #[.slice ap ac.length ao, .int .i64 an, .slice ax al.length aw, .slice aA am.length ay] 28 (0, 0)) (zk aa)) : af ≠ ab)); replace aa := zK (blk_below (g := ab) (o := .cells #[.slice ap ac.length ao, .int .i64 an, .slice ax al.length aw, .slice aA am.length ay] 28 (0, 0)) (zk aa) hb); have aL := zK ((by rw [hg]; exact Nat.ne_of_lt (blk_lt (g := ae) (o := .cells #[.slice none 0 0, .int .i64 0, .slice none 0 0, .slice none 0 0] 28 (0, 0)) (zk ad)) : ae ≠ af)); have bj := zK ((by rw [hg]; exact Nat.ne_of_gt (blk_lt (g := ae) (o := .cells #[.slice none 0 0, .int .i64 0, .slice none 0 0, .slice none 0 0] 28 (0, 0)) (zk ad)) : af ≠ ae)); replace ad := zK (blk_below (g := ae) (o := .cells #[.slice none 0 0, .int .i64 0, .slice none 0 0, .slice none 0 0] 28 (0, 0)) (zk ad) hb); clear hb hbox hg; obtain ⟨aQ, ar, eo42⟩ := Kd.R_slice aC.out; subst eo42; have hnb43 := bi.out; have hnc43 := aK.out; have hnb44 := bj.out; have hnc44 := aL.out; obtain ⟨hcz45_0, hcz45_1, hcz45_2, hcz45_3⟩ := zL4 ak; obtain ⟨hfz45_0, hfz45_1, hfz45_2, hfz45_3⟩ := zF4 ak; obtain ⟨aM, aN, eo46⟩ := Kd.S_slice aT.out; subst eo46; obtain ⟨aR, aS, eo47⟩ := Kd.S_slice aU.out; subst eo47) | ((with_reducible refine gate_store (t := 28) (p := 9) rfl ?_); refine store_event (t := 28) (p := 9) (v := ?vo_w48) (w1 := ((((b5.setCell ⟨af, 0, none⟩ (.slice aQ aq.length ar)).setCell ⟨af, 1, none⟩ (.int .i64 aH)).setCell ⟨af, 2, none⟩ (.slice aM aD.length aN)).setCell ⟨af, 3, none⟩ (.slice aR aI.length aS))) ?hg ?ho ?hn ?hr ?_; (case ho => rfl); (case hg => rfl); (case hn => rfl); (case hr => first | (go_simp; done) | (go_simp; rfl)); intro bd hw; have a0 : Aside0 (Kd.R (Kd.int .i64) 3 bd w.heap.size (fun k_ => some k_ ≠ (.slice aQ aq.length ar : Value).ownBlock) (.slice ap ac.length ao) ac) := ⟨(by rw [hw]; exact (by (with_reducible repeat (first | apply Kd.R_alloc | apply Kd.R_drewN | apply Kd.R_drew)); exact Kd.R_mono (Kd.R_far (p := ⟨af, 3, none⟩) (Kd.R_far (p := ⟨af, 2, none⟩) (Kd.R_far (p := ⟨af, 1, none⟩) (Kd.R_far (p := ⟨af, 0, none⟩) (Kd.R_types ah.out ak.out (by decide)) (fun _ hk => hk.2) (.slice aQ aq.length ar)) (fun _ hk => hk.2) (.int .i64 aH)) (fun _ hk => hk.2) (.slice aM aD.length aN)) (fun _ hk => hk.2) (.slice aR aI.length aS)) (fun _ hk => hk.1.2)))⟩; have a3 : Aside0 (Kd.S k69 69 bd w.heap.size (fun k_ => some k_ ≠ (.slice ap ac.length ao : Value).ownBlock ∧ some k_ ≠ (.slice aQ aq.length ar : Value).ownBlock ∧ some k_ ≠ (.slice aM aD.length aN : Value).ownBlock) (.slice ax al.length aw) al) := ⟨(by rw [hw]; exact (by (with_reducible repeat (first | apply Kd.S_alloc | apply Kd.S_drewN | apply Kd.S_drew)); exact Kd.S_mono (Kd.S_far (p := ⟨af, 3, none⟩) (Kd.S_far (p := ⟨af, 2, none⟩) (Kd.S_far (p := ⟨af, 1, none⟩) (Kd.S_far (p := ⟨af, 0, none⟩) (Kd.S_types ai.out ak.out (by decide)) (fun _ hk => hk.2) (.slice aQ aq.length ar)) (fun _ hk => hk.2) (.int .i64 aH)) (fun _ hk => hk.2) (.slice aM aD.length aN)) (fun _ hk => hk.2) (.slice aR aI.length aS)) (fun _ hk => ⟨hk.1.1.1, ⟨hk.1.1.2, hk.1.2⟩⟩)))⟩; have a4 : Aside0 (Kd.S k74 74 bd w.heap.size (fun k_ => some k_ ≠ (.slice ap ac.length ao : Value).ownBlock ∧ some k_ ≠ (.slice aQ aq.length ar : Value).ownBlock ∧ some k_ ≠ (.slice aR aI.length aS : Value).ownBlock) (.slice aA am.length ay) am) := ⟨(by rw [hw]; exact (by (with_reducible repeat (first | apply Kd.S_alloc | apply Kd.S_drewN | apply Kd.S_drew)); exact Kd.S_mono (Kd.S_far (p := ⟨af, 3, none⟩) (Kd.S_far (p := ⟨af, 2, none⟩) (Kd.S_far (p := ⟨af, 1, none⟩) (Kd.S_far (p := ⟨af, 0, none⟩) (Kd.S_types aj.out ak.out (by decide)) (fun _ hk => hk.2) (.slice aQ aq.length ar)) (fun _ hk => hk.2) (.int .i64 aH)) (fun _ hk => hk.2) (.slice aM aD.length aN)) (fun _ hk => hk.2) (.slice aR aI.length aS)) (fun _ hk => ⟨hk.1.1.1, ⟨hk.1.1.2, hk.1.2⟩⟩)))⟩; have a5 : Aside0 (Kd.R (Kd.int .i64) 3 bd w.heap.size (fun k_ => some k_ ≠ (.slice ap ac.length ao : Value).ownBlock) (.slice aQ aq.length ar) aq) := ⟨(by rw [hw]; exact (by (with_reducible repeat (first | apply Kd.R_alloc | apply Kd.R_drewN | apply Kd.R_drew)); exact Kd.R_mono (Kd.R_far (p := ⟨af, 3, none⟩) (Kd.R_far (p := ⟨af, 2, none⟩) (Kd.R_far (p := ⟨af, 1, none⟩) (Kd.R_far (p := ⟨af, 0, none⟩) (Kd.R_types aC.out ak.out (by decide)) (fun _ hk => hk.2) (.slice aQ aq.length ar)) (fun _ hk => hk.2) (.int .i64 aH)) (fun _ hk => hk.2) (.slice aM aD.length aN)) (fun _ hk => hk.2) (.slice aR aI.length aS)) (fun _ hk => hk.1.2)))⟩; have a8 : Aside0 (Kd.S k69 69 bd w.heap.size (fun k_ => some k_ ≠ (.slice ap ac.length ao : Value).ownBlock ∧ some k_ ≠ (.slice ax al.length aw : Value).ownBlock ∧ some k_ ≠ (.slice aQ aq.length ar : Value).ownBlock) (.slice aM aD.length aN) aD) := ⟨(by rw [hw]; exact (by (with_reducible repeat (first | apply Kd.S_alloc | apply Kd.S_drewN | apply Kd.S_drew)); exact Kd.S_mono (Kd.S_far (p := ⟨af, 3, none⟩) (Kd.S_far (p := ⟨af, 2, none⟩) (Kd.S_far (p := ⟨af, 1, none⟩) (Kd.S_far (p := ⟨af, 0, none⟩) (Kd.S_types aT.out ak.out (by decide)) (fun _ hk => hk.2) (.slice aQ aq.length ar)) (fun _ hk => hk.2) (.int .i64 aH)) (fun _ hk => hk.2) (.slice aM aD.length aN)) (fun _ hk => hk.2) (.slice aR aI.length aS)) (fun _ hk => ⟨hk.1.1.2, ⟨hk.1.2, hk.1.1.1⟩⟩)))⟩; have a9 : Aside0 (Kd.S k74 74 bd w.heap.size (fun k_ => some k_ ≠ (.slice ap ac.length ao : Value).ownBlock ∧ some k_ ≠ (.slice aA am.length ay : Value).ownBlock ∧ some k_ ≠ (.slice aQ aq.length ar : Value).ownBlock) (.slice aR aI.length aS) aI) := ⟨(by rw [hw]; exact (by (with_reducible repeat (first | apply Kd.S_alloc | apply Kd.S_drewN | apply Kd.S_drew)); exact Kd.S_mono (Kd.S_far (p := ⟨af, 3, none⟩) (Kd.S_far (p := ⟨af, 2, none⟩) (Kd.S_far (p := ⟨af, 1, none⟩) (Kd.S_far (p := ⟨af, 0, none⟩) (Kd.S_types aU.out ak.out (by decide)) (fun _ hk => hk.2) (.slice aQ aq.length ar)) (fun _ hk => hk.2) (.int .i64 aH)) (fun _ hk => hk.2) (.slice aM aD.length aN)) (fun _ hk => hk.2) (.slice aR aI.length aS)) (fun _ hk => ⟨hk.1.1.2, ⟨hk.1.2, hk.1.1.1⟩⟩)))⟩; have bf : Aside0 (bd.heap[ab]? = some (.cells #[.slice ap ac.length ao, .int .i64 an, .slice ax al.length aw, .slice aA am.length ay] 28 (0, 0))) := ⟨(by rw [hw]; exact (zh aa aK))⟩; have bo : Aside0 (bd.heap[ae]? = some (.cells #[.slice none 0 0, .int .i64 0, .slice none 0 0, .slice none 0 0] 28 (0, 0))) := ⟨(by rw [hw]; exact (zh ad aL))⟩; have bp : Aside0 (bd.heap[af]? = some (.cells #[.slice aQ aq.length ar, .int .i64 aH, .slice aM aD.length aN, .slice aR aI.length aS] 28 (0, 0))) := ⟨(by rw [hw]; exact (by (with_reducible repeat (first | refine zN ?_ _ | refine zD ?_ | refine zA ?_ _)); refine blk_put (cs := #[.slice aQ aq.length ar, .int .i64 aH, .slice aM aD.length aN, .slice none 0 0]) ?_ 3 _ rfl; (with_reducible repeat (first | refine zN ?_ _ | refine zD ?_ | refine zA ?_ _)); refine blk_put (cs := #[.slice aQ aq.length ar, .int .i64 aH, .slice none 0 0, .slice none 0 0]) ?_ 2 _ rfl; (with_reducible repeat (first | refine zN ?_ _ | refine zD ?_ | refine zA ?_ _)); refine blk_put (cs := #[.slice aQ aq.length ar, .int .i64 0, .slice none 0 0, .slice none 0 0]) ?_ 1 _ rfl; (with_reducible repeat (first | refine zN ?_ _ | refine zD ?_ | refine zA ?_ _)); refine blk_put (cs := #[.slice none 0 0, .int .i64 0, .slice none 0 0, .slice none 0 0]) ?_ 0 _ rfl; (with_reducible repeat (first | refine zN ?_ _ | refine zD ?_ | refine zA ?_ _)); exact ak.out))⟩; have bM : Aside0 (Below w.heap.size w bd) := ⟨(by rw [hw]; exact (zb HB))⟩; clear hw; clear ah; clear ai; clear aj; clear aC; clear aT; clear aU; clear aa; clear ad; clear ak; clear HB; have ah := a0; have ai := a3; have aj := a4; have aC := a5; have aT := a8; have aU := a9; have aa := bf; have ad := bo; have ak := bp; have HB := bM; clear a0 a3 a4 a5 a8 a9 bf bo bp bM; obtain ⟨hcz49_0, hcz49_1, hcz49_2, hcz49_3⟩ := zL4 ak; obtain ⟨hfz49_0, hfz49_1, hfz49_2, hfz49_3⟩ := zF4 ak; have p37 : 0 ≤ (ag : Int) := zd; have q37 : (ag : Int) < ((aq.length : Int) : Int) := zd; obtain ⟨aJ, co37, eo37, cc, gl37, cl37, cd⟩ := Kd.R_form aC.out (by omega); (first | cases eo37); have GB37 := zK cc; have GG37 := zK cd; clear cc gl37 cd; obtain ⟨hx37_0, hf37_0⟩ := Kd.R_celln 0 aC.out (ag : Int) p37 q37; replace p37 := eq_true p37; replace q37 := eq_true q37; obtain ⟨hy50_, hz50_⟩ := Kd.R_celln 0 aC.out (ag : Int) (zd) (zd); have bP := Kd.R_putg aC.out (ag : Int) a2) | ((with_reducible refine gate_store (t := 3) (p := 41) rfl ?_); refine store_event (t := 3) (p := 41) (v := ?vo_w51) (w1 := (bd.setCell ⟨aJ, (ag : Int).toNat, none⟩ (.int .i64 a2))) ?hg ?ho ?hn ?hr ?_; (case ho => rfl); (case hg => rfl); (case hn => rfl); (case hr => first | (go_simp; done) | (go_simp; rfl)); intro bq hw; have hg : bd.grownBy bq (some aJ) := (by rw [hw]; exact bP.2); have hp_ : Kd.R (Kd.int .i64) 3 bq w.heap.size (fun k_ => some k_ ≠ (.slice ap ac.length ao : Value).ownBlock) (.slice (some ⟨aJ, 0, none⟩) aq.length ar) b4 := (by rw [hw, Ny467.out]; exact bP.1); clear bP; replace ah := zK (Kd.R_after (v := (.slice (some ⟨aJ, 0, none⟩) aq.length ar)) (v1 := (.slice (some ⟨aJ, 0, none⟩) aq.length ar)) (ok := (fun _ => True)) (by (with_reducible repeat (first | apply Kd.R_alloc | apply Kd.R_drewN | apply Kd.R_drew)); exact Kd.R_mono ah.out (fun _ hk => ⟨trivial, hk⟩)) hg (.inl rfl)); replace ai := zK (Kd.S_after (v := (.slice (some ⟨aJ, 0, none⟩) aq.length ar)) (v1 := (.slice (some ⟨aJ, 0, none⟩) aq.length ar)) (ok := (fun k_ => some k_ ≠ (.slice ap ac.length ao : Value).ownBlock ∧ some k_ ≠ (.slice aM aD.length aN : Value).ownBlock)) (by (with_reducible repeat (first | apply Kd.S_alloc | apply Kd.S_drewN | apply Kd.S_drew)); exact Kd.S_mono ai.out (fun _ hk => ⟨⟨hk.1, hk.2.2⟩, hk.2.1⟩)) hg (.inl rfl)); replace aj := zK (Kd.S_after (v := (.slice (some ⟨aJ, 0, none⟩) aq.length ar)) (v1 := (.slice (some ⟨aJ, 0, none⟩) aq.length ar)) (ok := (fun k_ => some k_ ≠ (.slice ap ac.length ao : Value).ownBlock ∧ some k_ ≠ (.slice aR aI.length aS : Value).ownBlock)) (by (with_reducible repeat (first | apply Kd.S_alloc | apply Kd.S_drewN | apply Kd.S_drew)); exact Kd.S_mono aj.out (fun _ hk => ⟨⟨hk.1, hk.2.2⟩, hk.2.1⟩)) hg (.inl rfl)); replace aa := zK (blk_grown (g := ab) (o := .cells #[.slice ap ac.length ao, .int .i64 an, .slice ax al.length aw, .slice aA am.length ay] 28 (0, 0)) (zk aa) hg (Kd.R_ne aC.out aa.out (by decide))); replace ad := zK (blk_grown (g := ae) (o := .cells #[.slice none 0 0, .int .i64 0, .slice none 0 0, .slice none 0 0] 28 (0, 0)) (zk ad) hg (Kd.R_ne aC.out ad.out (by decide))); replace aT := zK (Kd.S_after (v := (.slice (some ⟨aJ, 0, none⟩) aq.length ar)) (v1 := (.slice (some ⟨aJ, 0, none⟩) aq.length ar)) (ok := (fun k_ => some k_ ≠ (.slice ap ac.length ao : Value).ownBlock ∧ some k_ ≠ (.slice ax al.length aw : Value).ownBlock)) (by (with_reducible repeat (first | apply Kd.S_alloc | apply Kd.S_drewN | apply Kd.S_drew)); exact Kd.S_mono aT.out (fun _ hk => ⟨⟨hk.1, hk.2.1⟩, hk.2.2⟩)) hg (.inl rfl)); replace aU := zK (Kd.S_after (v := (.slice (some ⟨aJ, 0, none⟩) aq.length ar)) (v1 := (.slice (some ⟨aJ, 0, none⟩) aq.length ar)) (ok := (fun k_ => some k_ ≠ (.slice ap ac.length ao : Value).ownBlock ∧ some k_ ≠ (.slice aA am.length ay : Value).ownBlock)) (by (with_reducible repeat (first | apply Kd.S_alloc | apply Kd.S_drewN | apply Kd.S_drew)); exact Kd.S_mono aU.out (fun _ hk => ⟨⟨hk.1, hk.2.1⟩, hk.2.2⟩)) hg (.inl rfl)); replace ak := zK (blk_grown (g := af) (o := .cells #[.slice (some ⟨aJ, 0, none⟩) aq.length ar, .int .i64 aH, .slice aM aD.length aN, .slice aR aI.length aS] 28 (0, 0)) (zk ak) hg (Kd.R_ne aC.out ak.out (by decide))); replace aC := zK (hp_); replace HB := zK ((by rw [hw]; exact zS (HB.out) GB37.out : Below w.heap.size w bq)); clear hg hw hp_; obtain ⟨hcz52_0, hcz52_1, hcz52_2, hcz52_3⟩ := zL4 ak; obtain ⟨hfz52_0, hfz52_1, hfz52_2, hfz52_3⟩ := zF4 ak; obtain ⟨hcz53_0, hcz53_1, hcz53_2, hcz53_3⟩ := zL4 ad; obtain ⟨hfz53_0, hfz53_1, hfz53_2, hfz53_3⟩ := zF4 ad))
      refine bodyPost_ret (results_ct rfl _ _ ae 28 #[.slice (some ⟨aJ, 0, none⟩) aq.length ar, .int .i64 aH, .slice aM aD.length aN, .slice aR aI.length aS] (0, 0) _ rfl (by (with_reducible repeat (first | refine zN ?_ _ | refine zD ?_ | refine zA ?_ _)); refine blk_put (cs := #[.slice (some ⟨aJ, 0, none⟩) aq.length ar, .int .i64 aH, .slice aM aD.length aN, .slice none 0 0]) ?_ 3 _ rfl; (with_reducible repeat (first | refine zN ?_ _ | refine zD ?_ | refine zA ?_ _)); refine blk_put (cs := #[.slice (some ⟨aJ, 0, none⟩) aq.length ar, .int .i64 aH, .slice none 0 0, .slice none 0 0]) ?_ 2 _ rfl; (with_reducible repeat (first | refine zN ?_ _ | refine zD ?_ | refine zA ?_ _)); refine blk_put (cs := #[.slice (some ⟨aJ, 0, none⟩) aq.length ar, .int .i64 0, .slice none 0 0, .slice none 0 0]) ?_ 1 _ rfl; (with_reducible repeat (first | refine zN ?_ _ | refine zD ?_ | refine zA ?_ _)); refine blk_put (cs := #[.slice none 0 0, .int .i64 0, .slice none 0 0, .slice none 0 0]) ?_ 0 _ rfl; (with_reducible repeat (first | refine zN ?_ _ | refine zD ?_ | refine zA ?_ _)); exact ad.out) Try.underlying28 rfl (by kernel_rfl)) rfl ?_
      exact ⟨_, _, _, ze, by (with_reducible repeat (first | apply Kd.R_alloc | apply Kd.R_drewN | apply Kd.R_drew)); exact Kd.R_mono (Kd.R_far (p := ⟨ae, 3, none⟩) (Kd.R_far (p := ⟨ae, 2, none⟩) (Kd.R_far (p := ⟨ae, 1, none⟩) (Kd.R_far (p := ⟨ae, 0, none⟩) (Kd.R_types aC.out ad.out (by decide)) (fun _ hk => hk.2) (.slice (some ⟨aJ, 0, none⟩) aq.length ar)) (fun _ hk => hk.2) (.int .i64 aH)) (fun _ hk => hk.2) (.slice aM aD.length aN)) (fun _ hk => hk.2) (.slice aR aI.length aS)) (fun _ hk => trivial), by (with_reducible repeat (first | apply Kd.S_alloc | apply Kd.S_drewN | apply Kd.S_drew)); exact Kd.S_mono (Kd.S_far (p := ⟨ae, 3, none⟩) (Kd.S_far (p := ⟨ae, 2, none⟩) (Kd.S_far (p := ⟨ae, 1, none⟩) (Kd.S_far (p := ⟨ae, 0, none⟩) (Kd.S_types aT.out ad.out (by decide)) (fun _ hk => hk.2) (.slice (some ⟨aJ, 0, none⟩) aq.length ar)) (fun _ hk => hk.2) (.int .i64 aH)) (fun _ hk => hk.2) (.slice aM aD.length aN)) (fun _ hk => hk.2) (.slice aR aI.length aS)) (fun _ hk => hk.1.2), by (with_reducible repeat (first | apply Kd.S_alloc | apply Kd.S_drewN | apply Kd.S_drew)); exact Kd.S_mono (Kd.S_far (p := ⟨ae, 3, none⟩) (Kd.S_far (p := ⟨ae, 2, none⟩) (Kd.S_far (p := ⟨ae, 1, none⟩) (Kd.S_far (p := ⟨ae, 0, none⟩) (Kd.S_types aU.out ad.out (by decide)) (fun _ hk => hk.2) (.slice (some ⟨aJ, 0, none⟩) aq.length ar)) (fun _ hk => hk.2) (.int .i64 aH)) (fun _ hk => hk.2) (.slice aM aD.length aN)) (fun _ hk => hk.2) (.slice aR aI.length aS)) (fun _ hk => hk.1.2), zb HB⟩
     ·rw [if_neg c36] at H
      exact absurd H (by simp)
    ·rw [if_neg c35] at H
     exact absurd H (by simp)
def spec_DrawSetWant.l0 : Nat → Int → List Int → Int → List Int → Int → Int → List Int → Int → List (S69) → List (S74) → Option (List Int × Int × (List (S69)) × (List (S74)) × Int × List Int)
 | 0, _, _, _, _, _, _, _, _, _, _ => none
 | k + 1, a, b, c, d, e, f, g, i, j, l => if c < 4 then ((spec_l01Once.f d e f 3).bind fun m => (if m.1 = true then (if b.length < 17592186044416 then (spec_DrawSetWant.l0 k a (b ++ [c]) (wrap64 (c + 1)) d m.2.1 m.2.2 g i j l) else (none)) else (spec_DrawSetWant.l0 k a b (wrap64 (c + 1)) d m.2.1 m.2.2 g i j l))) else (some (g, i, j, l, a, b))
def spec_DrawSetWant.f (k : Nat) (a : List Int) : Option (List Int × Int × (List (S69)) × (List (S74)) × Int × List Int) := (spec_l01New.f k a).bind fun b => ((spec_l05Any.f k b.1 b.2.1 b.2.2).bind fun c => ((spec_l01PickInt.f b.1 c.2.2.2.2.1 c.2.2.2.2.2 (([1, 2, 3, 50, 0, 101] : List Int))).bind fun d => (spec_DrawSetWant.l0 k d.1 (([] : List Int)) 0 b.1 d.2.1 d.2.2 c.1 c.2.1 c.2.2.1 c.2.2.2.1)))
set_option maxHeartbeats 16000000 in
set_option maxRecDepth 100000 in
theorem spec_DrawSetWant.calls (k : Nat) (A0 : Option Addr) (c0 : Nat) (l0 : List Int) (r1 : List Int) (r2 : Int) (r3 : List (S69)) (r4 : List (S74)) (r5 : Int) (r6 : List Int) (w : World) (hr0 : Kd.C (Kd.int .u8) w A0 l0.length l0) (hc0 : l0.length ≤ c0) (h : spec_DrawSetWant.f k l0 = some (r1, r2, r3, r4, r5, r6)) :
 Calls Try.prog 49 #[.slice A0 l0.length c0] w fun e w' => ∃ v0_ v2_ v3_ v5_ : Value, e = .returned (.tuple #[.agg #[v0_, .int .i64 r2, v2_, v3_], .int .i64 r5, v5_]) ∧ (∃ g, Tre w.heap.size g v0_ r1 v2_ r3 v3_ r4 w') ∧ Kd.R (Kd.int .i64) 3 w' w.heap.size (fun _ => True) v5_ r6 ∧ Below w.heap.size w w' := by
 have hu28 := Try.underlying28
 have HQ := zK (And.intro hr0 hc0)
 clear hr0 hc0
 have HB := zK (Below.refl w.heap.size w)
 have H := h; clear h
 unfold spec_DrawSetWant.f at H
 replace H := Option.bind_eq_some_iff.mp H
 obtain ⟨⟨b, i, h⟩, A10, H⟩ := H
 have AA1 := zK (show spec_l01New.f k l0 = some (b, i, h) from A10)
 replace H := Option.bind_eq_some_iff.mp H
 obtain ⟨⟨tr, T, ch, wa, i1, h1⟩, A20, H⟩ := H
 have AA2 := zK (show spec_l05Any.f k b i h = some (tr, T, ch, wa, i1, h1) from A20)
 clear A10 A20
 dsimp only at H
 obtain ⟨L, NL0⟩ : ∃ y_ : List Int, y_ = [1, 2, 3, 50, 0, 101] := ⟨_, rfl⟩
 have NL := zK NL0; replace H := Option.bind_eq_some_iff.mp H
 obtain ⟨⟨x, i3, h3⟩, A30, H⟩ := H
 rw [← NL0] at A30
 have AA3 := zK (show spec_l01PickInt.f b i1 h1 L = some (x, i3, h3) from A30)
 clear A30 NL0
 dsimp only at H
 have HF := zK H; clear H
 go_enter Try.func49, Try.ntmps49
 go_wp2_with (first
 | ((with_reducible refine gate_dst (N := 2) rfl ?_); refine zX 2 #[.slice none 0 0, .int .i64 0, .slice none 0 0, .slice none 0 0] 28 ?_; intro gr hg w1 hbox hb; have GR := zK (show w.heap.size ≤ gr from by rw [hg]; exact Nat.le_refl _); have HK := zK hbox; replace HB := zK (below_step HB.out hb); clear hg hbox hb)
 | ((with_reducible refine gate_callee (f := 51) rfl ?_); refine goesL_ (some 11) rfl rfl Try.func51 (by kernel_rfl) rfl #[.slice A0 l0.length c0] rfl zg ?_; (with_reducible refine (spec_l01New.calls k A0 c0 l0 b i h w _ HB.out HQ.out.1 HQ.out.2 AA1.out).mono ?_); rintro e w2 ⟨g, rfl, hi, hb, hb2⟩; refine ⟨_, rfl, ?_⟩; have HC := zK (show Crs w w2 g b i h w2 from ⟨hi, hb, KeepBut.refl w2 g none⟩); have GL := zK hi.lt; have WL := zK hb.size; have HR := zK (show Bx g gr (.slice none 0 0) (.int .i64 0) (.slice none 0 0) (.slice none 0 0) w2 from ⟨blk_below HK.out hb2, Ne.symm (IsS90.ne_blk hi (blk_below HK.out hb2) (by decide))⟩); clear HK HB hi hb hb2)
 | ((with_reducible refine gate_callee (f := 84) rfl ?_); refine goesL_ (some 13) rfl rfl Try.func84 (by kernel_rfl) rfl #[.pointer (some ⟨g, 0, none⟩)] rfl zg ?_; (with_reducible refine (spec_l05Any.calls k g b i h tr T ch wa i1 h1 w _ HC.out.is HC.out.be AA2.out).mono ?_); rintro e w3 ⟨v0, v2, v3, rfl, ht, hi, hb, hk⟩; refine ⟨_, rfl, ?_⟩; have HT := zK (Tre.of (N := w.heap.size) (g := g) ht GL.out WL.out); obtain ⟨B0, b0, B2, b2, B3, b3, e0, e2, e3⟩ := HT.out.reads; subst e0 e2 e3; replace HC := zK (HC.out.cur hi hb hk); replace HR := zK (Sty.keep HR.out hk); clear ht hi hb hk)
 | ((with_reducible refine gate_dst (N := 6) rfl ?_); refine zX 6 #[.slice none 0 0, .int .i64 0, .slice none 0 0, .slice none 0 0] 28 ?_; intro gl hg w4 hbox hb; have GLL := zK (show w2.heap.size ≤ gl from by rw [hg]; exact HC.out.2.2.1); have NG := zK (show gl ≠ g from fun e => by have := GL.out; have := GLL.out; omega); have NR := zK (show gr ≠ gl from by rw [hg]; exact Nat.ne_of_lt (blk_lt HR.out.1)); obtain ⟨hy0, hy1, hy2, hy3⟩ := cells4 hbox; have hf0 := blk_frozen hbox 0; have hf1 := blk_frozen hbox 1; have hf2 := blk_frozen hbox 2; have hf3 := blk_frozen hbox 3; have HG := zK (Bx.put4 (show Bx g gl (.slice none 0 0) (.int .i64 0) (.slice none 0 0) (.slice none 0 0) w4 from ⟨hbox, NG.out⟩) (.slice B0 tr.length b0) (.int .i64 T) (.slice B2 ch.length b2) (.slice B3 wa.length b3)); replace HC := zK ((HC.out.bel hb).far4 (Nat.le_trans WL.out GLL.out) GLL.out NG.out (.slice B0 tr.length b0) (.int .i64 T) (.slice B2 ch.length b2) (.slice B3 wa.length b3)); replace HR := zK ((Sty.bel HR.out hb).far4 NR.out (.slice B0 tr.length b0) (.int .i64 T) (.slice B2 ch.length b2) (.slice B3 wa.length b3)); replace HT := zK ((Sty.bel HT.out hb).put4 hbox (.slice B0 tr.length b0) (.int .i64 T) (.slice B2 ch.length b2) (.slice B3 wa.length b3)); clear hg hbox hb; obtain ⟨hz0, hz1, hz2, hz3⟩ := cells4 HG.out.1)
 | ((with_reducible refine gate_dst (N := 15) rfl ?_); refine Kd.R_lit (Kd.int .i64) _ 3 ?hg (N := 15) ?hd (xs := ([1, 2, 3, 50, 0, 101] : List Int)) (inner := [.int .i64 1, .int .i64 2, .int .i64 3, .int .i64 50, .int .i64 0, .int .i64 101]) (ok := fun _ => True) (okp := fun _ => True) ?hr ?hp (fun _ hk => hk) trivial (Below.refl _ _) (Nat.le_refl _) (by simp) ?_; (case hd => rfl); (case hg => rfl); (case hr => first | (go_simp; done) | (go_simp; rfl)); (case hp => exact (Reps.one (show Kd.M (Kd.int .i64) _ _ _ 1 [.int .i64 1] from rfl) (Reps.one (show Kd.M (Kd.int .i64) _ _ _ 2 [.int .i64 2] from rfl) (Reps.one (show Kd.M (Kd.int .i64) _ _ _ 3 [.int .i64 3] from rfl) (Reps.one (show Kd.M (Kd.int .i64) _ _ _ 50 [.int .i64 50] from rfl) (Reps.one (show Kd.M (Kd.int .i64) _ _ _ 0 [.int .i64 0] from rfl) (Reps.one (show Kd.M (Kd.int .i64) _ _ _ 101 [.int .i64 101] from rfl) (Reps.none _ _)))))))); intro vl w5 hl hb hg_ hnew_; clear hg_ hnew_; rw [← NL.out] at hl; obtain ⟨Al, al, el⟩ := Kd.R_slice hl; subst el; clear hy0 hy1 hy2 hy3 hf0 hf1 hf2 hf3 hz0 hz1 hz2 hz3; replace HC := zK (HC.out.bel hb); replace HR := zK (Sty.bel HR.out hb); replace HG := zK (Sty.bel HG.out hb); replace HT := zK (Sty.bel HT.out hb); have HI := zK hl; clear hb hl)
 | ((with_reducible refine gate_callee (f := 86) rfl ?_); refine goesL_ (some 16) rfl rfl Try.func86 (by kernel_rfl) rfl #[.pointer (some ⟨g, 0, none⟩), .slice Al L.length al] rfl zg ?_; (with_reducible refine (spec_l01PickInt.calls g b i1 h1 Al al L x i3 h3 w _ HC.out.is HC.out.be (Kd.R_reads' HI.out).2.2 (Kd.R_reads' HI.out).2.1 (far_slice (IsS90.own_ne HC.out.is HI.out (by decide))) AA3.out).mono ?_); rintro e w6 ⟨rfl, hi, hb, hk⟩; refine ⟨_, rfl, ?_⟩; replace HC := zK (HC.out.cur hi hb hk); replace HR := zK (Sty.keep HR.out hk); replace HG := zK (Sty.keep HG.out hk); replace HT := zK (Sty.keep HT.out hk); clear hi hb hk; clear HI)
 | ((with_reducible refine gate_dst (N := 17) rfl ?_); refine Kd.R_lit (Kd.int .i64) _ 3 ?hg (N := 17) ?hd (xs := ([] : List Int)) (inner := []) (ok := fun _ => True) (okp := fun _ => True) ?hr ?hp (fun _ hk => hk) trivial (Below.refl _ _) (Nat.le_refl _) (by simp) ?_; (case hd => rfl); (case hg => rfl); (case hr => first | (go_simp; done) | (go_simp; rfl)); (case hp => exact (Reps.none _ _)); intro vl w7 hl hb hg_ hnew_; clear hg_ hnew_; have HD := zK ((Dst.mk HR.out HG.out HT.out GR.out HC.out.is.lt).bel hb); have HO := zK (show Kd.R (Kd.int .i64) 3 w7 w.heap.size (fun k => w6.heap.size ≤ k) vl [] from Kd.R_lower (Kd.R_mono (Kd.R_bound hl) (fun k hk => hk.2.1)) HC.out.be.size); have HI := zK (show IsS90 w w7 g b i3 h3 from HC.out.is.below hb); have HB := zK (below_step HC.out.be hb); clear HC HR HG HT hb hl)
 )
 go_loopg [8, 9] k (fun kq v8 v9 w' => ∃ (ac : List Int) (kk ii hh : Int), v9 = .int .i64 kk ∧ Aside0 (spec_DrawSetWant.l0 kq x ac kk b ii hh tr T ch wa = some (r1, r2, r3, r4, r5, r6)) ∧ Aside0 (kq ≤ k) ∧ Aside0 (Kd.R (Kd.int .i64) 3 w' w.heap.size (fun k => w6.heap.size ≤ k) v8 ac) ∧ Aside0 (Dst w.heap.size g gr gl w6.heap.size (.slice B0 tr.length b0) (.int .i64 T) (.slice B2 ch.length b2) (.slice B3 wa.length b3) (.slice B0 tr.length b0) tr (.slice B2 ch.length b2) ch (.slice B3 wa.length b3) wa w') ∧ Aside0 (IsS90 w w' g b ii hh) ∧ Aside0 (Below w.heap.size w w'))
 case atStart => exact ⟨[], 0, i3, h3, rfl, HF, ⟨Nat.le_refl _⟩, HO, HD, HI, HB⟩
 case round =>
 clear HF
 obtain ⟨ac, kk, ii, hh, rfl, HA, HN, HO, HD, HI, HB⟩ := hrel
 cases gk with
 | zero => exact absurd HA.out (by simp [spec_DrawSetWant.l0])
 | succ k1 =>
  have H := HA.out; clear HA
  simp only [spec_DrawSetWant.l0] at H
  by_cases c1 : kk < 4
  ·rw [if_pos c1] at H
   have d1 : decide (kk < 4) = true := decide_eq_true c1
   clear c1; replace H := Option.bind_eq_some_iff.mp H
   obtain ⟨⟨o, i4, h4⟩, A40, H⟩ := H
   have AA4 := zK (show spec_l01Once.f b ii hh 3 = some (o, i4, h4) from A40)
   clear A40
   dsimp only at H
   cases o with
   | true =>
    rw [if_pos rfl] at H
    by_cases c2 : ac.length < 17592186044416
    ·rw [if_pos c2] at H
     have LM := zK c2; have HA := zK H; clear c2 H
     go_wp2_with (first
      | ((with_reducible refine gate_callee (f := 88) rfl ?_); refine goesL_ (some 23) rfl rfl Try.func88 (by kernel_rfl) rfl #[.pointer (some ⟨g, 0, none⟩), .int .i64 3] rfl zg ?_; (with_reducible refine (spec_l01Once.calls g b ii hh 3 true i4 h4 w _ HI.out HB.out AA4.out).mono ?_); rintro e w8 ⟨rfl, hi, hb, hk⟩; refine ⟨_, rfl, ?_⟩; replace HO := zK (Kd.R_keep HO.out hk (fun k hk2 e => by have := HD.out.2.2.1.2.2.2.2; omega)); replace HD := zK (HD.out.keep hk); replace HI := zK hi; replace HB := zK hb; clear hi hb hk)
      | ((with_reducible refine gate_builtin (b := .append) (xs := #[.tmp 24, .tmp 26]) rfl ?_); at_builtin; refine Kd.R_append (Kd.int .i64) (w0 := w) w.heap.size rfl (.tmp 24) (.tmp 26) 24 3 (.int .i64 0) 8 rfl Try.underlying24 info3 rfl (by decide) (by omega) u8 ac kk [.int .i64 kk] (fun k => w6.heap.size ≤ k) (fun _ => False) rfl rfl ?aP (fun _ hk => hk.elim) ?aF ?aO ?aB ?aS ?aL ?_; (case aP => exact rfl); (case aB => exact HB.out); (case aF => exact (fun k hk => Nat.le_trans HD.out.2.2.1.1 hk)); (case aO => exact HO.out); (case aS => exact HB.out.size); (case aL => have := LM.out; omega); intro v9 w9 ho hb hg hat; replace HD := zK (HD.out.grown hg (fun k hk => HO.out.1 k hk)); replace HI := zK (HI.out.grown hg (fun e => by have h_ := HO.out.1 g e.symm; have := HD.out.2.2.1.2.2.2.2; omega)); replace HO := zK ho; replace HB := zK hb; clear ho hb hg hat)
      )
     go_roundg k1
     case measure => have := HN.out; omega
     case rel => exact ⟨_, _, _, _, rfl, HA, ⟨by have := HN.out; omega⟩, HO, HD, HI, HB⟩
    ·rw [if_neg c2] at H
     exact absurd H (by simp)
   | false =>
    rw [if_neg (by simp)] at H
    have HA := zK H; clear H
    go_wp2_with (first | ((with_reducible refine gate_callee (f := 88) rfl ?_); refine goesL_ (some 23) rfl rfl Try.func88 (by kernel_rfl) rfl #[.pointer (some ⟨g, 0, none⟩), .int .i64 3] rfl zg ?_; (with_reducible refine (spec_l01Once.calls g b ii hh 3 false i4 h4 w _ HI.out HB.out AA4.out).mono ?_); rintro e w8 ⟨rfl, hi, hb, hk⟩; refine ⟨_, rfl, ?_⟩; replace HO := zK (Kd.R_keep HO.out hk (fun k hk2 e => by have := HD.out.2.2.1.2.2.2.2; omega)); replace HD := zK (HD.out.keep hk); replace HI := zK hi; replace HB := zK hb; clear hi hb hk))
    go_roundg k1
    case measure => have := HN.out; omega
    case rel => exact ⟨_, _, _, _, rfl, HA, ⟨by have := HN.out; omega⟩, HO, HD, HI, HB⟩
  ·rw [if_neg c1] at H
   have d1 : decide (kk < 4) = false := decide_eq_false c1
   clear c1
   simp only [Option.some.injEq, Prod.mk.injEq] at H
   obtain ⟨rfl, rfl, rfl, rfl, rfl, rfl⟩ := H
   obtain ⟨hz0, hz1, hz2, hz3⟩ := cells4 HD.out.2.1.1
   obtain ⟨hy0, hy1, hy2, hy3⟩ := cells4 HD.out.1.1
   have hf0 := blk_frozen HD.out.1.1 0; have hf1 := blk_frozen HD.out.1.1 1; have hf2 := blk_frozen HD.out.1.1 2; have hf3 := blk_frozen HD.out.1.1 3
   go_wp2
   refine bodyPost_ret (results_ctt rfl _ _ gr 28 #[_, _, _, _] (0, 0) _ rfl (blk_put4 HD.out.1.1 _ _ _ _) Try.underlying28 rfl (by kernel_rfl)) rfl ?_
   exact ⟨_, _, _, _, rfl, ⟨g, HD.out.e.put4 HD.out.1.1 _ _ _ _⟩, r_put4 (Kd.R_mono HO.out (fun _ _ => trivial)) HD.out.1.1 _ _ _ _, below_put4 HB.out HD.out.2.2.1.2.1 _ _ _ _⟩
end Go.Proofs.Ytmjhbdmicejppaa.Px
