import Derived.Test.YtmjhbdmicejppaaZrPx0
import Derived.Test.YtmjhbdmicejppaaZrPx6
namespace Go.Proofs.Ytmjhbdmicejppaa.Px
open Go.RowKit Go.Proofs.YtmjhbdmicejppaaW.PrintWords Go.Proofs.YtmjhbdmicejppaaW.PrintLast Go.Proofs.YtmjhbdmicejppaaW.PrintMore
attribute [local go_sem] max2_int min2_int max_two min_two max_three min_three max_four min_four   
set_option linter.unusedVariables false
set_option linter.unusedSimpArgs false
def LoopAt (b lo hi : Nat) (w : World) (v0 : Value) (tr : List Int) (v2 : Value) (ch : List S69) (v3 : Value) (wa : List S74) : Prop :=
 hi ≤ w.heap.size ∧ ∃ PW : Nat → Prop, Kd.R (Kd.int .i64) 3 w b (fun k => ¬ PW k ∧ lo ≤ k ∧ k < hi) v0 tr ∧ Kd.S k69 69 w b (fun k => (some k ≠ v0.ownBlock ∧ ¬ PW k) ∧ lo ≤ k ∧ k < hi) v2 ch ∧ Kd.S k74 74 w b (fun k => PW k ∧ lo ≤ k ∧ k < hi) v3 wa
section
variable {b base lo hi lo2 hi2 : Nat} {w w1 : World} {PW : Nat → Prop} {v0 v2 v3 : Value} {tr : List Int} {ch : List S69} {wa : List S74}
theorem LoopAt.of (h : LoopMem base w PW v0 tr v2 ch v3 wa) (hb : b ≤ base) : LoopAt b base w.heap.size w v0 tr v2 ch v3 wa :=
 ⟨Nat.le_refl _, PW, Kd.R_lower (Kd.R_mono (Kd.R_bound h.1) (fun k hk => ⟨hk.1, hk.2.1, hk.2.2.1⟩)) hb, Kd.S_lower (Kd.S_mono (Kd.S_bound h.2.1) (fun k hk => ⟨hk.1, hk.2.1, hk.2.2.1⟩)) hb, Kd.S_lower (Kd.S_mono (Kd.S_bound h.2.2.1) (fun k hk => ⟨hk.1, hk.2.1, hk.2.2.1⟩)) hb⟩
theorem LoopAt.step (h : LoopAt b lo hi w v0 tr v2 ch v3 wa) (hs : w.heap.size ≤ w1.heap.size) (hm : ∀ k, lo ≤ k → k < hi → w1.heap[k]? = w.heap[k]?) : LoopAt b lo hi w1 v0 tr v2 ch v3 wa := by
 obtain ⟨hz, PW, h0, h2, h3⟩ := h
 exact ⟨Nat.le_trans hz hs, PW, Kd.R_move h0 (fun k hk => hm k hk.2.1 hk.2.2), Kd.S_move h2 (fun k hk => hm k hk.2.1 hk.2.2), Kd.S_move h3 (fun k hk => hm k hk.2.1 hk.2.2)⟩
theorem LoopAt.below (h : LoopAt b lo hi w v0 tr v2 ch v3 wa) {n : Nat} (hb : Below n w w1) (hn : hi ≤ n) : LoopAt b lo hi w1 v0 tr v2 ch v3 wa :=
 h.step hb.size (fun k _ h1 => hb.block k (Nat.lt_of_lt_of_le h1 hn))
theorem LoopAt.later (h : LoopAt b lo hi w v0 tr v2 ch v3 wa) (hb : Below w.heap.size w w1) : LoopAt b lo hi w1 v0 tr v2 ch v3 wa := h.below hb h.1
theorem LoopAt.kept (h : LoopAt b lo hi w v0 tr v2 ch v3 wa) (hk : Kept w w1 (fun k => lo2 ≤ k ∧ k < hi2)) (hd : hi ≤ lo2 ∨ hi2 ≤ lo) : LoopAt b lo hi w1 v0 tr v2 ch v3 wa :=
 h.step hk.1 (fun k h0 h1 => hk.2 k (Nat.lt_of_lt_of_le h1 h.1) (fun h2 => by omega))
theorem LoopAt.far (h : LoopAt b lo hi w v0 tr v2 ch v3 wa) {p : Addr} (hp : hi ≤ p.block) (u : Value) : LoopAt b lo hi (w.setCell p u) v0 tr v2 ch v3 wa :=
 h.step (((Below.refl 0 w).setCell (p := p) (Nat.zero_le _) u).size) (fun k _ h1 => Below.heap_setCell w p u k (by omega))
theorem LoopAt.reads (h : LoopAt b lo hi w v0 tr v2 ch v3 wa) : ∃ A0 c0 A2 c2 A3 c3, v0 = .slice A0 tr.length c0 ∧ v2 = .slice A2 ch.length c2 ∧ v3 = .slice A3 wa.length c3 ∧ tr.length ≤ c0 ∧ ch.length ≤ c2 ∧ wa.length ≤ c3 ∧ Kd.C (Kd.int .i64) w A0 tr.length tr ∧ Kd.C k69 w A2 ch.length ch ∧ Kd.C k74 w A3 wa.length wa := by
 obtain ⟨_, PW, h0, h2, h3⟩ := h
 obtain ⟨A0, c0, e0, l0, r0⟩ := Kd.R_reads h0
 obtain ⟨A2, c2, e2, l2, r2⟩ := Kd.S_reads h2
 obtain ⟨A3, c3, e3, l3, r3⟩ := Kd.S_reads h3
 exact ⟨A0, c0, A2, c2, A3, c3, e0, e2, e3, l0, l2, l3, r0, r2, r3⟩
end
def LoopRd (b lo hi : Nat) (w : World) (v0 : Value) (tr : List Int) (v2 : Value) (ch : List S69) (v3 : Value) (wa : List S74) : Prop :=
 hi ≤ w.heap.size ∧ Kd.R (Kd.int .i64) 3 w b (fun k => lo ≤ k ∧ k < hi) v0 tr ∧ Kd.S k69 69 w b (fun k => lo ≤ k ∧ k < hi) v2 ch ∧ Kd.S k74 74 w b (fun k => lo ≤ k ∧ k < hi) v3 wa
section
variable {b base lo hi lo2 hi2 g : Nat} {w w1 W : World} {PW ok0 ok2 ok3 : Nat → Prop} {v v0 v2 v3 : Value} {tr l : List Int} {ch : List S69} {wa : List S74} {A0 A2 A3 : Option Addr} {c0 c2 c3 n0 n2 n3 : Nat}
theorem LoopAt.rd (h : LoopAt b lo hi w (.slice A0 n0 c0) tr (.slice A2 n2 c2) ch (.slice A3 n3 c3) wa) : n0 ≤ c0 ∧ Kd.C (Kd.int .i64) w A0 n0 tr ∧ n2 ≤ c2 ∧ Kd.C k69 w A2 n2 ch ∧ n3 ≤ c3 ∧ Kd.C k74 w A3 n3 wa := by
 obtain ⟨_, PW, h0, h2, h3⟩ := h
 obtain ⟨e0, l0, r0⟩ := Kd.R_reads' h0
 obtain ⟨e2, l2, r2⟩ := Kd.S_reads' h2
 obtain ⟨e3, l3, r3⟩ := Kd.S_reads' h3
 subst e0 e2 e3
 exact ⟨l0, r0, l2, r2, l3, r3⟩
theorem LoopAt.len (h : LoopAt b lo hi w (.slice A0 n0 c0) tr (.slice A2 n2 c2) ch (.slice A3 n3 c3) wa) : n0 = tr.length ∧ n2 = ch.length ∧ n3 = wa.length := by
 obtain ⟨_, PW, h0, h2, h3⟩ := h
 exact ⟨(Kd.R_reads' h0).1, (Kd.S_reads' h2).1, (Kd.S_reads' h3).1⟩
theorem LoopAt.new (h : ∃ PW, LoopMem W.heap.size w1 PW v0 tr v2 ch v3 wa) (hb : b ≤ W.heap.size) : ∃ lo hi, (lo = W.heap.size ∧ hi = w1.heap.size) ∧ LoopAt b lo hi w1 v0 tr v2 ch v3 wa := by
 obtain ⟨PW, h⟩ := h
 exact ⟨_, _, ⟨rfl, rfl⟩, LoopAt.of h hb⟩
theorem LoopRd.new (h0 : Kd.R (Kd.int .i64) 3 w1 W.heap.size ok0 v0 tr) (h2 : Kd.S k69 69 w1 W.heap.size ok2 v2 ch) (h3 : Kd.S k74 74 w1 W.heap.size ok3 v3 wa) (hb : b ≤ W.heap.size) : ∃ lo hi, (lo = W.heap.size ∧ hi = w1.heap.size) ∧ LoopRd b lo hi w1 v0 tr v2 ch v3 wa :=
 ⟨_, _, ⟨rfl, rfl⟩, Nat.le_refl _, Kd.R_lower (Kd.R_mono (Kd.R_bound h0) (fun k hk => ⟨hk.2.1, hk.2.2.1⟩)) hb, Kd.S_lower (Kd.S_mono (Kd.S_bound h2) (fun k hk => ⟨hk.2.1, hk.2.2.1⟩)) hb, Kd.S_lower (Kd.S_mono (Kd.S_bound h3) (fun k hk => ⟨hk.2.1, hk.2.2.1⟩)) hb⟩
theorem LoopRd.step (h : LoopRd b lo hi w v0 tr v2 ch v3 wa) (hs : w.heap.size ≤ w1.heap.size) (hm : ∀ k, lo ≤ k → k < hi → w1.heap[k]? = w.heap[k]?) : LoopRd b lo hi w1 v0 tr v2 ch v3 wa :=
 ⟨Nat.le_trans h.1 hs, Kd.R_move h.2.1 (fun k hk => hm k hk.1 hk.2), Kd.S_move h.2.2.1 (fun k hk => hm k hk.1 hk.2), Kd.S_move h.2.2.2 (fun k hk => hm k hk.1 hk.2)⟩
theorem LoopRd.later (h : LoopRd b lo hi w v0 tr v2 ch v3 wa) (hb : Below w.heap.size w w1) : LoopRd b lo hi w1 v0 tr v2 ch v3 wa := h.step hb.size (fun k _ h1 => hb.block k (Nat.lt_of_lt_of_le h1 h.1))
theorem LoopRd.kept (h : LoopRd b lo hi w v0 tr v2 ch v3 wa) (hk : Kept w w1 (fun k => lo2 ≤ k ∧ k < hi2)) (hd : hi ≤ lo2 ∨ hi2 ≤ lo) : LoopRd b lo hi w1 v0 tr v2 ch v3 wa :=
 h.step hk.1 (fun k h0 h1 => hk.2 k (Nat.lt_of_lt_of_le h1 h.1) (fun h2 => by omega))
theorem LoopRd.reads (h : LoopRd b lo hi w v0 tr v2 ch v3 wa) : ∃ A0 c0 A2 c2 A3 c3, v0 = .slice A0 tr.length c0 ∧ v2 = .slice A2 ch.length c2 ∧ v3 = .slice A3 wa.length c3 ∧ tr.length ≤ c0 ∧ ch.length ≤ c2 ∧ wa.length ≤ c3 ∧ Kd.C (Kd.int .i64) w A0 tr.length tr ∧ Kd.C k69 w A2 ch.length ch ∧ Kd.C k74 w A3 wa.length wa := by
 obtain ⟨_, h0, h2, h3⟩ := h
 obtain ⟨A0, c0, e0, l0, r0⟩ := Kd.R_reads h0
 obtain ⟨A2, c2, e2, l2, r2⟩ := Kd.S_reads h2
 obtain ⟨A3, c3, e3, l3, r3⟩ := Kd.S_reads h3
 exact ⟨A0, c0, A2, c2, A3, c3, e0, e2, e3, l0, l2, l3, r0, r2, r3⟩
theorem LoopRd.rd (h : LoopRd b lo hi w (.slice A0 n0 c0) tr (.slice A2 n2 c2) ch (.slice A3 n3 c3) wa) : n0 ≤ c0 ∧ Kd.C (Kd.int .i64) w A0 n0 tr ∧ n2 ≤ c2 ∧ Kd.C k69 w A2 n2 ch ∧ n3 ≤ c3 ∧ Kd.C k74 w A3 n3 wa := by
 obtain ⟨_, h0, h2, h3⟩ := h
 obtain ⟨e0, l0, r0⟩ := Kd.R_reads' h0
 obtain ⟨e2, l2, r2⟩ := Kd.S_reads' h2
 obtain ⟨e3, l3, r3⟩ := Kd.S_reads' h3
 subst e0 e2 e3
 exact ⟨l0, r0, l2, r2, l3, r3⟩
end
end Go.Proofs.Ytmjhbdmicejppaa.Px
