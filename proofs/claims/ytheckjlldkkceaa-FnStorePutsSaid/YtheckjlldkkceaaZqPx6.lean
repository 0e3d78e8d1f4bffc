import Derived.Test.YtheckjlldkkceaaZqPx0
namespace Go.Proofs.Ytheckjlldkkceaa.Px
open Go.RowKit Go.Proofs.YtheckjlldkkceaaW.PrintWords Go.Proofs.YtheckjlldkkceaaW.PrintLast Go.Proofs.YtheckjlldkkceaaW.PrintMore
attribute [local go_sem] max2_int min2_int max_two min_two max_three min_three max_four min_four   
set_option linter.unusedVariables false
set_option linter.unusedSimpArgs false
def spec_l06Least.l0 : Nat → List (S30) → Int → Int → Option (Int)
 | 0, _, _, _ => none
 | k + 1, x0, x3, x4 => if x4 < (x0.length : Int) then (if 0 ≤ x4 then (spec_l06Least.l0 k x0 (mn x3 ((rd_T30 x0 x4).f1)) (wrap64 (x4 + 1))) else (none)) else (some x3)
def spec_l06Least.f (k : Nat) (l0 : List (S30)) : Option (Int) := spec_l06Least.l0 k l0 100001 0
set_option maxHeartbeats 8000000 in
set_option maxRecDepth 100000 in
theorem spec_l06Least.calls (k : Nat) (A0 : Option Addr) (c0 : Nat) (l0 : List (S30)) (r : Int) (w : World) (hr0 : Kd.C k30 w A0 l0.length l0) (hc0 : l0.length ≤ c0) (h : spec_l06Least.f k l0 = some r) :
  Calls Try.prog 61 #[.slice A0 l0.length c0] w fun e w' => e = .returned (.int .i64 r) ∧ Below w.heap.size w w' := by
 have HR0 := zK hr0; have HC0 := zK hc0; clear hr0 hc0
 have HB := zK (Below.refl w.heap.size w)
 have H : (spec_l06Least.l0 k l0 100001 0) = some r := h
 clear h; have H' := zK H; clear H
 go_enter Try.func61, Try.ntmps61
 go_wp2
 go_loopg [3, 4] k (fun kq v3 v4 w' => ∃ (ad : Int) (aa : Int), v3 = .int .i64 ad ∧ v4 = .int .i64 aa ∧ Aside0 (spec_l06Least.l0 kq l0 ad aa = some r) ∧ Aside0 (kq ≤ k) ∧ Aside0 (Below w.heap.size w w'))
 case atStart => exact ⟨(100001), (0), (by first | rfl | (simp; done) | (simp [*]; done)), (by first | rfl | (simp; done) | (simp [*]; done)), H', ⟨Nat.le_refl _⟩, ⟨zb HB⟩⟩
 case round =>
  clear H'
  obtain ⟨ad, aa, rfl, rfl, HA, HK1, HB⟩ := hrel
  cases gk with
  | zero => exact absurd HA.out (by simp [spec_l06Least.l0])
  | succ k1 =>
   have H := HA.out; clear HA
   simp only [spec_l06Least.l0] at H
   by_cases c2 : aa < (l0.length : Int)
   ·rw [if_pos c2] at H
    have c2b0 : decide (aa < (l0.length : Int)) = true := decide_eq_true c2
    clear c2
    by_cases c3 : 0 ≤ aa
    ·rw [if_pos c3] at H
     have c3b0 : decide (0 ≤ aa) = true := decide_eq_true c3
     clear c3
     obtain ⟨ji4, ae⟩ : ∃ j_ : Int, (mn ad ((rd_T30 l0 aa).f1)) = j_ := ⟨_, rfl⟩
     replace H : (spec_l06Least.l0 k1 l0 ji4 (wrap64 (aa + 1))) = some r := by first | (rw [ae] at H; exact H) | (simp only [ae] at H ⊢; exact H)
     have hji4_ : (if ((rd_T30 l0 aa).f1) < ad then ((rd_T30 l0 aa).f1) else ad) = ji4 := ae
     have H' := zK H; clear H
     have af : 0 ≤ (aa : Int) := zd
     have ag : aa < (l0.length : Int) := zd
     obtain ⟨ad337, e337, ab, ac⟩ := at_T30 HR0.out aa af ag
     cases e337
     replace ab := (HB.out.cell (World.block_lt_of_cell? w _ ab)).trans ab
     replace ac := (HB.out.cell (World.block_lt_of_cell? w _ ac)).trans ac
     replace af := eq_true af; replace ag := eq_true ag
     go_wp2
     go_roundg k1
     case measure => have := HK1.out; omega
     case rel => exact ⟨(ji4), (wrap64 (aa + 1)), (by first | rfl | (simp; done) | (simp only [← ae] <;> (first | rfl | simp)) | (simp [*]; done)), (by first | rfl | (simp; done) | (simp [*]; done)), H', ⟨by have := HK1.out; omega⟩, ⟨zb HB⟩⟩
    ·rw [if_neg c3] at H
     exact absurd H (by simp)
   ·rw [if_neg c2] at H
    have c2b0 : decide (aa < (l0.length : Int)) = false := decide_eq_false c2
    clear c2; obtain rfl := Option.some.inj H
    go_wp2
    go_ret
    exact ⟨by first | rfl | (simp [errW_none, errW_some] <;> rfl) | (simp [*, errW_none, errW_some] <;> rfl), by repeat (first | (with_reducible first | exact HB.out | apply zB | apply zC | apply zE) | exact HB.out)⟩
end Go.Proofs.Ytheckjlldkkceaa.Px
