import Derived.Test.YtmjhbdmicejppaaZgStFnExactSetWant
import Derived.Test.YtmjhbdmicejppaaZgSw
import Derived.Test.YtmjhbdmicejppaaZgMk
import Derived.Test.YtmjhbdmicejppaaZgMl
namespace Go.Proofs.Ytmjhbdmicejppaa.Pu
open Go.RowKit Go.Proofs.Ytmjhbdmicejppaa.Px Go.Proofs.YtmjhbdmicejppaaW.PrintWords Go.Proofs.YtmjhbdmicejppaaW.PrintLast
set_option linter.unusedVariables false
theorem FnExactSetWant : laws_FnExactSetWant.Pure := by
  intro t a c w b l ⟨h1, h2, h3⟩ ha ⟨k1, k2, k3⟩ ⟨g1, g2, g3⟩ hb ⟨j1, j2, j3⟩
  by_cases hL : (l.length : Int) > 1048576
  · refine ⟨0, ?_⟩
    simp only [laws_FnExactSetWant.f]
    rw [if_pos hL]
  have hcb : ∀ x ∈ c, x.f2.length ≤ 17592186044416 := fun x hx => by
    have := k3 x hx
    omega
  have hwb : ∀ x ∈ w, x.f1.length ≤ 17592186044416 := fun x hx => by
    have := g3 x hx
    omega
  obtain ⟨r, hr, hb⟩ := szLoop_ev t a c w (by omega) (by omega) hcb (by omega) hwb
  by_cases h0 : r < 0
  · refine Lt.get (Lt.of hr) fun k e => ?_
    simp only [laws_FnExactSetWant.f, if_neg hL, e, Option.bind_some, if_pos h0]
  · have hl := hb (by omega)
    have hc1 : ∀ x ∈ c, x.f2.length ≤ 1048576 := fun x hx => by have := totC_ge c x hx; omega
    have hw1 : ∀ x ∈ w, x.f1.length ≤ 1048576 := fun x hx => by have := totW_ge w x hx; omega
    have hc2 : ∀ x ∈ c.map chu, x.f2.length ≤ 1048576 := fun x h => by
      obtain ⟨y, hy, rfl⟩ := List.mem_map.1 h
      exact hc1 y hy
    have hw2 : ∀ x ∈ w.map wan, x.f1.length ≤ 1048576 := fun x h => by
      obtain ⟨y, hy, rfl⟩ := List.mem_map.1 h
      exact hw1 y hy
    have hf : t.length + ((c.map chu).flatMap (fun x => x.f2)).length ≤ 1048576 := by rw [totC_flat]; omega
    have hto := toLoop_ev t a c w (by omega) (by omega) hc1 (by omega) hw1
    have hcl : (c.map chu).length ≤ 1048576 := by rw [List.length_map]; omega
    have hwl : (w.map wan).length ≤ 1048576 := by rw [List.length_map]; omega
    have heq := eqLoop_ev t a (c.map chu) (w.map wan) (by omega) hcl hc2 hwl hw2
    have hm1 := markL_ev t a (c.map chu) (w.map wan) (wL_le (by omega) hcl hc2 hwl hw2)
    have hll : l.length ≤ 1048576 := by omega
    obtain ⟨q1', q2', q4, q5⟩ := swV_small (t := t) (a := a) (c := c.map chu) (w := w.map wan) (x := ⟨b, l⟩) hwl hw2 hll
    have hs := spec_sw_ev t a (c.map chu) (w.map wan) b l (by omega) hf hcl hc2 hwl hw2 hll
    have hi := impl_sw_ev t a (c.map chu) (w.map wan) b l (by omega) hf hcl hc2 hwl hw2 hll
    generalize swV t a (c.map chu) (w.map wan) ⟨b, l⟩ = R at hs hi q1' q2' q4 q5
    have q1 : R.1.length ≤ 1048576 := by rw [q1']; omega
    have q2 : R.2.2.1.length ≤ 1048576 := by rw [q2']; exact hcl
    have q3 : ∀ x ∈ R.2.2.1, x.f2.length ≤ 1048576 := by rw [q2']; exact hc2
    have hti := toIntS_ev l hll
    have hei := eqIntS_ev l hll
    have hwX : wL t (c.map chu) (w.map wan) ≤ 4000000000000 := by
      have x1 := wC_le (c.map chu) hc2
      have x2 := wW_le (w.map wan) hw2
      have x3 : (c.map chu).length * 1048578 ≤ 1048576 * 1048578 := Nat.mul_le_mul_right _ hcl
      have x4 : (w.map wan).length * 1048577 ≤ 1048576 * 1048577 := Nat.mul_le_mul_right _ hwl
      unfold wL
      omega
    have hmi := markI_ev l (1 + (wL t (c.map chu) (w.map wan) : Int)) (by omega) (by omega)
    have hgs := eqLoop_ev R.1 R.2.1 R.2.2.1 R.2.2.2.1 q1 q2 q3 q4 q5
    have hwL := wL_le q1 q2 q3 q4 q5
    have hm2 := markL_ev R.1 R.2.1 R.2.2.1 R.2.2.2.1 hwL
    have hh := heldL_ev R.1 R.2.1 R.2.2.1 R.2.2.2.1 hwL
    refine Lt.get ((Lt.of hr).and ((Lt.of hto).and ((Lt.of hs).and ((Lt.of hi).and ((Lt.of hgs).and ((Lt.of heq).and ((Lt.of hm1).and ((Lt.of hm2).and ((Lt.of hh).and ((Lt.of hti).and ((Lt.of hei).and (Lt.of hmi)))))))))))) fun k ⟨e0, e1, e2, e3, e4, e5, e6, e7, e8, e9, e10, e11⟩ => ?_
    simp only [laws_FnExactSetWant.f, if_neg hL, e0, Option.bind_some, if_neg h0, e1, e9, e2, e3, e4, e5, e10, e6, e11, e7, e8]
    rw [if_pos trivial, if_pos trivial, if_pos trivial, if_pos trivial, if_neg (by omega), if_neg (by omega), if_pos trivial]
end Go.Proofs.Ytmjhbdmicejppaa.Pu
