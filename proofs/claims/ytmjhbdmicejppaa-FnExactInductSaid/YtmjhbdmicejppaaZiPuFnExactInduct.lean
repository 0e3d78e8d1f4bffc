import Derived.Test.YtmjhbdmicejppaaZiStFnExactInduct
import Derived.Test.YtmjhbdmicejppaaZiIn
import Derived.Test.YtmjhbdmicejppaaZiMk
import Derived.Test.YtmjhbdmicejppaaZiMl
namespace Go.Proofs.Ytmjhbdmicejppaa.Pu
open Go.RowKit Go.Proofs.Ytmjhbdmicejppaa.Px Go.Proofs.YtmjhbdmicejppaaW.PrintWords Go.Proofs.YtmjhbdmicejppaaW.PrintLast
set_option linter.unusedVariables false
theorem FnExactInduct : laws_FnExactInduct.Pure := by
  intro t a c w at_ b ⟨h1, h2, h3⟩ ha ⟨k1, k2, k3⟩ ⟨g1, g2, g3⟩ hat_ hb
  have hcb : ∀ x ∈ c, x.f2.length ≤ 17592186044416 := fun x hx => by
    have := k3 x hx
    omega
  have hwb : ∀ x ∈ w, x.f1.length ≤ 17592186044416 := fun x hx => by
    have := g3 x hx
    omega
  obtain ⟨r, hr, hb⟩ := szLoop_ev t a c w (by omega) (by omega) hcb (by omega) hwb
  by_cases h0 : r < 0
  · refine Lt.get (Lt.of hr) fun k e => ?_
    simp only [laws_FnExactInduct.f, e, Option.bind_some, if_pos h0]
  · have hl := hb (by omega)
    have hc1 : ∀ x ∈ c, x.f2.length ≤ 1048576 := fun x hx => by have := totC_ge c x hx; omega
    have hw1 : ∀ x ∈ w, x.f1.length ≤ 1048576 := fun x hx => by have := totW_ge w x hx; omega
    have hc2 : ∀ x ∈ c.map chu, x.f2.length ≤ 1048576 := fun x h => by
      obtain ⟨y, hy, rfl⟩ := List.mem_map.1 h
      exact hc1 y hy
    have hw2 : ∀ x ∈ w.map wan, x.f1.length ≤ 1048576 := fun x h => by
      obtain ⟨y, hy, rfl⟩ := List.mem_map.1 h
      exact hw1 y hy
    have hf : t.length + ((c.map chu).flatMap (fun x => x.f2)).length ≤ 1048576 := by rw [totC_flat]; omega
    have hto := toLoop_ev t a c w (by omega) (by omega) hc1 (by omega) hw1
    have hcl : (c.map chu).length ≤ 1048576 := by rw [List.length_map]; omega
    have hwl : (w.map wan).length ≤ 1048576 := by rw [List.length_map]; omega
    have heq := eqLoop_ev t a (c.map chu) (w.map wan) (by omega) hcl hc2 hwl hw2
    have hm1 := markL_ev t a (c.map chu) (w.map wan) (wL_le (by omega) hcl hc2 hwl hw2)
    obtain ⟨q1', q2', q3'⟩ := inV_small t a (c.map chu) (w.map wan) at_ b
    have hs := spec_in_ev t a (c.map chu) (w.map wan) at_ b (by omega) hf hcl hc2 hwl hw2
    have hi := impl_in_ev t a (c.map chu) (w.map wan) at_ b (by omega) hf hcl hc2 hwl hw2
    generalize inV t a (c.map chu) (w.map wan) at_ b = R at hs hi q1' q2' q3'
    have q1 : R.1.length ≤ 1048576 := by omega
    have q2 : R.2.2.1.length ≤ 1048576 := by rw [q2']; exact hcl
    have q3 : ∀ x ∈ R.2.2.1, x.f2.length ≤ 1048576 := by rw [q2']; exact hc2
    have q4 : R.2.2.2.1.length ≤ 1048576 := by rw [q3']; exact hwl
    have q5 : ∀ x ∈ R.2.2.2.1, x.f1.length ≤ 1048576 := by rw [q3']; exact hw2
    have hgs := eqLoop_ev R.1 R.2.1 R.2.2.1 R.2.2.2.1 q1 q2 q3 q4 q5
    have hwL := wL_le q1 q2 q3 q4 q5
    have hm2 := markL_ev R.1 R.2.1 R.2.2.1 R.2.2.2.1 hwL
    have hh := heldL_ev R.1 R.2.1 R.2.2.1 R.2.2.2.1 hwL
    refine Lt.get ((Lt.of hr).and ((Lt.of hto).and ((Lt.of hs).and ((Lt.of hi).and ((Lt.of hgs).and ((Lt.of heq).and ((Lt.of hm1).and ((Lt.of hm2).and (Lt.of hh))))))))) fun k ⟨e0, e1, e2, e3, e4, e5, e6, e7, e8⟩ => ?_
    simp only [laws_FnExactInduct.f, e0, Option.bind_some, if_neg h0, e1, e2, e3, e4, e5, e6, e7, e8]
    rw [if_pos trivial, if_pos trivial, if_pos trivial, if_neg (by omega), if_neg (by omega), if_pos trivial]
end Go.Proofs.Ytmjhbdmicejppaa.Pu
