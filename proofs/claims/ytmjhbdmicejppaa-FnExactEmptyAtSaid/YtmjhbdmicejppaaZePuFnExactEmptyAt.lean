import Derived.Test.YtmjhbdmicejppaaZeStFnExactEmptyAt
import Derived.Test.YtmjhbdmicejppaaZeSo
namespace Go.Proofs.Ytmjhbdmicejppaa.Pu
open Go.RowKit Go.Proofs.Ytmjhbdmicejppaa.Px Go.Proofs.YtmjhbdmicejppaaW.PrintWords Go.Proofs.YtmjhbdmicejppaaW.PrintLast
set_option linter.unusedVariables false
theorem FnExactEmptyAt : laws_FnExactEmptyAt.Pure := by
  intro t a c w at_ ⟨h1, h2, h3⟩ ha ⟨k1, k2, k3⟩ ⟨g1, g2, g3⟩ hat_
  have hcb : ∀ x ∈ c, x.f2.length ≤ 17592186044416 := fun x hx => by
    have := k3 x hx
    omega
  have hwb : ∀ x ∈ w, x.f1.length ≤ 17592186044416 := fun x hx => by
    have := g3 x hx
    omega
  obtain ⟨r, hr, hb⟩ := szLoop_ev t a c w (by omega) (by omega) hcb (by omega) hwb
  by_cases h0 : r < 0
  · refine Lt.get (Lt.of hr) fun k e => ?_
    simp only [laws_FnExactEmptyAt.f, e, Option.bind_some, if_pos h0]
  · have hl := hb (by omega)
    have hc1 : ∀ x ∈ c, x.f2.length ≤ 1048576 := fun x hx => by have := totC_ge c x hx; omega
    have hw1 : ∀ x ∈ w, x.f1.length ≤ 1048576 := fun x hx => by have := totW_ge w x hx; omega
    have hc2 : ∀ x ∈ c.map chu, x.f2.length ≤ 1048576 := fun x h => by
      obtain ⟨y, hy, rfl⟩ := List.mem_map.1 h
      exact hc1 y hy
    have hw2 : ∀ x ∈ w.map wan, x.f1.length ≤ 1048576 := fun x h => by
      obtain ⟨y, hy, rfl⟩ := List.mem_map.1 h
      exact hw1 y hy
    have hf : t.length + ((c.map chu).flatMap (fun x => x.f2)).length ≤ 1048576 := by rw [totC_flat]; omega
    have hto := toLoop_ev t a c w (by omega) (by omega) hc1 (by omega) hw1
    have heq := eqLoop_ev t a (c.map chu) (w.map wan) (by omega) (by rw [List.length_map]; omega) hc2 (by rw [List.length_map]; omega) hw2
    have hj : Ev (fun k => laws_FnExactEmptyAt.j0 k false t a c w t a (c.map chu) (w.map wan)) true := Ev.round ((Lt.of hto).and (Lt.of heq)) fun k ⟨e1, e2⟩ => by
      simp only [laws_FnExactEmptyAt.j0, e1, e2, Option.bind_some]
      simp
    refine Lt.get ((Lt.of hr).and ((Lt.of hto).and ((Lt.of (spec_em_ev t a (c.map chu) (w.map wan) at_ (by omega) hf hw2)).and ((Lt.of (impl_em_ev t a (c.map chu) (w.map wan) at_ (by omega) hf hw2)).and (Lt.of hj))))) fun k ⟨e0, e1, e2, e3, e4⟩ => ?_
    simp only [laws_FnExactEmptyAt.f, e0, Option.bind_some, if_neg h0, e1, e2, e3]
    simpa using e4
end Go.Proofs.Ytmjhbdmicejppaa.Pu
