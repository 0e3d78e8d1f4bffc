/- FnExactBuried: the pure statement that is left of this law, about numbers and lists alone. -/
import Derived.Test.YtheckjlldkkceaaStFnExactBuried
import Derived.Test.YtheckjlldkkceaaBu
namespace Go.Proofs.Ytheckjlldkkceaa.Pu
open Go.RowKit Go.Proofs.Ytheckjlldkkceaa.Px Go.Proofs.YtheckjlldkkceaaW.PrintWords Go.Proofs.YtheckjlldkkceaaW.PrintLast
set_option linter.unusedVariables false

theorem FnExactBuried : laws_FnExactBuried.Pure := by
  intro a l  ha ⟨h1, h2, h3⟩ 
  obtain ⟨t, ht, hb⟩ := szStore_ev a l (by omega) (fun x hx => by have := h3 x hx; omega)
  by_cases h0 : t < 0
  · refine Lt.get (Lt.of ht) fun k e => ?_
    simp only [laws_FnExactBuried.f, e, Option.bind_some, if_pos h0]
  · have hl := hb (by omega)
    have hx : ∀ x ∈ l, x.length ≤ 1048576 := fun x hx => by have := tot_ge l x hx; omega
    have hm : (l.map kps).length ≤ 1048576 := by simp; omega
    have hf : (l.map kps).flatten.length ≤ 1048576 := by rw [tot_flat]; omega
    have hmx : ∀ x ∈ l.map kps, x.length ≤ 1048576 := fun x h => by
      obtain ⟨y, hy, rfl⟩ := List.mem_map.1 h
      have := hx y hy
      simpa [kps] using this
    refine Lt.get ((Lt.of ht).and ((Lt.of (toStore_ev a l (by omega) hx)).and ((Lt.of (spec_bu_ev a (l.map kps))).and ((Lt.of (impl_bu_ev a (l.map kps) hm hf)).and (Lt.of (eqStore_ev a (l.map kps) hm hmx)))))) fun k ⟨e0, e1, e2, e3, e4⟩ => ?_
    simp only [laws_FnExactBuried.f, e0, Option.bind_some, if_neg h0, e1, e2, e3, e4]
    simp

end Go.Proofs.Ytheckjlldkkceaa.Pu
