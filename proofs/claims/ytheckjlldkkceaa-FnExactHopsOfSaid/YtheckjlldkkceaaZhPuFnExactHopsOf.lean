import Derived.Test.YtheckjlldkkceaaZhStFnExactHopsOf
import Derived.Test.YtheckjlldkkceaaZhHp
namespace Go.Proofs.Ytheckjlldkkceaa.Pu
open Go.RowKit Go.Proofs.Ytheckjlldkkceaa.Px Go.Proofs.YtheckjlldkkceaaW.PrintWords Go.Proofs.YtheckjlldkkceaaW.PrintLast
set_option linter.unusedVariables false
theorem FnExactHopsOf : laws_FnExactHopsOf.Pure := by
  intro a l ha ⟨h1, h2, h3⟩
  obtain ⟨t, ht, hb⟩ := szStore_ev a l (by omega) (fun x hx => by have := h3 x hx; omega)
  by_cases h0 : t < 0
  · refine Lt.get (Lt.of ht) fun k e => ?_
    simp only [laws_FnExactHopsOf.f, e, Option.bind_some, if_pos h0]
  · have hl := hb (by omega)
    have hx : ∀ x ∈ l, x.length ≤ 1048576 := fun x hx => by have := tot_ge l x hx; omega
    have hm : (l.map kps).length ≤ 1048576 := by simp; omega
    have hf : (l.map kps).flatten.length ≤ 1048576 := by rw [tot_flat]; omega
    have hmx : ∀ x ∈ l.map kps, x.length ≤ 1048576 := fun x h => by
      obtain ⟨y, hy, rfl⟩ := List.mem_map.1 h
      have := hx y hy
      simpa [kps] using this
    obtain ⟨m, ok, i1, i2, _⟩ := hops_both a (l.map kps) hm hf
    have hj : Ev (fun k => laws_FnExactHopsOf.j0 k false a l a (l.map kps)) true := Ev.round ((Lt.of (toStore_ev a l (by omega) hx)).and (Lt.of (eqStore_ev a (l.map kps) hm hmx))) fun k ⟨e1, e4⟩ => by
      simp only [laws_FnExactHopsOf.j0, e1, Option.bind_some, e4]
      rw [if_neg (by simp), if_pos trivial]
    refine Lt.get ((Lt.of ht).and ((Lt.of (toStore_ev a l (by omega) hx)).and ((Lt.of i2).and ((Lt.of i1).and (Lt.of hj))))) fun k ⟨e0, e1, e2, e3, e5⟩ => ?_
    simp only [laws_FnExactHopsOf.f, e0, Option.bind_some, if_neg h0, e1, e2, e3]
    rw [if_pos trivial]
    have hb2 : (ok != ok) = false := by simp
    rw [hb2]
    exact e5
end Go.Proofs.Ytheckjlldkkceaa.Pu
