import Derived.Test.YtheckjlldkkceaaZbStFnExactTakeBag
import Derived.Test.YtheckjlldkkceaaZbMh
namespace Go.Proofs.Ytheckjlldkkceaa.Pu
open Go.RowKit Go.Proofs.Ytheckjlldkkceaa.Px Go.Proofs.YtheckjlldkkceaaW.PrintWords Go.Proofs.YtheckjlldkkceaaW.PrintLast
set_option linter.unusedVariables false
theorem FnExactTakeBag : laws_FnExactTakeBag.Pure := by
  intro a l b ha ⟨h1, h2, h3⟩ hb1
  obtain ⟨t, ht, hb⟩ := szStore_ev a l (by omega) (fun x hx => by have := h3 x hx; omega)
  by_cases h0 : t < 0
  · refine Lt.get (Lt.of ht) fun k e => ?_
    simp only [laws_FnExactTakeBag.f, e, Option.bind_some, if_pos h0]
  · have hl := hb (by omega)
    have hx : ∀ x ∈ l, x.length ≤ 1048576 := fun x hx => by have := tot_ge l x hx; omega
    have hm : (l.map kps).length + (l.map kps).flatten.length ≤ 1048576 := by rw [tot_flat]; simp; omega
    have hmx : ∀ x ∈ l.map kps, x.length ≤ 1048576 := fun x h => by
      obtain ⟨y, hy, rfl⟩ := List.mem_map.1 h
      have := hx y hy
      simpa [kps] using this
    obtain ⟨l', h', ok, i1, i2, s1, s2, s3, s4⟩ := take_both a (l.map kps) b (by omega) (by omega) hmx
    have mk1 := markS_ev a (l.map kps) (by omega) (by omega) hmx
    have mk2 := markS_ev a l' s1 s2 s3
    have he2 := heldS_ev a l' s1 s2 s3
    have mh := markH_ev h' (1 + 2 * l'.flatten.length) (by omega) (by omega) s4
    have hh := heldH_ev h' (1 + 2 * l'.flatten.length) (by omega) (by omega) s4
    refine Lt.get ((Lt.of ht).and ((Lt.of (toStore_ev a l (by omega) hx)).and ((Lt.of i2).and ((Lt.of i1).and ((Lt.of (eqStore_ev a l' s1 s3)).and ((Lt.of (eqHopS_ev h' s4)).and ((Lt.of (eqStore_ev a (l.map kps) (by omega) hmx)).and ((Lt.of mk1).and ((Lt.of mk2).and ((Lt.of he2).and ((Lt.of mh).and (Lt.of hh)))))))))))) fun k ⟨e0, e1, e2, e3, e4, e5, e6, e7, e8, e9, e10, e11⟩ => ?_
    have hb2 : (ok != ok) = false := by simp
    simp only [laws_FnExactTakeBag.f, e0, Option.bind_some, if_neg h0, e1, e2, e3, e4, e5, e6, e7, e8, e9, e10, e11, hb2]
    rw [if_pos trivial, if_pos trivial, if_neg (by simp), if_pos trivial, if_neg (by omega), if_pos trivial, if_pos trivial, if_neg (by omega), if_neg (by omega), if_pos trivial, if_pos trivial, if_pos trivial, if_neg (by simp), if_neg (by omega), if_neg (by omega), if_pos trivial]
end Go.Proofs.Ytheckjlldkkceaa.Pu
