import Derived.Test.YtmonbofhfaaflaaZeStFnExactDecide
import Derived.Test.YtmonbofhfaaflaaZeBd
import Derived.Test.YtmonbofhfaaflaaZeBq
namespace Go.Proofs.Ytmonbofhfaaflaa.Pu
open Go.RowKit Go.Proofs.Ytmonbofhfaaflaa.Px Go.Proofs.YtmonbofhfaaflaaW.PrintWords Go.Proofs.YtmonbofhfaaflaaW.PrintLast
set_option linter.unusedVariables false

theorem FnExactDecide : laws_FnExactDecide.Pure := by
  intro l a b c now vd ⟨h1, h2, h3⟩ _ _ _ _ _
  obtain ⟨t, ht, hb⟩ := szPolicy_big l (by omega)
  by_cases h0 : t < 0
  · exact ⟨0, by simp only [laws_FnExactDecide.f, ht, Option.bind_some, if_pos h0]⟩
  · have hl := hb (by omega)
    have hj : Ev (fun k => laws_FnExactDecide.j0 k false l l) true := by
      refine Ev.round ((Lt.of (toPolicy_ev l hl)).and (Lt.of (eqPolicy_ev l hl))) fun n ⟨e1, e2⟩ => ?_
      simp only [laws_FnExactDecide.j0, e1, e2, Option.bind_some]
      simp
    refine Lt.get ((Lt.of (toPolicy_ev l hl)).and ((Lt.of (spec_de_ev l a b c now vd)).and ((Lt.of (impl_de_ev l a b c now vd)).and (Lt.of hj)))) fun n ⟨e1, e2, e3, e4⟩ => ?_
    simp only [laws_FnExactDecide.f, ht, Option.bind_some, if_neg h0, e1, e2, e3, laws_toScreen.f, laws_eqScreen.f]
    simpa using e4

end Go.Proofs.Ytmonbofhfaaflaa.Pu
