/- FnExactHandTime: the pure statement that is left of this law, about numbers and lists alone. -/
import Derived.Test.YtmonbofhfaaflaaStFnExactHandTime
import Derived.Test.YtmonbofhfaaflaaBh
import Derived.Test.YtmonbofhfaaflaaBq
namespace Go.Proofs.Ytmonbofhfaaflaa.Pu
open Go.RowKit Go.Proofs.Ytmonbofhfaaflaa.Px Go.Proofs.YtmonbofhfaaflaaW.PrintWords Go.Proofs.YtmonbofhfaaflaaW.PrintLast
set_option linter.unusedVariables false

theorem FnExactHandTime : laws_FnExactHandTime.Pure := by
  intro l a b c ⟨h1, h2, h3⟩ _ _ _
  obtain ⟨t, ht, hb⟩ := szPolicy_big l (by omega)
  by_cases h0 : t < 0
  · exact ⟨0, by simp only [laws_FnExactHandTime.f, ht, Option.bind_some, if_pos h0]⟩
  · have hl := hb (by omega)
    have hj : Ev (fun k => laws_FnExactHandTime.j0 k false l l) true := by
      refine Ev.round ((Lt.of (toPolicy_ev l hl)).and (Lt.of (eqPolicy_ev l hl))) fun n ⟨e1, e2⟩ => ?_
      simp only [laws_FnExactHandTime.j0, e1, e2, Option.bind_some]
      simp
    refine Lt.get ((Lt.of (toPolicy_ev l hl)).and ((Lt.of (spec_ht_ev l a b c)).and ((Lt.of (impl_ht_ev l a b c)).and (Lt.of hj)))) fun n ⟨e1, e2, e3, e4⟩ => ?_
    simp only [laws_FnExactHandTime.f, ht, Option.bind_some, if_neg h0, e1, e2, e3, laws_toScreen.f]
    rw [if_pos trivial]
    simpa using e4

end Go.Proofs.Ytmonbofhfaaflaa.Pu
