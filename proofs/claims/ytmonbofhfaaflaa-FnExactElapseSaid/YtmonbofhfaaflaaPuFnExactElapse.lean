/- FnExactElapse: the pure statement that is left of this law, about numbers and lists alone. -/
import Derived.Test.YtmonbofhfaaflaaStFnExactElapse
import Derived.Test.YtmonbofhfaaflaaBe
import Derived.Test.YtmonbofhfaaflaaBq
namespace Go.Proofs.Ytmonbofhfaaflaa.Pu
open Go.RowKit Go.Proofs.Ytmonbofhfaaflaa.Px Go.Proofs.YtmonbofhfaaflaaW.PrintWords Go.Proofs.YtmonbofhfaaflaaW.PrintLast
set_option linter.unusedVariables false

theorem FnExactElapse : laws_FnExactElapse.Pure := by
  intro l a b c now ⟨h1, h2, h3⟩ _ _ _ _
  obtain ⟨t, ht, hb⟩ := szPolicy_big l (by omega)
  by_cases h0 : t < 0
  · exact ⟨0, by simp only [laws_FnExactElapse.f, ht, Option.bind_some, if_pos h0]⟩
  · have hl := hb (by omega)
    refine Lt.get ((Lt.of (toPolicy_ev l hl)).and ((Lt.of (spec_el_ev l a b c now)).and ((Lt.of (impl_el_ev l a b c now)).and (Lt.of (eqPolicy_ev l hl))))) fun n ⟨e1, e2, e3, e4⟩ => ?_
    simp only [laws_FnExactElapse.f, ht, Option.bind_some, if_neg h0, e1, e2, e3, e4, laws_toScreen.f, laws_eqScreen.f]
    simp

end Go.Proofs.Ytmonbofhfaaflaa.Pu
