/- FnExactPolicyOk: the pure statement that is left of this law, about numbers and lists alone. -/
import Derived.Test.YtmonbofhfaaflaaStFnExactPolicyOk
import Derived.Test.YtmonbofhfaaflaaB2
namespace Go.Proofs.Ytmonbofhfaaflaa.Pu
open Go.RowKit Go.Proofs.Ytmonbofhfaaflaa.Px Go.Proofs.YtmonbofhfaaflaaW.PrintWords Go.Proofs.YtmonbofhfaaflaaW.PrintLast
set_option linter.unusedVariables false

theorem FnExactPolicyOk : laws_FnExactPolicyOk.Pure := by
  intro l ⟨h1, h2, h3⟩
  obtain ⟨t, ht, hb⟩ := szPolicy_big l (by omega)
  by_cases h0 : t < 0
  · exact ⟨0, by simp only [laws_FnExactPolicyOk.f, ht, Option.bind_some, if_pos h0]⟩
  · have hl := hb (by omega)
    refine Lt.get ((Lt.of (toPolicy_ev l hl)).and ((Lt.of (spec_pol_ev l)).and (Lt.of (eqPolicy_ev l hl)))) fun n ⟨e1, e2, e3⟩ => ?_
    simp only [laws_FnExactPolicyOk.f, ht, Option.bind_some, if_neg h0, e1, e2, e3, impl_pol]
    simp

end Go.Proofs.Ytmonbofhfaaflaa.Pu
