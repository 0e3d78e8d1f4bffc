/- FnExactSideDifference: the pure statement that is left of this law, about numbers and lists alone. -/
import Derived.Test.YtmonbofhfaaflaaStFnExactSideDifference
import Derived.Test.YtmonbofhfaaflaaB2
namespace Go.Proofs.Ytmonbofhfaaflaa.Pu
open Go.RowKit Go.Proofs.Ytmonbofhfaaflaa.Px Go.Proofs.YtmonbofhfaaflaaW.PrintWords Go.Proofs.YtmonbofhfaaflaaW.PrintLast
set_option linter.unusedVariables false

theorem FnExactSideDifference : laws_FnExactSideDifference.Pure := by
  intro l b ⟨h1, h2, h3⟩ ⟨g1, g2, g3⟩
  by_cases hl : l.length ≤ 1048576
  · by_cases hb : b.length ≤ 1048576
    · refine Lt.get ((Lt.of (toIntS_ev l hl)).and ((Lt.of (toBoolS_ev b hb)).and ((Lt.of (spec_sd_ev l b)).and ((Lt.of (impl_sd_ev l b)).and ((Lt.of (eqIntS_ev l hl)).and (Lt.of (eqBoolS_ev b hb))))))) fun n ⟨e1, e2, e3, e4, e5, e6⟩ => ?_
      simp only [laws_FnExactSideDifference.f, e1, e2, e3, e4, e5, e6, Option.bind_some]
      rw [if_neg (by omega), if_neg (by omega)]
      simp
    · exact ⟨0, by simp only [laws_FnExactSideDifference.f]; rw [if_neg (by omega), if_pos (by omega)]⟩
  · exact ⟨0, by simp only [laws_FnExactSideDifference.f]; rw [if_pos (by omega)]⟩

end Go.Proofs.Ytmonbofhfaaflaa.Pu
