/- FnExactLimitsOk: the pure statement that is left of this law, about numbers and lists alone. -/
import Derived.Test.YtmonbofhfaaflaaStFnExactLimitsOk
namespace Go.Proofs.Ytmonbofhfaaflaa.Pu
open Go.RowKit Go.Proofs.Ytmonbofhfaaflaa.Px Go.Proofs.YtmonbofhfaaflaaW.PrintWords Go.Proofs.YtmonbofhfaaflaaW.PrintLast
set_option linter.unusedVariables false

theorem FnExactLimitsOk : laws_FnExactLimitsOk.Pure := by
  intro a b ha hb
  simp only [laws_FnExactLimitsOk.f, laws_toLimits.f, spec_LimitsOk.f, impl_LimitsOk.f, spec_l01In.f, Option.bind_some]
  by_cases h1 : a ≥ 60 <;> by_cases h2 : a ≤ 2000 <;> by_cases h3 : b ≥ 1 <;> by_cases h4 : b ≤ 40 <;> simp [h1, h2, h3, h4]

end Go.Proofs.Ytmonbofhfaaflaa.Pu
