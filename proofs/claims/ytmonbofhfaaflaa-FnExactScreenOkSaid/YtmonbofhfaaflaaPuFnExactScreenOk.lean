/- FnExactScreenOk: the pure statement that is left of this law, about numbers and lists alone. -/
import Derived.Test.YtmonbofhfaaflaaStFnExactScreenOk
import Derived.Test.YtmonbofhfaaflaaB2
namespace Go.Proofs.Ytmonbofhfaaflaa.Pu
open Go.RowKit Go.Proofs.Ytmonbofhfaaflaa.Px Go.Proofs.YtmonbofhfaaflaaW.PrintWords Go.Proofs.YtmonbofhfaaflaaW.PrintLast
set_option linter.unusedVariables false

theorem FnExactScreenOk : laws_FnExactScreenOk.Pure := by
  intro a b c ha hb hc
  simp only [laws_FnExactScreenOk.f, laws_toScreen.f, Option.bind_some, screen_spec, screen_impl]
  simp

end Go.Proofs.Ytmonbofhfaaflaa.Pu
