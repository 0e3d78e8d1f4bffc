import Derived.Test.YtheckjlldkkceaaZyStFnEveryDig
import Derived.Test.YtheckjlldkkceaaZyEd
namespace Go.Proofs.Ytheckjlldkkceaa.Pu
open Go.RowKit Go.Proofs.Ytheckjlldkkceaa.Px Go.Proofs.YtheckjlldkkceaaW.PrintWords Go.Proofs.YtheckjlldkkceaaW.PrintLast
set_option linter.unusedVariables false

theorem FnEveryDig : laws_FnEveryDig.Pure := by
  intro a l way _ _ _
  exact Lt.get (Lt.of (every_ev a l way)) fun _ e => e

end Go.Proofs.Ytheckjlldkkceaa.Pu
