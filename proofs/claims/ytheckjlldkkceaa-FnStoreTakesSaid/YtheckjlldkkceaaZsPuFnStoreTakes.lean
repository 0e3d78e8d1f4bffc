import Derived.Test.YtheckjlldkkceaaZsStFnStoreTakes
import Derived.Test.YtheckjlldkkceaaZsTs
namespace Go.Proofs.Ytheckjlldkkceaa.Pu
open Go.RowKit Go.Proofs.Ytheckjlldkkceaa.Px Go.Proofs.YtheckjlldkkceaaW.PrintWords Go.Proofs.YtheckjlldkkceaaW.PrintLast
set_option linter.unusedVariables false
theorem FnStoreTakes : laws_FnStoreTakes.Pure := by
  intro a l _ _
  exact Lt.get (Lt.of (takes_ev a l)) fun _ e => e
end Go.Proofs.Ytheckjlldkkceaa.Pu
