import Derived.Test.YtheckjlldkkceaaZqStFnStorePuts
import Derived.Test.YtheckjlldkkceaaZqSp
namespace Go.Proofs.Ytheckjlldkkceaa.Pu
open Go.RowKit Go.Proofs.Ytheckjlldkkceaa.Px Go.Proofs.YtheckjlldkkceaaW.PrintWords Go.Proofs.YtheckjlldkkceaaW.PrintLast
set_option linter.unusedVariables false
theorem FnStorePuts : laws_FnStorePuts.Pure := by
  intro x _
  exact Lt.get (Lt.of (puts_ev x)) fun _ e => e
end Go.Proofs.Ytheckjlldkkceaa.Pu
