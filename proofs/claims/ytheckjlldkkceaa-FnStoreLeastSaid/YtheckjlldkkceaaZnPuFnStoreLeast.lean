import Derived.Test.YtheckjlldkkceaaZnStFnStoreLeast
import Derived.Test.YtheckjlldkkceaaZnSl
namespace Go.Proofs.Ytheckjlldkkceaa.Pu
open Go.RowKit Go.Proofs.Ytheckjlldkkceaa.Px Go.Proofs.YtheckjlldkkceaaW.PrintWords Go.Proofs.YtheckjlldkkceaaW.PrintLast
set_option linter.unusedVariables false
theorem FnStoreLeast : laws_FnStoreLeast.Pure := by
  intro x _
  exact Lt.get (Lt.of (least_ev x)) fun _ e => e
end Go.Proofs.Ytheckjlldkkceaa.Pu
