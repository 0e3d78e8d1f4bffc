import Derived.Test.YtmjhbdmicejppaaZrStFnLoopSorts
import Derived.Test.YtmjhbdmicejppaaZrLs
namespace Go.Proofs.Ytmjhbdmicejppaa.Pu
open Go.RowKit Go.Proofs.Ytmjhbdmicejppaa.Px Go.Proofs.YtmjhbdmicejppaaW.PrintWords Go.Proofs.YtmjhbdmicejppaaW.PrintLast
set_option linter.unusedVariables false
theorem FnLoopSorts : laws_FnLoopSorts.Pure := by
  exact fun l0 _ => loopSorts l0
end Go.Proofs.Ytmjhbdmicejppaa.Pu
