import Derived.Test.YtmjhbdmicejppaaZsStFnLoopTakes
import Derived.Test.YtmjhbdmicejppaaZsTt
namespace Go.Proofs.Ytmjhbdmicejppaa.Pu
open Go.RowKit Go.Proofs.Ytmjhbdmicejppaa.Px Go.Proofs.YtmjhbdmicejppaaW.PrintWords Go.Proofs.YtmjhbdmicejppaaW.PrintLast
set_option linter.unusedVariables false
theorem FnLoopTakes : laws_FnLoopTakes.Pure := by
  exact fun l0 _ => takes l0
end Go.Proofs.Ytmjhbdmicejppaa.Pu
