import Derived.Test.YtmjhbdmicejppaaZxLi
import Derived.Test.YtmjhbdmicejppaaZxPx3
import Derived.Test.YtmjhbdmicejppaaZxPx0
import Derived.Test.YtmjhbdmicejppaaZxPx1
import Derived.Test.YtmjhbdmicejppaaZxPx2
namespace Go.Proofs.Ytmjhbdmicejppaa.Pu
open Go.RowKit Go.Proofs.Ytmjhbdmicejppaa.Px Go.Proofs.YtmjhbdmicejppaaW.PrintWords Go.Proofs.YtmjhbdmicejppaaW.PrintLast
set_option linter.unusedVariables false
def trayV (t : List Int) (a at_ : Int) : Int := Int.tmod (wrap64 ((wrap64 (at_ - a)) + (t.length : Int))) (t.length : Int)
end Go.Proofs.Ytmjhbdmicejppaa.Pu
