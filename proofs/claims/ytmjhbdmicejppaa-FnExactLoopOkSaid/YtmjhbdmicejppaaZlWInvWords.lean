import Derived.Test.YtmjhbdmicejppaaZlWInv
import Derived.Test.YtmjhbdmicejppaaZlWFootNe
namespace Go.Proofs.YtmjhbdmicejppaaW.PrintWords
open Go.RowKit
end Go.Proofs.YtmjhbdmicejppaaW.PrintWords
namespace Go.Proofs.YtmjhbdmicejppaaW.PrintLast
end Go.Proofs.YtmjhbdmicejppaaW.PrintLast
