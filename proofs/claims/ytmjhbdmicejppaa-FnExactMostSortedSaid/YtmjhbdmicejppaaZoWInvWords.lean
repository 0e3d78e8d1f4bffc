import Derived.Test.YtmjhbdmicejppaaZoWInv
import Derived.Test.YtmjhbdmicejppaaZoWFootNe
namespace Go.Proofs.YtmjhbdmicejppaaW.PrintWords
open Go.RowKit
end Go.Proofs.YtmjhbdmicejppaaW.PrintWords
namespace Go.Proofs.YtmjhbdmicejppaaW.PrintLast
end Go.Proofs.YtmjhbdmicejppaaW.PrintLast
