import Derived.Test.YtmjhbdmicejppaaZoWWords
import Derived.Laws.StructEq
namespace Go.Proofs.YtmjhbdmicejppaaW.PrintWords
open Go.RowKit
end Go.Proofs.YtmjhbdmicejppaaW.PrintWords
