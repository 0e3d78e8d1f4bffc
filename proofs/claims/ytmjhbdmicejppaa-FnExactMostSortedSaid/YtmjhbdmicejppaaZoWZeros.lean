import Derived.Test.YtmjhbdmicejppaaZoWApart
import Derived.Test.YtmjhbdmicejppaaZoWArr
namespace Go.Proofs.YtmjhbdmicejppaaW.PrintWords
open Go.RowKit
namespace Kd
end Kd
end Go.Proofs.YtmjhbdmicejppaaW.PrintWords
