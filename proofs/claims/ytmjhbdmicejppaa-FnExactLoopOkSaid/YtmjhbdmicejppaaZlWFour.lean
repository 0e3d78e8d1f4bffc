import Derived.Test.YtmjhbdmicejppaaZlWTab
namespace Go.Proofs.YtmjhbdmicejppaaW.PrintLast
end Go.Proofs.YtmjhbdmicejppaaW.PrintLast
