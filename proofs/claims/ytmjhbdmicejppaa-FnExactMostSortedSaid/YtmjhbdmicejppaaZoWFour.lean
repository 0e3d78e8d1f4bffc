import Derived.Test.YtmjhbdmicejppaaZoWTab
namespace Go.Proofs.YtmjhbdmicejppaaW.PrintLast
end Go.Proofs.YtmjhbdmicejppaaW.PrintLast
