import Derived.Test.YtmjhbdmicejppaaZtWTab
namespace Go.Proofs.YtmjhbdmicejppaaW.PrintLast
end Go.Proofs.YtmjhbdmicejppaaW.PrintLast
