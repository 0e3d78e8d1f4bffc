import Derived.Test.YtdmbfmfdijgdkaaZuWTab
namespace Go.Proofs.YtdmbfmfdijgdkaaW.PrintLast
end Go.Proofs.YtdmbfmfdijgdkaaW.PrintLast
