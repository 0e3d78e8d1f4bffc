import Derived.Test.YtdmbfmfdijgdkaaZcWTab
namespace Go.Proofs.YtdmbfmfdijgdkaaW.PrintLast
end Go.Proofs.YtdmbfmfdijgdkaaW.PrintLast
