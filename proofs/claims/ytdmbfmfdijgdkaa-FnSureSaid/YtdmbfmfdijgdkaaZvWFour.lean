import Derived.Test.YtdmbfmfdijgdkaaZvWTab
namespace Go.Proofs.YtdmbfmfdijgdkaaW.PrintLast
end Go.Proofs.YtdmbfmfdijgdkaaW.PrintLast
