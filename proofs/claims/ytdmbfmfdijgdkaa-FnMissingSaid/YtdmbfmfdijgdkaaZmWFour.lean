import Derived.Test.YtdmbfmfdijgdkaaZmWTab
namespace Go.Proofs.YtdmbfmfdijgdkaaW.PrintLast
end Go.Proofs.YtdmbfmfdijgdkaaW.PrintLast
