import Derived.Test.YtdmbfmfdijgdkaaZcWInv
import Derived.Test.YtdmbfmfdijgdkaaZcWFootNe
namespace Go.Proofs.YtdmbfmfdijgdkaaW.PrintWords
open Go.RowKit
end Go.Proofs.YtdmbfmfdijgdkaaW.PrintWords
namespace Go.Proofs.YtdmbfmfdijgdkaaW.PrintLast
end Go.Proofs.YtdmbfmfdijgdkaaW.PrintLast
