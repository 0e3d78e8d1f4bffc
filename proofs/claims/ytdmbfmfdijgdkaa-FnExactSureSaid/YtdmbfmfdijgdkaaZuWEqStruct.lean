import Derived.Test.YtdmbfmfdijgdkaaZuWWords
import Derived.Laws.StructEq
namespace Go.Proofs.YtdmbfmfdijgdkaaW.PrintWords
open Go.RowKit
end Go.Proofs.YtdmbfmfdijgdkaaW.PrintWords
