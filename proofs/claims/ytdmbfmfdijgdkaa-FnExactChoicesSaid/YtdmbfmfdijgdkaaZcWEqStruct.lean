import Derived.Test.YtdmbfmfdijgdkaaZcWWords
import Derived.Laws.StructEq
namespace Go.Proofs.YtdmbfmfdijgdkaaW.PrintWords
open Go.RowKit
end Go.Proofs.YtdmbfmfdijgdkaaW.PrintWords
