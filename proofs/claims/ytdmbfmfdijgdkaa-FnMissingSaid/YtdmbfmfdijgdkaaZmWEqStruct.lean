import Derived.Test.YtdmbfmfdijgdkaaZmWWords
import Derived.Laws.StructEq
namespace Go.Proofs.YtdmbfmfdijgdkaaW.PrintWords
open Go.RowKit
end Go.Proofs.YtdmbfmfdijgdkaaW.PrintWords
