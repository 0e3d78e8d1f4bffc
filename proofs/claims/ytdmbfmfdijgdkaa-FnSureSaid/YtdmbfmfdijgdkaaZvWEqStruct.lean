import Derived.Test.YtdmbfmfdijgdkaaZvWWords
import Derived.Laws.StructEq
namespace Go.Proofs.YtdmbfmfdijgdkaaW.PrintWords
open Go.RowKit
end Go.Proofs.YtdmbfmfdijgdkaaW.PrintWords
