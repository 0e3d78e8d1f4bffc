import Derived.Test.YtmonbofhfaaflaaZeWWords
import Derived.Laws.StructEq
namespace Go.Proofs.YtmonbofhfaaflaaW.PrintWords
open Go.RowKit
end Go.Proofs.YtmonbofhfaaflaaW.PrintWords
