import Derived.Test.YtmonbofhfaaflaaZfWInv
import Derived.Test.YtmonbofhfaaflaaZfWFootNe
namespace Go.Proofs.YtmonbofhfaaflaaW.PrintWords
open Go.RowKit
end Go.Proofs.YtmonbofhfaaflaaW.PrintWords
namespace Go.Proofs.YtmonbofhfaaflaaW.PrintLast
end Go.Proofs.YtmonbofhfaaflaaW.PrintLast
