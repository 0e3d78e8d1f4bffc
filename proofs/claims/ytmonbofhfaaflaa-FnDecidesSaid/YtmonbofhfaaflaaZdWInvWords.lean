import Derived.Test.YtmonbofhfaaflaaZdWInv
import Derived.Test.YtmonbofhfaaflaaZdWFootNe
namespace Go.Proofs.YtmonbofhfaaflaaW.PrintWords
open Go.RowKit
end Go.Proofs.YtmonbofhfaaflaaW.PrintWords
namespace Go.Proofs.YtmonbofhfaaflaaW.PrintLast
end Go.Proofs.YtmonbofhfaaflaaW.PrintLast
