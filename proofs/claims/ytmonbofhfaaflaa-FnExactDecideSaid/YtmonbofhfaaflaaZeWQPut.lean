import Derived.Test.YtmonbofhfaaflaaZeWWords
import Derived.Test.YtmonbofhfaaflaaZeWLast
namespace Go.Proofs.YtmonbofhfaaflaaW.PrintWords
open Go.RowKit
namespace Kd
end Kd
end Go.Proofs.YtmonbofhfaaflaaW.PrintWords
