import Derived.Test.YtmonbofhfaaflaaZfWWords
import Derived.Test.YtmonbofhfaaflaaZfWLast
namespace Go.Proofs.YtmonbofhfaaflaaW.PrintWords
open Go.RowKit
namespace Kd
end Kd
end Go.Proofs.YtmonbofhfaaflaaW.PrintWords
