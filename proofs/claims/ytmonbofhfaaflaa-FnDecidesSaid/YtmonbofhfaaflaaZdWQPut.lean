import Derived.Test.YtmonbofhfaaflaaZdWWords
import Derived.Test.YtmonbofhfaaflaaZdWLast
namespace Go.Proofs.YtmonbofhfaaflaaW.PrintWords
open Go.RowKit
namespace Kd
end Kd
end Go.Proofs.YtmonbofhfaaflaaW.PrintWords
