import Derived.Test.YtmonbofhfaaflaaZdWApart
import Derived.Test.YtmonbofhfaaflaaZdWArr
namespace Go.Proofs.YtmonbofhfaaflaaW.PrintWords
open Go.RowKit
namespace Kd
end Kd
end Go.Proofs.YtmonbofhfaaflaaW.PrintWords
