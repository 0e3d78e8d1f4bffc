import Derived.Test.YtmonbofhfaaflaaZeWApart
import Derived.Test.YtmonbofhfaaflaaZeWArr
namespace Go.Proofs.YtmonbofhfaaflaaW.PrintWords
open Go.RowKit
namespace Kd
end Kd
end Go.Proofs.YtmonbofhfaaflaaW.PrintWords
