import Derived.Test.YtmonbofhfaaflaaZfWApart
import Derived.Test.YtmonbofhfaaflaaZfWArr
namespace Go.Proofs.YtmonbofhfaaflaaW.PrintWords
open Go.RowKit
namespace Kd
end Kd
end Go.Proofs.YtmonbofhfaaflaaW.PrintWords
