import Derived.Test.YtmonbofhfaaflaaZeWTab
namespace Go.Proofs.YtmonbofhfaaflaaW.PrintLast
end Go.Proofs.YtmonbofhfaaflaaW.PrintLast
