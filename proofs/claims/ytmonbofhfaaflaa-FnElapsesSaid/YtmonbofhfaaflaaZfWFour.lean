import Derived.Test.YtmonbofhfaaflaaZfWTab
namespace Go.Proofs.YtmonbofhfaaflaaW.PrintLast
end Go.Proofs.YtmonbofhfaaflaaW.PrintLast
