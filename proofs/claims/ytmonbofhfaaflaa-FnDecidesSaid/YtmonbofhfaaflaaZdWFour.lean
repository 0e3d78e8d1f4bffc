import Derived.Test.YtmonbofhfaaflaaZdWTab
namespace Go.Proofs.YtmonbofhfaaflaaW.PrintLast
end Go.Proofs.YtmonbofhfaaflaaW.PrintLast
