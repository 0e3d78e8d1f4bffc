import Derived.Test.YtmonbofhfaaflaaZdWWords
namespace Go.Proofs.YtmonbofhfaaflaaW.PrintWords
open Go.RowKit
end Go.Proofs.YtmonbofhfaaflaaW.PrintWords
