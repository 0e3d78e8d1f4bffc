import Derived.Test.YtmonbofhfaaflaaZfWWords
namespace Go.Proofs.YtmonbofhfaaflaaW.PrintWords
open Go.RowKit
end Go.Proofs.YtmonbofhfaaflaaW.PrintWords
