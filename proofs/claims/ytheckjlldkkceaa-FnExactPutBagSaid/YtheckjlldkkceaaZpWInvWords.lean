import Derived.Test.YtheckjlldkkceaaZpWInv
import Derived.Test.YtheckjlldkkceaaZpWFootNe
namespace Go.Proofs.YtheckjlldkkceaaW.PrintWords
open Go.RowKit
end Go.Proofs.YtheckjlldkkceaaW.PrintWords
namespace Go.Proofs.YtheckjlldkkceaaW.PrintLast
end Go.Proofs.YtheckjlldkkceaaW.PrintLast
