import Derived.Test.YtheckjlldkkceaaZbWInv
import Derived.Test.YtheckjlldkkceaaZbWFootNe
namespace Go.Proofs.YtheckjlldkkceaaW.PrintWords
open Go.RowKit
end Go.Proofs.YtheckjlldkkceaaW.PrintWords
namespace Go.Proofs.YtheckjlldkkceaaW.PrintLast
end Go.Proofs.YtheckjlldkkceaaW.PrintLast
