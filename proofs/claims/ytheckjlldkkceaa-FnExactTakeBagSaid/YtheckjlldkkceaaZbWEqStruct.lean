import Derived.Test.YtheckjlldkkceaaZbWWords
import Derived.Laws.StructEq
namespace Go.Proofs.YtheckjlldkkceaaW.PrintWords
open Go.RowKit
end Go.Proofs.YtheckjlldkkceaaW.PrintWords
