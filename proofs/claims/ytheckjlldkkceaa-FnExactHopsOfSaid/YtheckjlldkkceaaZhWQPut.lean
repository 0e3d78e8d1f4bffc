import Derived.Test.YtheckjlldkkceaaZhWWords
import Derived.Test.YtheckjlldkkceaaZhWLast
namespace Go.Proofs.YtheckjlldkkceaaW.PrintWords
open Go.RowKit
namespace Kd
end Kd
end Go.Proofs.YtheckjlldkkceaaW.PrintWords
