import Derived.Test.YtheckjlldkkceaaZbWWords
import Derived.Test.YtheckjlldkkceaaZbWLast
namespace Go.Proofs.YtheckjlldkkceaaW.PrintWords
open Go.RowKit
namespace Kd
end Kd
end Go.Proofs.YtheckjlldkkceaaW.PrintWords
