import Derived.Test.YtheckjlldkkceaaZbWApart
import Derived.Test.YtheckjlldkkceaaZbWArr
namespace Go.Proofs.YtheckjlldkkceaaW.PrintWords
open Go.RowKit
namespace Kd
end Kd
end Go.Proofs.YtheckjlldkkceaaW.PrintWords
