import Derived.Test.YtheckjlldkkceaaZkWApart
import Derived.Test.YtheckjlldkkceaaZkWArr
namespace Go.Proofs.YtheckjlldkkceaaW.PrintWords
open Go.RowKit
namespace Kd
end Kd
end Go.Proofs.YtheckjlldkkceaaW.PrintWords
