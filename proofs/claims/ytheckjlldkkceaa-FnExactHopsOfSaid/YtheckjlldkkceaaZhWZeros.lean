import Derived.Test.YtheckjlldkkceaaZhWApart
import Derived.Test.YtheckjlldkkceaaZhWArr
namespace Go.Proofs.YtheckjlldkkceaaW.PrintWords
open Go.RowKit
namespace Kd
end Kd
end Go.Proofs.YtheckjlldkkceaaW.PrintWords
