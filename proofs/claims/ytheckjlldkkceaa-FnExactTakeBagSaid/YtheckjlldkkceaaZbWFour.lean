import Derived.Test.YtheckjlldkkceaaZbWTab
namespace Go.Proofs.YtheckjlldkkceaaW.PrintLast
end Go.Proofs.YtheckjlldkkceaaW.PrintLast
