import Derived.Test.YtheckjlldkkceaaZsWTab
namespace Go.Proofs.YtheckjlldkkceaaW.PrintLast
end Go.Proofs.YtheckjlldkkceaaW.PrintLast
