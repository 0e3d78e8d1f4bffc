import Derived.Test.YtheckjlldkkceaaZyWTab
namespace Go.Proofs.YtheckjlldkkceaaW.PrintLast
end Go.Proofs.YtheckjlldkkceaaW.PrintLast
