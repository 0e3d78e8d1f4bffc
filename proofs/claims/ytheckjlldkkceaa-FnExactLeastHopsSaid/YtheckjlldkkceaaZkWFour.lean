import Derived.Test.YtheckjlldkkceaaZkWTab
namespace Go.Proofs.YtheckjlldkkceaaW.PrintLast
end Go.Proofs.YtheckjlldkkceaaW.PrintLast
