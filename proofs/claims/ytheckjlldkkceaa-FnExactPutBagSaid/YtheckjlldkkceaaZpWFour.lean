import Derived.Test.YtheckjlldkkceaaZpWTab
namespace Go.Proofs.YtheckjlldkkceaaW.PrintLast
end Go.Proofs.YtheckjlldkkceaaW.PrintLast
