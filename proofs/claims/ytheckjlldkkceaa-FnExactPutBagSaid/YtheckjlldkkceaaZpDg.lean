import Derived.Test.YtheckjlldkkceaaZpLa
namespace Go.Proofs.Ytheckjlldkkceaa.Pu
open Go.RowKit Go.Proofs.Ytheckjlldkkceaa.Px Go.Proofs.YtheckjlldkkceaaW.PrintWords Go.Proofs.YtheckjlldkkceaaW.PrintLast
set_option linter.unusedVariables false
end Go.Proofs.Ytheckjlldkkceaa.Pu
