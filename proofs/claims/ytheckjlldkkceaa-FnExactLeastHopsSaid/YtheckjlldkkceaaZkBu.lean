import Derived.Test.YtheckjlldkkceaaZkNx
import Derived.Test.YtheckjlldkkceaaZkPx7
import Derived.Test.YtheckjlldkkceaaZkPx8
import Derived.Test.YtheckjlldkkceaaZkPx14
namespace Go.Proofs.Ytheckjlldkkceaa.Pu
open Go.RowKit Go.Proofs.Ytheckjlldkkceaa.Px Go.Proofs.YtheckjlldkkceaaW.PrintWords Go.Proofs.YtheckjlldkkceaaW.PrintLast Go.Proofs.YtheckjlldkkceaaW.PrintMore
set_option linter.unusedVariables false

end Go.Proofs.Ytheckjlldkkceaa.Pu
