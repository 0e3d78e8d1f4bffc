import Derived.Test.YtheckjlldkkceaaZkBu
import Derived.Test.YtheckjlldkkceaaZkPx7
import Derived.Test.YtheckjlldkkceaaZkPx9
import Derived.Test.YtheckjlldkkceaaZkPx22
namespace Go.Proofs.Ytheckjlldkkceaa.Pu
open Go.RowKit Go.Proofs.Ytheckjlldkkceaa.Px Go.Proofs.YtheckjlldkkceaaW.PrintWords Go.Proofs.YtheckjlldkkceaaW.PrintLast Go.Proofs.YtheckjlldkkceaaW.PrintMore
set_option linter.unusedVariables false

end Go.Proofs.Ytheckjlldkkceaa.Pu
