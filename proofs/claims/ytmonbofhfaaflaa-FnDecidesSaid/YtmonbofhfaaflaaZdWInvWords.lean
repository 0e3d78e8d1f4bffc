import Derived.Test.YtmonbofhfaaflaaZdWInv
import Derived.Test.YtmonbofhfaaflaaZdWFootNe
namespace Go.Proofs.YtmonbofhfaaflaaW.PrintWords
open Go.RowKit
end Go.Proofs.YtmonbofhfaaflaaW.PrintWords
namespace Go.Proofs.YtmonbofhfaaflaaW.PrintLast
section
variable {ops : Array Oper} {a : Act} {o og : Oper} {g : Nat} {t : Tmp} {u : Bool}
end Go.Proofs.YtmonbofhfaaflaaW.PrintLast
