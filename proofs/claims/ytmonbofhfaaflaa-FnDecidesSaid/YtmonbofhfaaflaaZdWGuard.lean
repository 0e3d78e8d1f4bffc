import Derived.Test.YtmonbofhfaaflaaZdWWords
namespace Go.Proofs.YtmonbofhfaaflaaW.PrintWords
open Go.RowKit
section
variable {P : Program} {ops : Array Oper} {rest : List Oper} {o : Oper} {a : Act} {Q : Exit → Act → World → Prop} {W : World}
end Go.Proofs.YtmonbofhfaaflaaW.PrintWords
