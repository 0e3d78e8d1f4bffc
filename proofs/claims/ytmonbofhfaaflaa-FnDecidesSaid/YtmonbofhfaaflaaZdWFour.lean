import Derived.Test.YtmonbofhfaaflaaZdWTab
namespace Go.Proofs.YtmonbofhfaaflaaW.PrintLast
section
variable {P : Program} {ops : Array Oper} {Q : Exit → Act → World → Prop} {md : Region.Mode} {S : World → Prop} {ds : List Nat} {T : Bool × List (List Nat × List Nat)}
end Go.Proofs.YtmonbofhfaaflaaW.PrintLast
