import Derived.Test.YtmonbofhfaaflaaZdWApart
import Derived.Test.YtmonbofhfaaflaaZdWArr
namespace Go.Proofs.YtmonbofhfaaflaaW.PrintWords
open Go.RowKit
section
variable {P : Program}
namespace Kd
section
variable {P : Program} {ops : Array Oper} {rest : List Oper} {o : Oper} {a : Act} {Q : Exit → Act → World → Prop} {Kc : Act → World → Prop} {α : Type}
section
variable {α : Type} {d : Kd α} {e : Nat} {w : World} {base : Nat} {ok : Nat → Prop} {v : Value} {xs : List α}
section
variable {P : Program} {ops : Array Oper} {rest : List Oper} {o : Oper} {a : Act} {Q : Exit → Act → World → Prop} {Kc : Act → World → Prop} {α : Type}
end Kd
end Go.Proofs.YtmonbofhfaaflaaW.PrintWords
