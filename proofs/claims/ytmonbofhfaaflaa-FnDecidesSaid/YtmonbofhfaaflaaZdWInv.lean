import Derived.Test.YtmonbofhfaaflaaZdWTab
namespace Go.Proofs.YtmonbofhfaaflaaW.PrintLast
/-- Number i is listed too. -/
def up (b : Nat → Bool) (i : Nat) : Nat → Bool := fun j => if j = i then true else b j
end Go.Proofs.YtmonbofhfaaflaaW.PrintLast
