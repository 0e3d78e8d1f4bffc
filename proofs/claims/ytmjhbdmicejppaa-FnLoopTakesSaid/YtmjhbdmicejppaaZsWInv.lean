import Derived.Test.YtmjhbdmicejppaaZsWTab
namespace Go.Proofs.YtmjhbdmicejppaaW.PrintLast
def up (b : Nat → Bool) (i : Nat) : Nat → Bool := fun j => if j = i then true else b j
end Go.Proofs.YtmjhbdmicejppaaW.PrintLast
