import Derived.Test.YtdmbfmfdijgdkaaZvWTab
namespace Go.Proofs.YtdmbfmfdijgdkaaW.PrintLast
def up (b : Nat → Bool) (i : Nat) : Nat → Bool := fun j => if j = i then true else b j
end Go.Proofs.YtdmbfmfdijgdkaaW.PrintLast
