import Derived.Test.YtheckjlldkkceaaZnWTab
namespace Go.Proofs.YtheckjlldkkceaaW.PrintLast
def up (b : Nat → Bool) (i : Nat) : Nat → Bool := fun j => if j = i then true else b j
end Go.Proofs.YtheckjlldkkceaaW.PrintLast
