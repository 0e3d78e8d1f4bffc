import Derived.Test.YtheckjlldkkceaaZnBa
import Derived.Test.YtheckjlldkkceaaZnPx0
namespace Go.Proofs.Ytheckjlldkkceaa.Pu
open Go.RowKit Go.Proofs.Ytheckjlldkkceaa.Px Go.Proofs.YtheckjlldkkceaaW.PrintWords Go.Proofs.YtheckjlldkkceaaW.PrintLast
set_option linter.unusedVariables false
theorem rd30_nat (l : List S30) (i : Nat) (h : i < l.length) : rd_T30 l (i : Int) = l[i] := by simp [rd_T30, h]
theorem rdL2_nat (l : List (List S30)) (i : Nat) (h : i < l.length) : rd_L2 l (i : Int) = l[i] := by simp [rd_L2, h]
def tot (l : List (List S98)) : Nat := (l.map List.length).sum
end Go.Proofs.Ytheckjlldkkceaa.Pu
