import Derived.Test.YtheckjlldkkceaaZnPx0
namespace Go.Proofs.Ytheckjlldkkceaa.Px
open Go.RowKit Go.Proofs.YtheckjlldkkceaaW.PrintWords Go.Proofs.YtheckjlldkkceaaW.PrintLast Go.Proofs.YtheckjlldkkceaaW.PrintMore
attribute [local go_sem] max2_int min2_int max_two min_two max_three min_three max_four min_four   
set_option linter.unusedVariables false
set_option linter.unusedSimpArgs false
def spec_l06Least.l0 : Nat → List (S30) → Int → Int → Option (Int)
 | 0, _, _, _ => none
 | k + 1, x0, x3, x4 => if x4 < (x0.length : Int) then (if 0 ≤ x4 then (spec_l06Least.l0 k x0 (mn x3 ((rd_T30 x0 x4).f1)) (wrap64 (x4 + 1))) else (none)) else (some x3)
def spec_l06Least.f (k : Nat) (l0 : List (S30)) : Option (Int) := spec_l06Least.l0 k l0 100001 0
end Go.Proofs.Ytheckjlldkkceaa.Px
