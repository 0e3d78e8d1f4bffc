import Derived.Test.YtheckjlldkkceaaZyPx0
import Derived.Test.YtheckjlldkkceaaZyPx3
import Derived.Test.YtheckjlldkkceaaZyPx5
import Derived.Test.YtheckjlldkkceaaZyPx10
import Derived.Test.YtheckjlldkkceaaZyPx12
namespace Go.Proofs.Ytheckjlldkkceaa.Px
open Go.RowKit Go.Proofs.YtheckjlldkkceaaW.PrintWords Go.Proofs.YtheckjlldkkceaaW.PrintLast Go.Proofs.YtheckjlldkkceaaW.PrintMore
attribute [local go_sem] max2_int min2_int max_two min_two max_three min_three max_four min_four   -- for this text's walks alone
set_option linter.unusedVariables false
set_option linter.unusedSimpArgs false

mutual
def spec_l06Few.l0 : Nat → Int → Int → Int → Int → List (List (S30)) → Option (Int)
 | 0, _, _, _, _, _ => none
 | k + 1, x6, x9, x10, x450000, x450001 => if x10 < (x450001.length : Int) then (if x10 = x6 then (spec_l06Few.j1 k x6 x9 x10 false x450000 x450001) else (if 0 ≤ x10 then (spec_l06Few.j1 k x6 x9 x10 (decide (((rd_L2 x450001 x10).length : Int) < x450000)) x450000 x450001) else (none))) else (some x9)
def spec_l06Few.j1 : Nat → Int → Int → Int → Bool → Int → List (List (S30)) → Option (Int)
 | 0, _, _, _, _, _, _ => none
 | k + 1, x6, x9, x10, x78, x450000, x450001 => if x78 = true then ((spec_l06Hop.f k x450000 x450001 x6 x10).bind fun bt468 => ((spec_l06Few.f k bt468.1 bt468.2 (wrap64 (x9 - 2))).bind fun t472 => (spec_l06Few.l0 k x6 (mn x9 (wrap64 (1 + t472))) (wrap64 (x10 + 1)) x450000 x450001))) else (spec_l06Few.l0 k x6 x9 (wrap64 (x10 + 1)) x450000 x450001)
def spec_l06Few.f : Nat → Int → List (List (S30)) → Int → Option (Int)
 | 0, _, _, _ => none
 | k + 1, a0_0, l0_1, a1 => (spec_NextOut.f k a0_0 l0_1).bind fun t450 => (if t450 = 0 then (some 0) else ((spec_l06Find.f k a0_0 l0_1 t450).bind fun t451 => (if 0 ≤ t451 then (if t451 < (l0_1.length : Int) then (if 0 ≤ (wrap64 (((rd_L2 l0_1 t451).length : Int) - 1)) then (if (wrap64 (((rd_L2 l0_1 t451).length : Int) - 1)) < ((rd_L2 l0_1 t451).length : Int) then (if ((rd_T30 (rd_L2 l0_1 t451) (wrap64 (((rd_L2 l0_1 t451).length : Int) - 1))).f0) = t450 then ((spec_l06Copy.f k a0_0 l0_1).bind fun bt455 => (if t451 < (bt455.2.length : Int) then (if (wrap64 (((rd_L2 l0_1 t451).length : Int) - 1)) ≤ ((rd_L2 bt455.2 t451).length : Int) then ((spec_l06Few.f k bt455.1 (bt455.2.set (t451 : Int).toNat ((rd_L2 bt455.2 t451).take ((wrap64 (((rd_L2 l0_1 t451).length : Int) - 1)) : Int).toNat)) a1).bind fun t466 => (some t466)) else (none)) else (none))) else (if a1 ≤ 0 then (some (wrap64 (a1 + 1))) else (spec_l06Few.l0 k t451 (wrap64 (a1 + 1)) 0 a0_0 l0_1))) else (none)) else (none)) else (none)) else (none))))
end
def spec_LeastHops.l0 : Nat → Int → Int → Int → List (List (S30)) → Option (Int × Bool)
 | 0, _, _, _, _ => none
 | k + 1, x4, x5, x474000, x474001 => if x5 < (x474001.length : Int) then (if 0 ≤ x5 then (spec_LeastHops.l0 k (wrap64 (x4 + ((rd_L2 x474001 x5).length : Int))) (wrap64 (x5 + 1)) x474000 x474001) else (none)) else (if x4 > 5 then (some (0, false)) else ((spec_l06Few.f k x474000 x474001 20).bind fun t476 => (if t476 > 20 then (some (0, false)) else (some (t476, true)))))
def spec_LeastHops.f (k : Nat) (a0_0 : Int) (l0_1 : List (List (S30))) : Option (Int × Bool) := (spec_StoreOk.f k a0_0 l0_1).bind fun t474 => (if t474 = true then (spec_LeastHops.l0 k 0 0 a0_0 l0_1) else (some (0, false)))
end Go.Proofs.Ytheckjlldkkceaa.Px
