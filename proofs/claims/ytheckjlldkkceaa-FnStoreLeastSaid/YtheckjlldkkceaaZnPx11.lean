import Derived.Test.YtheckjlldkkceaaZnPx0
import Derived.Test.YtheckjlldkkceaaZnPx3
import Derived.Test.YtheckjlldkkceaaZnPx6
namespace Go.Proofs.Ytheckjlldkkceaa.Px
open Go.RowKit Go.Proofs.YtheckjlldkkceaaW.PrintWords Go.Proofs.YtheckjlldkkceaaW.PrintLast Go.Proofs.YtheckjlldkkceaaW.PrintMore
attribute [local go_sem] max2_int min2_int max_two min_two max_three min_three max_four min_four   
set_option linter.unusedVariables false
set_option linter.unusedSimpArgs false
mutual
def spec_LaneFor.j0 : Nat → Int → Int → Bool → Int → List (List (S30)) → Option (Int)
 | 0, _, _, _, _, _ => none
 | k + 1, x1, x2, x19, x368000, x368001 => if x19 = true then (some (-1)) else (spec_LaneFor.l0 k x1 x2 (-1) (-1) (-1) 0 x368000 x368001)
def spec_LaneFor.l0 : Nat → Int → Int → Int → Int → Int → Int → Int → List (List (S30)) → Option (Int)
 | 0, _, _, _, _, _, _, _, _ => none
 | k + 1, x1, x2, x7, x8, x9, x10, x368000, x368001 => if x10 < (x368001.length : Int) then (if 0 ≤ x10 then (if x10 = x2 then (spec_LaneFor.j2 k x1 x2 x7 x8 x9 x10 (rd_L2 x368001 x10) true x368000 x368001) else (spec_LaneFor.j2 k x1 x2 x7 x8 x9 x10 (rd_L2 x368001 x10) (decide (((rd_L2 x368001 x10).length : Int) ≥ x368000)) x368000 x368001)) else (none)) else (if x7 ≥ 0 then (some x7) else (if x8 ≥ 0 then (some x8) else (some x9)))
def spec_LaneFor.j2 : Nat → Int → Int → Int → Int → Int → Int → List (S30) → Bool → Int → List (List (S30)) → Option (Int)
 | 0, _, _, _, _, _, _, _, _, _, _ => none
 | k + 1, x1, x2, x7, x8, x9, x10, x11, x41, x368000, x368001 => if x41 = true then (spec_LaneFor.l0 k x1 x2 x7 x8 x9 (wrap64 (x10 + 1)) x368000 x368001) else (if (x11.length : Int) = 0 then (if x8 < 0 then (spec_LaneFor.l0 k x1 x2 x7 x10 x9 (wrap64 (x10 + 1)) x368000 x368001) else (spec_LaneFor.l0 k x1 x2 x7 x8 x9 (wrap64 (x10 + 1)) x368000 x368001)) else ((spec_l06Least.f k x11).bind fun t371 => (if t371 ≥ x1 then (if x7 < 0 then (spec_LaneFor.j3 k x1 x2 x7 x8 x9 x10 x11 true x368000 x368001) else ((spec_l06Least.f k x11).bind fun t372 => (if 0 ≤ x7 then (if x7 < (x368001.length : Int) then ((spec_l06Least.f k (rd_L2 x368001 x7)).bind fun t374 => (spec_LaneFor.j3 k x1 x2 x7 x8 x9 x10 x11 (decide (t372 < t374)) x368000 x368001)) else (none)) else (none)))) else (spec_LaneFor.j3 k x1 x2 x7 x8 x9 x10 x11 false x368000 x368001))))
def spec_LaneFor.j3 : Nat → Int → Int → Int → Int → Int → Int → List (S30) → Bool → Int → List (List (S30)) → Option (Int)
 | 0, _, _, _, _, _, _, _, _, _, _ => none
 | k + 1, x1, x2, x7, x8, x9, x10, x11, x66, x368000, x368001 => if x66 = true then (spec_LaneFor.j4 k x1 x2 x10 x8 x9 x10 x11 x368000 x368001) else (spec_LaneFor.j4 k x1 x2 x7 x8 x9 x10 x11 x368000 x368001)
def spec_LaneFor.j4 : Nat → Int → Int → Int → Int → Int → Int → List (S30) → Int → List (List (S30)) → Option (Int)
 | 0, _, _, _, _, _, _, _, _, _ => none
 | k + 1, x1, x2, x7, x8, x9, x10, x11, x368000, x368001 => if x9 < 0 then (spec_LaneFor.l0 k x1 x2 x7 x8 x10 (wrap64 (x10 + 1)) x368000 x368001) else ((spec_l06Least.f k x11).bind fun t375 => (if 0 ≤ x9 then (if x9 < (x368001.length : Int) then ((spec_l06Least.f k (rd_L2 x368001 x9)).bind fun t377 => (if t375 > t377 then (spec_LaneFor.l0 k x1 x2 x7 x8 x10 (wrap64 (x10 + 1)) x368000 x368001) else (spec_LaneFor.l0 k x1 x2 x7 x8 x9 (wrap64 (x10 + 1)) x368000 x368001))) else (none)) else (none)))
end
def spec_LaneFor.f (k : Nat) (a0_0 : Int) (l0_1 : List (List (S30))) (a1 : Int) (a2 : Int) : Option (Int) := (spec_StoreOk.f k a0_0 l0_1).bind fun t368 => (if t368 = true then ((spec_l01In.f a1 0 100000).bind fun t369 => (spec_LaneFor.j0 k a1 a2 (!t369) a0_0 l0_1)) else (spec_LaneFor.j0 k a1 a2 true a0_0 l0_1))
end Go.Proofs.Ytheckjlldkkceaa.Px
