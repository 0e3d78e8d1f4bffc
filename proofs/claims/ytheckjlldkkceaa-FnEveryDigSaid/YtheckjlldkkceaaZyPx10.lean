import Derived.Test.YtheckjlldkkceaaZyPx0
namespace Go.Proofs.Ytheckjlldkkceaa.Px
open Go.RowKit Go.Proofs.YtheckjlldkkceaaW.PrintWords Go.Proofs.YtheckjlldkkceaaW.PrintLast Go.Proofs.YtheckjlldkkceaaW.PrintMore
attribute [local go_sem] max2_int min2_int max_two min_two max_three min_three max_four min_four   -- for this text's walks alone
set_option linter.unusedVariables false
set_option linter.unusedSimpArgs false

def spec_l06Copy.l0 : Nat → List (List (S30)) → Int → Int → List (List (S30)) → Option (Int × (List (List (S30))))
 | 0, _, _, _, _ => none
 | k + 1, x3, x4, x410000, x410001 => if x4 < (x410001.length : Int) then ((some (([] : List (S30)) : List (S30))).bind fun y414 => (if 0 ≤ x4 then (if y414.length + (rd_L2 x410001 x4).length < 8796093022208 then (if x3.length < 5864062014805 then (spec_l06Copy.l0 k (x3 ++ [(y414 ++ (rd_L2 x410001 x4))]) (wrap64 (x4 + 1)) x410000 x410001) else (none)) else (none)) else (none))) else (some (x410000, x3))
def spec_l06Copy.f (k : Nat) (a0_0 : Int) (l0_1 : List (List (S30))) : Option (Int × (List (List (S30)))) := spec_l06Copy.l0 k (([] : List (List (S30)))) 0 a0_0 l0_1
mutual
def spec_l06Find.l0 : Nat → Int → Int → Int → List (List (S30)) → Option (Int)
 | 0, _, _, _, _ => none
 | k + 1, x1, x5, x425000, x425001 => if x5 < (x425001.length : Int) then (spec_l06Find.l1 k x1 x5 0 x425000 x425001) else (some (-1))
def spec_l06Find.l1 : Nat → Int → Int → Int → Int → List (List (S30)) → Option (Int)
 | 0, _, _, _, _, _ => none
 | k + 1, x1, x5, x6, x425000, x425001 => if 0 ≤ x5 then (if x5 < (x425001.length : Int) then (if x6 < ((rd_L2 x425001 x5).length : Int) then (if 0 ≤ x6 then (if ((rd_T30 (rd_L2 x425001 x5) x6).f0) = x1 then (some x5) else (spec_l06Find.l1 k x1 x5 (wrap64 (x6 + 1)) x425000 x425001)) else (none)) else (spec_l06Find.l0 k x1 (wrap64 (x5 + 1)) x425000 x425001)) else (none)) else (none)
end
def spec_l06Find.f (k : Nat) (a0_0 : Int) (l0_1 : List (List (S30))) (a1 : Int) : Option (Int) := spec_l06Find.l0 k a1 0 a0_0 l0_1
def spec_l06Hop.f (k : Nat) (a0_0 : Int) (l0_1 : List (List (S30))) (a1 : Int) (a2 : Int) : Option (Int × (List (List (S30)))) := (spec_l06Copy.f k a0_0 l0_1).bind fun bt430 => (if 0 ≤ a1 then (if a1 < (bt430.2.length : Int) then (if 0 ≤ a2 then (if a2 < (bt430.2.length : Int) then (if 0 ≤ (wrap64 (((rd_L2 bt430.2 a1).length : Int) - 1)) then (if (wrap64 (((rd_L2 bt430.2 a1).length : Int) - 1)) < ((rd_L2 bt430.2 a1).length : Int) then (if a2 = a1 then (none) else (if (rd_L2 bt430.2 a2).length < 8796093022208 then ((some (bt430.2.set (a2 : Int).toNat ((rd_L2 bt430.2 a2) ++ [(⟨(rd_T30 (rd_L2 bt430.2 a1) (wrap64 (((rd_L2 bt430.2 a1).length : Int) - 1))).f0, (rd_T30 (rd_L2 bt430.2 a1) (wrap64 (((rd_L2 bt430.2 a1).length : Int) - 1))).f1⟩ : S30)]) : List (List (S30)))).bind fun y442 => (if (wrap64 (((rd_L2 bt430.2 a1).length : Int) - 1)) ≤ ((rd_L2 y442 a1).length : Int) then (some (bt430.1, (y442.set (a1 : Int).toNat ((rd_L2 y442 a1).take ((wrap64 (((rd_L2 bt430.2 a1).length : Int) - 1)) : Int).toNat)))) else (none))) else (none))) else (none)) else (none)) else (none)) else (none)) else (none)) else (none))
end Go.Proofs.Ytheckjlldkkceaa.Px
