import Derived.Test.YtheckjlldkkceaaZnPx0
import Derived.Test.YtheckjlldkkceaaZnPx3
import Derived.Test.YtheckjlldkkceaaZnPx8
import Derived.Test.YtheckjlldkkceaaZnPx11
import Derived.Test.YtheckjlldkkceaaZnPx13
namespace Go.Proofs.Ytheckjlldkkceaa.Px
open Go.RowKit Go.Proofs.YtheckjlldkkceaaW.PrintWords Go.Proofs.YtheckjlldkkceaaW.PrintLast Go.Proofs.YtheckjlldkkceaaW.PrintMore
attribute [local go_sem] max2_int min2_int max_two min_two max_three min_three max_four min_four   
set_option linter.unusedVariables false
set_option linter.unusedSimpArgs false
mutual
def spec_TakeBag.j0 : Nat → Int → List (S78) → Int → Bool → Int → List (List (S30)) → Option (Int × (List (List (S30))) × (List (S78)) × Bool)
 | 0, _, _, _, _, _, _ => none
 | k + 1, x1, x7, x8, x24, x879000, x879001 => if x24 = true then (some (x879000, x879001, x7, false)) else ((spec_l06Copy.f k x879000 x879001).bind fun bt889 => (spec_TakeBag.l0 k x1 x7 x8 x879000 x879001 bt889.1 bt889.2))
def spec_TakeBag.l0 : Nat → Int → List (S78) → Int → Int → List (List (S30)) → Int → List (List (S30)) → Option (Int × (List (List (S30))) × (List (S78)) × Bool)
 | 0, _, _, _, _, _, _, _ => none
 | k + 1, x1, x7, x8, x879000, x879001, x894000, x894001 => if 0 ≤ x8 then (if x8 < (x894001.length : Int) then (if 0 ≤ (wrap64 (((rd_L2 x894001 x8).length : Int) - 1)) then (if (wrap64 (((rd_L2 x894001 x8).length : Int) - 1)) < ((rd_L2 x894001 x8).length : Int) then (if ((rd_T30 (rd_L2 x894001 x8) (wrap64 (((rd_L2 x894001 x8).length : Int) - 1))).f0) = x1 then (if (wrap64 (((rd_L2 x894001 x8).length : Int) - 1)) ≤ ((rd_L2 x894001 x8).length : Int) then (some (x894000, (x894001.set (x8 : Int).toNat ((rd_L2 x894001 x8).take ((wrap64 (((rd_L2 x894001 x8).length : Int) - 1)) : Int).toNat)), x7, true)) else (none)) else ((spec_LaneFor.f k x894000 x894001 ((rd_T30 (rd_L2 x894001 x8) (wrap64 (((rd_L2 x894001 x8).length : Int) - 1))).f1) x8).bind fun t908 => (if t908 < 0 then (some (x879000, x879001, (([] : List (S78))), false)) else ((spec_l06Hop.f k x894000 x894001 x8 t908).bind fun bt912 => (if x7.length < 5864062014805 then (spec_TakeBag.l0 k x1 (x7 ++ [(⟨(rd_T30 (rd_L2 x894001 x8) (wrap64 (((rd_L2 x894001 x8).length : Int) - 1))).f0, x8, t908⟩ : S78)]) x8 x879000 x879001 bt912.1 bt912.2) else (none)))))) else (none)) else (none)) else (none)) else (none)
end
def spec_TakeBag.f (k : Nat) (a0_0 : Int) (l0_1 : List (List (S30))) (a1 : Int) : Option (Int × (List (List (S30))) × (List (S78)) × Bool) := (spec_l06Copy.f k a0_0 l0_1).bind fun bt880 => ((some (([] : List (S78)) : List (S78))).bind fun y884 => ((spec_l06Find.f k bt880.1 bt880.2 a1).bind fun t887 => ((spec_StoreOk.f k bt880.1 bt880.2).bind fun t888 => (if t888 = true then (spec_TakeBag.j0 k a1 y884 t887 (decide (t887 < 0)) bt880.1 bt880.2) else (spec_TakeBag.j0 k a1 y884 t887 true bt880.1 bt880.2)))))
end Go.Proofs.Ytheckjlldkkceaa.Px
