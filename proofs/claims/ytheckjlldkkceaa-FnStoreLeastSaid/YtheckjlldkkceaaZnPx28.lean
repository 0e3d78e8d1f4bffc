import Derived.Test.YtheckjlldkkceaaZnPx0
import Derived.Test.YtheckjlldkkceaaZnPx3
import Derived.Test.YtheckjlldkkceaaZnPx9
import Derived.Test.YtheckjlldkkceaaZnPx18
namespace Go.Proofs.Ytheckjlldkkceaa.Px
open Go.RowKit Go.Proofs.YtheckjlldkkceaaW.PrintWords Go.Proofs.YtheckjlldkkceaaW.PrintLast Go.Proofs.YtheckjlldkkceaaW.PrintMore
attribute [local go_sem] max2_int min2_int max_two min_two max_three min_three max_four min_four   
set_option linter.unusedVariables false
set_option linter.unusedSimpArgs false
def spec_HopsOf.l0 : Nat → Int → Int → List (List (S30)) → Option (Int × Bool)
 | 0, _, _, _ => none
 | k + 1, x4, x940000, x940001 => (spec_NextOut.f k x940000 x940001).bind fun t941 => (if t941 = 0 then (some (x4, true)) else ((spec_NextOut.f k x940000 x940001).bind fun t942 => ((spec_TakeBag.f k x940000 x940001 t942).bind fun bt943 => (if bt943.2.2.2 = true then (spec_HopsOf.l0 k (wrap64 (x4 + (bt943.2.2.1.length : Int))) bt943.1 bt943.2.1) else (some (0, false))))))
def spec_HopsOf.f (k : Nat) (a0_0 : Int) (l0_1 : List (List (S30))) : Option (Int × Bool) := (spec_StoreOk.f k a0_0 l0_1).bind fun t940 => (if t940 = true then (spec_HopsOf.l0 k 0 a0_0 l0_1) else (some (0, false)))
end Go.Proofs.Ytheckjlldkkceaa.Px
