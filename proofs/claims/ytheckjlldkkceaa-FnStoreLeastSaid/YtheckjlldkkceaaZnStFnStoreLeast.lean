import Derived.Test.YtheckjlldkkceaaZnPx41
namespace Go.Proofs.Ytheckjlldkkceaa.Px
open Go.RowKit Go.Proofs.YtheckjlldkkceaaW.PrintWords Go.Proofs.YtheckjlldkkceaaW.PrintLast
def laws_FnStoreLeast.Pure : Prop := ∀ (l0 : List Int), (l0.length * 1 ≤ 140737488351232 ∧ l0.length ≤ maxLen ∧ ∀ e1_ ∈ l0, (Lit.int .u8 e1_).wf = true) → ∃ k, laws_FnStoreLeast.f k l0 = some true
end Go.Proofs.Ytheckjlldkkceaa.Px
