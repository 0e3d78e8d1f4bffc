import Derived.Test.YtheckjlldkkceaaZbPx32
namespace Go.Proofs.Ytheckjlldkkceaa.Px
open Go.RowKit Go.Proofs.YtheckjlldkkceaaW.PrintWords Go.Proofs.YtheckjlldkkceaaW.PrintLast
def laws_FnExactTakeBag.Pure : Prop := ∀ (a0_0 : Int) (l0_1 : List (List (S98))) (a1 : Int), (Lit.int .i64 a0_0).wf = true → (l0_1.length * 24 ≤ 140737488351232 ∧ l0_1.length ≤ maxLen ∧ ∀ e1_ ∈ l0_1, (e1_.length * 16 ≤ 140737488351232 ∧ e1_.length ≤ maxLen ∧ ∀ e2_ ∈ e1_, ((Lit.int .i64 e2_.f0).wf = true ∧ (Lit.int .i64 e2_.f1).wf = true))) → (Lit.int .i64 a1).wf = true → ∃ k, laws_FnExactTakeBag.f k a0_0 l0_1 a1 = some true
end Go.Proofs.Ytheckjlldkkceaa.Px
