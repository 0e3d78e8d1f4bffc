import Derived.Test.YtmonbofhfaaflaaZePx24
namespace Go.Proofs.Ytmonbofhfaaflaa.Px
open Go.RowKit Go.Proofs.YtmonbofhfaaflaaW.PrintWords Go.Proofs.YtmonbofhfaaflaaW.PrintLast
def laws_FnExactDecide.Pure : Prop := ∀ (l0_0 : List Int) (a1_0 : Int) (a1_1 : Int) (a1_2 : Int) (a2 : Int) (a3 : Int), (l0_0.length * 8 ≤ 140737488351232 ∧ l0_0.length ≤ maxLen ∧ ∀ e1_ ∈ l0_0, (Lit.int .i64 e1_).wf = true) → (Lit.int .i64 a1_0).wf = true → (Lit.int .i64 a1_1).wf = true → (Lit.int .i64 a1_2).wf = true → (Lit.int .i64 a2).wf = true → (Lit.int .i64 a3).wf = true → ∃ k, laws_FnExactDecide.f k l0_0 a1_0 a1_1 a1_2 a2 a3 = some true
end Go.Proofs.Ytmonbofhfaaflaa.Px
