import Derived.Test.YtdmbfmfdijgdkaaZcPx27
namespace Go.Proofs.Ytdmbfmfdijgdkaa.Px
open Go.RowKit Go.Proofs.YtdmbfmfdijgdkaaW.PrintWords Go.Proofs.YtdmbfmfdijgdkaaW.PrintLast
def laws_FnExactChoices.Pure : Prop := ∀ (l0 : List (S98)) (l1 : List (S100)) (a2 : Int), (l0.length * 24 ≤ 140737488351232 ∧ l0.length ≤ maxLen ∧ ∀ e1_ ∈ l0, ((Lit.int .i64 e1_.f0).wf = true ∧ (Lit.int .i64 e1_.f1).wf = true ∧ (Lit.int .i64 e1_.f2).wf = true)) → (l1.length * 16 ≤ 140737488351232 ∧ l1.length ≤ maxLen ∧ ∀ e1_ ∈ l1, ((Lit.int .i64 e1_.f0).wf = true ∧ (Lit.int .i64 e1_.f1).wf = true)) → (Lit.int .i64 a2).wf = true → ∃ k, laws_FnExactChoices.f k l0 l1 a2 = some true
end Go.Proofs.Ytdmbfmfdijgdkaa.Px
