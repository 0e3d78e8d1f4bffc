import Derived.Test.YtdmbfmfdijgdkaaZuPx28
namespace Go.Proofs.Ytdmbfmfdijgdkaa.Px
open Go.RowKit Go.Proofs.YtdmbfmfdijgdkaaW.PrintWords Go.Proofs.YtdmbfmfdijgdkaaW.PrintLast
def laws_FnExactSure.Pure : Prop := ∀ (l0 : List (S98)) (l1 : List (S100)), (l0.length * 24 ≤ 140737488351232 ∧ l0.length ≤ maxLen ∧ ∀ e1_ ∈ l0, ((Lit.int .i64 e1_.f0).wf = true ∧ (Lit.int .i64 e1_.f1).wf = true ∧ (Lit.int .i64 e1_.f2).wf = true)) → (l1.length * 16 ≤ 140737488351232 ∧ l1.length ≤ maxLen ∧ ∀ e1_ ∈ l1, ((Lit.int .i64 e1_.f0).wf = true ∧ (Lit.int .i64 e1_.f1).wf = true)) → ∃ k, laws_FnExactSure.f k l0 l1 = some true
end Go.Proofs.Ytdmbfmfdijgdkaa.Px
