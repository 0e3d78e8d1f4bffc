import Derived.Test.YtdmbfmfdijgdkaaZvPx29
namespace Go.Proofs.Ytdmbfmfdijgdkaa.Px
open Go.RowKit Go.Proofs.YtdmbfmfdijgdkaaW.PrintWords Go.Proofs.YtdmbfmfdijgdkaaW.PrintLast
def laws_FnSure.Pure : Prop := ∀ (l0 : List Int), (l0.length * 1 ≤ 140737488351232 ∧ l0.length ≤ maxLen ∧ ∀ e1_ ∈ l0, (Lit.int .u8 e1_).wf = true) → ∃ k, laws_FnSure.f k l0 = some true
end Go.Proofs.Ytdmbfmfdijgdkaa.Px
