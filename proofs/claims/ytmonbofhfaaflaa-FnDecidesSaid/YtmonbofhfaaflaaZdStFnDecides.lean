import Derived.Test.YtmonbofhfaaflaaZdPx27
namespace Go.Proofs.Ytmonbofhfaaflaa.Px
open Go.RowKit Go.Proofs.YtmonbofhfaaflaaW.PrintWords Go.Proofs.YtmonbofhfaaflaaW.PrintLast
def laws_FnDecides.Pure : Prop := ∀ (l0 : List Int), (l0.length * 1 ≤ 140737488351232 ∧ l0.length ≤ maxLen ∧ ∀ e1_ ∈ l0, (Lit.int .u8 e1_).wf = true) → ∃ k, laws_FnDecides.f k l0 = some true
end Go.Proofs.Ytmonbofhfaaflaa.Px
