-- Written by a program of this seat's session (wip/mp.py), over the kit's printer and the session's own contracts; not trusted: Lean checks it.
import Derived.Test.YtmonbofhfaaflaaPx3
namespace Go.Proofs.Ytmonbofhfaaflaa.Px
open Go.RowKit Go.Proofs.YtmonbofhfaaflaaW.PrintWords Go.Proofs.YtmonbofhfaaflaaW.PrintLast
def laws_FnExactSideDifference.Pure : Prop := ∀ (l0 : List Int) (l1 : List Bool), (l0.length * 8 ≤ 140737488351232 ∧ l0.length ≤ maxLen ∧ ∀ e1_ ∈ l0, (Lit.int .i64 e1_).wf = true) → (l1.length * 1 ≤ 140737488351232 ∧ l1.length ≤ maxLen ∧ ∀ e1_ ∈ l1, True) → ∃ k, laws_FnExactSideDifference.f k l0 l1 = some true
end Go.Proofs.Ytmonbofhfaaflaa.Px
