-- Written by a program of this seat's session (wip/mp.py), over the kit's printer and the session's own contracts; not trusted: Lean checks it.
import Derived.Test.YtmonbofhfaaflaaPx7
namespace Go.Proofs.Ytmonbofhfaaflaa.Px
open Go.RowKit Go.Proofs.YtmonbofhfaaflaaW.PrintWords Go.Proofs.YtmonbofhfaaflaaW.PrintLast
def laws_FnExactImagesOk.Pure : Prop := ∀ (l0 : List (S79)), (l0.length * 16 ≤ 140737488351232 ∧ l0.length ≤ maxLen ∧ ∀ e1_ ∈ l0, ((Lit.int .i64 e1_.f0).wf = true ∧ (Lit.int .i64 e1_.f1).wf = true)) → ∃ k, laws_FnExactImagesOk.f k l0 = some true
end Go.Proofs.Ytmonbofhfaaflaa.Px
