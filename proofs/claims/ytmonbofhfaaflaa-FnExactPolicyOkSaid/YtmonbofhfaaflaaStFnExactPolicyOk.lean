-- Written by a program of this seat's session (wip/mp.py), over the kit's printer and the session's own contracts; not trusted: Lean checks it.
import Derived.Test.YtmonbofhfaaflaaPx7
namespace Go.Proofs.Ytmonbofhfaaflaa.Px
open Go.RowKit Go.Proofs.YtmonbofhfaaflaaW.PrintWords Go.Proofs.YtmonbofhfaaflaaW.PrintLast
def laws_FnExactPolicyOk.Pure : Prop := ∀ (l0_0 : List Int), (l0_0.length * 8 ≤ 140737488351232 ∧ l0_0.length ≤ maxLen ∧ ∀ e1_ ∈ l0_0, (Lit.int .i64 e1_).wf = true) → ∃ k, laws_FnExactPolicyOk.f k l0_0 = some true
end Go.Proofs.Ytmonbofhfaaflaa.Px
