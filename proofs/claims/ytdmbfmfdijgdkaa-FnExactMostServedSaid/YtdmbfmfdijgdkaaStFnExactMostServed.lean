-- Written by a program of this seat's session (wip/mp.py), over the kit's printer and the session's own contracts; not trusted: Lean checks it.
import Derived.Test.YtdmbfmfdijgdkaaPx12
namespace Go.Proofs.Ytdmbfmfdijgdkaa.Px
open Go.RowKit Go.Proofs.YtdmbfmfdijgdkaaW.PrintWords Go.Proofs.YtdmbfmfdijgdkaaW.PrintLast
def laws_FnExactMostServed.Pure : Prop := ∀ (l0 : List (S70)) (a1 : Int) (a2 : Int), (l0.length * 16 ≤ 140737488351232 ∧ l0.length ≤ maxLen ∧ ∀ e1_ ∈ l0, ((Lit.int .i64 e1_.f0).wf = true ∧ (Lit.int .i64 e1_.f1).wf = true)) → (Lit.int .i64 a1).wf = true → (Lit.int .i64 a2).wf = true → ∃ k, laws_FnExactMostServed.f k l0 a1 a2 = some true
end Go.Proofs.Ytdmbfmfdijgdkaa.Px
