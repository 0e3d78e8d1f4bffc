import Derived.Test.YtmjhbdmicejppaaZsPx9
namespace Go.Proofs.Ytmjhbdmicejppaa.Px
open Go.RowKit Go.Proofs.YtmjhbdmicejppaaW.PrintWords Go.Proofs.YtmjhbdmicejppaaW.PrintLast
def laws_FnLoopTakes.Pure : Prop := ∀ (l0 : List Int), (l0.length * 1 ≤ 140737488351232 ∧ l0.length ≤ maxLen ∧ ∀ e1_ ∈ l0, (Lit.int .u8 e1_).wf = true) → ∃ k, laws_FnLoopTakes.P k l0
end Go.Proofs.Ytmjhbdmicejppaa.Px
