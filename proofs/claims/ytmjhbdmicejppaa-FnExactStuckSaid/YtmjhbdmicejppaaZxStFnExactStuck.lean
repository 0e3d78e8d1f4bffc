import Derived.Test.YtmjhbdmicejppaaZxPx28
namespace Go.Proofs.Ytmjhbdmicejppaa.Px
open Go.RowKit Go.Proofs.YtmjhbdmicejppaaW.PrintWords Go.Proofs.YtmjhbdmicejppaaW.PrintLast
def laws_FnExactStuck.Pure : Prop := ∀ (l0_0 : List Int) (a0_1 : Int) (l0_2 : List (S95)) (l0_3 : List (S97)), (l0_0.length * 8 ≤ 140737488351232 ∧ l0_0.length ≤ maxLen ∧ ∀ e1_ ∈ l0_0, (Lit.int .i64 e1_).wf = true) → (Lit.int .i64 a0_1).wf = true → (l0_2.length * 40 ≤ 140737488351232 ∧ l0_2.length ≤ maxLen ∧ ∀ e1_ ∈ l0_2, ((Lit.int .i64 e1_.f0).wf = true ∧ (Lit.int .i64 e1_.f1).wf = true ∧ (e1_.f2.length * 8 ≤ 140737488351232 ∧ e1_.f2.length ≤ maxLen ∧ ∀ e2_ ∈ e1_.f2, (Lit.int .i64 e2_).wf = true))) → (l0_3.length * 32 ≤ 140737488351232 ∧ l0_3.length ≤ maxLen ∧ ∀ e1_ ∈ l0_3, ((Lit.int .i64 e1_.f0).wf = true ∧ (e1_.f1.length * 8 ≤ 140737488351232 ∧ e1_.f1.length ≤ maxLen ∧ ∀ e2_ ∈ e1_.f1, (Lit.int .i64 e2_).wf = true))) → ∃ k, laws_FnExactStuck.f k l0_0 a0_1 l0_2 l0_3 = some true
end Go.Proofs.Ytmjhbdmicejppaa.Px
