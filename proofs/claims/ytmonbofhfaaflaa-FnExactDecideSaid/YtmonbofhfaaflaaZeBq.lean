import Derived.Test.YtmonbofhfaaflaaZeBi
import Derived.Test.YtmonbofhfaaflaaZePx11
namespace Go.Proofs.Ytmonbofhfaaflaa.Pu
open Go.RowKit Go.Proofs.Ytmonbofhfaaflaa.Px Go.Proofs.YtmonbofhfaaflaaW.PrintWords Go.Proofs.YtmonbofhfaaflaaW.PrintLast
set_option linter.unusedVariables false

theorem szPolicy_big (l : List Int) (h : l.length ≤ 17592186044416) : ∃ t, laws_szPolicy.f l 1048576 = some t ∧ (0 ≤ t → l.length ≤ 1048576) := by
  obtain ⟨t, ht, h0⟩ := szIntS_big l h
  unfold laws_szPolicy.f
  rw [ht]
  simp only [Option.bind_some]
  split
  · exact ⟨_, rfl, by omega⟩
  · exact ⟨_, rfl, h0⟩
theorem toPolicy_ev (l : List Int) (hn : l.length ≤ 1048576) : Ev (fun k => laws_toPolicy.f k l) l :=
  Lt.ev (Lt.of (toIntS_ev l hn)) (fun n h => by simp only [laws_toPolicy.f]; rw [h]; rfl)
theorem eqPolicy_ev (l : List Int) (hn : l.length ≤ 1048576) : Ev (fun k => laws_eqPolicy.f k l l) true :=
  Lt.ev (Lt.of (eqIntS_ev l hn)) (fun n h => by simp only [laws_eqPolicy.f]; rw [h]; rfl)
end Go.Proofs.Ytmonbofhfaaflaa.Pu
