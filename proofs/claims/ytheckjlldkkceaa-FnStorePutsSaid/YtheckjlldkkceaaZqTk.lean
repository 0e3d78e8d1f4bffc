import Derived.Test.YtheckjlldkkceaaZqDg
namespace Go.Proofs.Ytheckjlldkkceaa.Pu
open Go.RowKit Go.Proofs.Ytheckjlldkkceaa.Px Go.Proofs.YtheckjlldkkceaaW.PrintWords Go.Proofs.YtheckjlldkkceaaW.PrintLast
set_option linter.unusedVariables false
def okL (N : Nat → Int) (a but : Int) (n : Nat) (z : Int) : Prop := 0 ≤ z → ∃ j : Nat, z = (j : Int) ∧ j < n ∧ (j : Int) ≠ but ∧ N j < a
theorem laS_ok (F : Int → Int) (N : Nat → Int) (a time but : Int) (n : Nat) : ∀ (d i : Nat) (o e g : Int), i + d ≤ n → okL N a but n o → okL N a but n e → okL N a but n g → okL N a but n (laS F N a time but d i o e g)
  | 0, i, o, e, g, h, ho, he, hg => by
    simp only [laS, fin3]
    split
    · exact ho
    · split
      · exact he
      · exact hg
  | d + 1, i, o, e, g, h, ho, he, hg => by
    simp only [laS]
    by_cases c1 : (i : Int) = but ∨ N i ≥ a
    · rw [if_pos c1]
      exact laS_ok F N a time but n d (i + 1) o e g (by omega) ho he hg
    · rw [if_neg c1]
      have hi : okL N a but n (i : Int) := fun _ => ⟨i, rfl, by omega, fun e => c1 (.inl e), by omega⟩
      have pick : ∀ (p : Prop) [Decidable p] (z : Int), okL N a but n z → okL N a but n (if p then (i : Int) else z) := by
        intro p _ z hz
        split
        · exact hi
        · exact hz
      by_cases c2 : N i = 0
      · rw [if_pos c2]
        exact laS_ok F N a time but n d (i + 1) o _ g (by omega) ho (pick _ _ he) hg
      · rw [if_neg c2]
        exact laS_ok F N a time but n d (i + 1) _ e _ (by omega) (pick _ _ ho) he (pick _ _ hg)
theorem laneFor_in {a : Int} {l : List (List S30)} {time but : Int} (h : 0 ≤ laneFor a l time but) : ∃ (j : Nat) (hj : j < l.length), laneFor a l time but = (j : Int) ∧ (j : Int) ≠ but ∧ (l[j].length : Int) < a := by
  unfold laneFor at h ⊢
  by_cases c : stOk a l = true ∧ 0 ≤ time ∧ time ≤ 100000
  · rw [if_pos c] at h ⊢
    obtain ⟨j, e, hj, hb, hn⟩ := laS_ok (fS l) (nL l) a time but l.length l.length 0 (-1) (-1) (-1) (by omega) (fun h => absurd h (by omega)) (fun h => absurd h (by omega)) (fun h => absurd h (by omega)) h
    refine ⟨j, hj, e, hb, ?_⟩
    unfold nL at hn
    rwa [rdL2_nat l j hj] at hn
  · rw [if_neg c] at h
    omega
end Go.Proofs.Ytheckjlldkkceaa.Pu
