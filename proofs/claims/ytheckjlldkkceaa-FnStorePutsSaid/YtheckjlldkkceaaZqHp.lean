import Derived.Test.YtheckjlldkkceaaZqHo
import Derived.Test.YtheckjlldkkceaaZqPx0
import Derived.Test.YtheckjlldkkceaaZqPx3
import Derived.Test.YtheckjlldkkceaaZqPx4
import Derived.Test.YtheckjlldkkceaaZqPx7
import Derived.Test.YtheckjlldkkceaaZqPx8
import Derived.Test.YtheckjlldkkceaaZqPx11
namespace Go.Proofs.Ytheckjlldkkceaa.Pu
open Go.RowKit Go.Proofs.Ytheckjlldkkceaa.Px Go.Proofs.YtheckjlldkkceaaW.PrintWords Go.Proofs.YtheckjlldkkceaaW.PrintLast Go.Proofs.YtheckjlldkkceaaW.PrintMore
set_option linter.unusedVariables false
theorem flat_small {a : Int} {l : List (List S30)} (h : stOk a l = true) : l.flatten.length ≤ 20 := by
  obtain ⟨h1, h2, h3, h4, h5, h6, h7⟩ := st_in h
  have : ∀ (n : Nat) (m : List (List S30)), m.length = n → (∀ x ∈ m, (x.length : Int) ≤ a) → m.flatten.length ≤ 5 * n := by
    intro n
    induction n with
    | zero => intro m hm _; rw [List.eq_nil_of_length_eq_zero hm]; simp
    | succ n ih =>
      intro m hm hx
      cases m with
      | nil => cases hm
      | cons y r =>
        have h1 := ih r (by simpa using hm) (fun z hz => hx z (by simp [hz]))
        have h2 := hx y (by simp)
        simp only [List.flatten_cons, List.length_append]
        omega
  have := this l.length l rfl h5
  omega
end Go.Proofs.Ytheckjlldkkceaa.Pu
