import Derived.Test.YtheckjlldkkceaaZqSo
import Derived.Test.YtheckjlldkkceaaZqPx0
import Derived.Test.YtheckjlldkkceaaZqPx3
namespace Go.Proofs.Ytheckjlldkkceaa.Pu
open Go.RowKit Go.Proofs.Ytheckjlldkkceaa.Px Go.Proofs.YtheckjlldkkceaaW.PrintWords Go.Proofs.YtheckjlldkkceaaW.PrintLast
set_option linter.unusedVariables false
def nx (b x : S30) : S30 := if x.f1 < b.f1 ∨ x.f1 = b.f1 ∧ x.f0 < b.f0 then x else b
theorem st_in {a : Int} {l : List (List S30)} (h : stOk a l = true) : 1 ≤ a ∧ a ≤ 5 ∧ 1 ≤ l.length ∧ l.length ≤ 4 ∧ (∀ x ∈ l, (x.length : Int) ≤ a) ∧ (∀ x ∈ l.flatten, okK x = true) ∧ (bags l).Nodup := by
  simp only [stOk, Bool.and_eq_true, decide_eq_true_eq, List.all_eq_true] at h
  exact ⟨h.1.1.1.1.1.1, h.1.1.1.1.1.2, h.1.1.1.1.2, h.1.1.1.2, h.1.1.2, h.1.2, h.2⟩
end Go.Proofs.Ytheckjlldkkceaa.Pu
