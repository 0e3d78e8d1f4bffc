import Derived.Test.YtheckjlldkkceaaZyDg
namespace Go.Proofs.Ytheckjlldkkceaa.Pu
open Go.RowKit Go.Proofs.Ytheckjlldkkceaa.Px Go.Proofs.YtheckjlldkkceaaW.PrintWords Go.Proofs.YtheckjlldkkceaaW.PrintLast
set_option linter.unusedVariables false

theorem getD_at {α : Type} (l : List α) (i : Nat) (z : α) (h : i < l.length) : l.getD i z = l[i] := by rw [List.getD_eq_getElem?_getD, List.getElem?_eq_getElem h]; rfl
theorem hopd_at {l : List (List S30)} {i t : Nat} {m : List S30} {k : S30} (hi : i < l.length) (hti : t ≠ i) : (hopd l i t m k)[i]'(by rw [hopd_len]; exact hi) = m := by
  unfold hopd
  rw [List.getElem_set_ne (by omega), List.getElem_set_self]
end Go.Proofs.Ytheckjlldkkceaa.Pu
