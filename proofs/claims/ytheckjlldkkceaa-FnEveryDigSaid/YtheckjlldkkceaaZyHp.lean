import Derived.Test.YtheckjlldkkceaaZyHo
import Derived.Test.YtheckjlldkkceaaZyPx0
import Derived.Test.YtheckjlldkkceaaZyPx3
import Derived.Test.YtheckjlldkkceaaZyPx6
import Derived.Test.YtheckjlldkkceaaZyPx5
import Derived.Test.YtheckjlldkkceaaZyPx10
namespace Go.Proofs.Ytheckjlldkkceaa.Pu
open Go.RowKit Go.Proofs.Ytheckjlldkkceaa.Px Go.Proofs.YtheckjlldkkceaaW.PrintWords Go.Proofs.YtheckjlldkkceaaW.PrintLast Go.Proofs.YtheckjlldkkceaaW.PrintMore
set_option linter.unusedVariables false

theorem flat_small {a : Int} {l : List (List S30)} (h : stOk a l = true) : l.flatten.length ≤ 20 := by
  obtain ⟨h1, h2, h3, h4, h5, h6, h7⟩ := st_in h
  have : ∀ (n : Nat) (m : List (List S30)), m.length = n → (∀ x ∈ m, (x.length : Int) ≤ a) → m.flatten.length ≤ 5 * n := by
    intro n
    induction n with
    | zero => intro m hm _; rw [List.eq_nil_of_length_eq_zero hm]; simp
    | succ n ih =>
      intro m hm hx
      cases m with
      | nil => cases hm
      | cons y r =>
        have h1 := ih r (by simpa using hm) (fun z hz => hx z (by simp [hz]))
        have h2 := hx y (by simp)
        simp only [List.flatten_cons, List.length_append]
        omega
  have := this l.length l rfl h5
  omega
theorem lane_split {m : List S30} {x : S30} (h : x ∈ m) : ∃ p q, m = p ++ x :: q := List.append_of_mem h
theorem lane_short {a : Int} {l : List (List S30)} (h : stOk a l = true) {i : Nat} (hi : i < l.length) {p q : List S30} {x : S30} (e : l[i] = p ++ x :: q) : q.length ≤ 4 := by
  obtain ⟨h1, h2, h3, h4, h5, h6, h7⟩ := st_in h
  have := h5 _ (List.getElem_mem hi)
  rw [e] at this
  simp at this
  omega
theorem nextI_ev {a : Int} {l : List (List S30)} (h : stOk a l = true) : Ev (fun k => impl_nextOut.f k a l) (nextOut a l) := by
  obtain ⟨h1, h2, h3, h4, h5, h6, h7⟩ := st_in h
  have hs := impl_nx_l0 l (by omega) (fun x hx => by have := h5 x hx; omega) l.length 0 (by omega) ⟨0, 0⟩
  rw [List.drop_zero, first_nx _ h6] at hs
  unfold nextOut
  rw [if_pos h]
  refine Lt.ev (Lt.of hs) fun k e2 => ?_
  simp only [impl_nextOut.f]
  exact e2
theorem next_zero {a : Int} {l : List (List S30)} (h : stOk a l = true) (hn : l.flatten = []) : nextOut a l = 0 := by
  unfold nextOut
  rw [if_pos h, first_none hn]
theorem next_is {a : Int} {l : List (List S30)} (h : stOk a l = true) (hn : l.flatten ≠ []) : ∃ x, isNext l x ∧ nextOut a l = x.f0 ∧ 1 ≤ x.f0 := by
  have h6 := (st_in h).2.2.2.2.2.1
  have hx := first_is h6 hn
  refine ⟨_, hx, by unfold nextOut; rw [if_pos h], (okK_in (h6 _ hx.1)).1⟩
end Go.Proofs.Ytheckjlldkkceaa.Pu
