import Derived.Test.YtmjhbdmicejppaaZgLi
import Derived.Test.YtmjhbdmicejppaaZgPx0
import Derived.Test.YtmjhbdmicejppaaZgPx1
import Derived.Test.YtmjhbdmicejppaaZgPx2
import Derived.Test.YtmjhbdmicejppaaZgPx7
namespace Go.Proofs.Ytmjhbdmicejppaa.Pu
open Go.RowKit Go.Proofs.Ytmjhbdmicejppaa.Px Go.Proofs.YtmjhbdmicejppaaW.PrintWords Go.Proofs.YtmjhbdmicejppaaW.PrintLast Go.Proofs.YtmjhbdmicejppaaW.PrintMore
set_option linter.unusedVariables false
def up (f : Int → Nat → Int) (p : Nat → Bool) : Nat → Nat → Int → Int
  | _, 0, o => o
  | i, d + 1, o => up f p (i + 1) d (if p i = true then f o i else o)
def Rm (n : Nat) (r : List Int) : Prop := r.length = n ∧ ∀ j, 0 ≤ r.getD j 0 ∧ r.getD j 0 ≤ 40
theorem Rm.set {n : Nat} {r : List Int} (h : Rm n r) (x : Nat) (hx : 0 < r.getD x 0) : Rm n (r.set x (r.getD x 0 - 1)) := by
  refine ⟨by rw [List.length_set]; exact h.1, fun j => ?_⟩
  have h1 := h.2 j
  have h2 := h.2 x
  have hxl : x < r.length := Nat.lt_of_not_le fun h0 => by
    rw [List.getD_eq_getElem?_getD, List.getElem?_eq_none h0] at hx
    simp at hx
  rw [List.getD_eq_getElem?_getD, List.getElem?_set]
  by_cases e : x = j
  · subst e
    rw [if_pos rfl, if_pos hxl]
    simp only [Option.getD_some]
    omega
  · rw [if_neg e, ← List.getD_eq_getElem?_getD]
    exact h1
end Go.Proofs.Ytmjhbdmicejppaa.Pu
