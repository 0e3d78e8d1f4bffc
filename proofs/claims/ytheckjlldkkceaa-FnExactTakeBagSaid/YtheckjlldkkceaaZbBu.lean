import Derived.Test.YtheckjlldkkceaaZbNx
import Derived.Test.YtheckjlldkkceaaZbPx6
import Derived.Test.YtheckjlldkkceaaZbPx0
import Derived.Test.YtheckjlldkkceaaZbPx3
namespace Go.Proofs.Ytheckjlldkkceaa.Pu
open Go.RowKit Go.Proofs.Ytheckjlldkkceaa.Px Go.Proofs.YtheckjlldkkceaaW.PrintWords Go.Proofs.YtheckjlldkkceaaW.PrintLast Go.Proofs.YtheckjlldkkceaaW.PrintMore
set_option linter.unusedVariables false
def lst (c : Int) (m : List S30) : Int := m.foldl (fun t x => mn t x.f1) c
theorem lst_l (m : List S30) (hm : m.length ≤ 1048576) : ∀ (d i : Nat), i + d = m.length → ∀ c : Int, Ev (fun k => spec_l06Least.l0 k m c (i : Int)) (lst c (m.drop i)) := by
  intro d
  induction d with
  | zero =>
    intro i hi c
    rw [List.drop_of_length_le (by omega)]
    refine Ev.step (f := fun _ => some c) (fun k => ?_) (Ev.now _)
    simp only [spec_l06Least.l0]
    rw [if_neg (by omega)]
  | succ d ih =>
    intro i hi c
    have hlt : i < m.length := by omega
    have h := ih (i + 1) (by omega) (mn c m[i].f1)
    rw [List.drop_eq_getElem_cons hlt]
    unfold lst at h ⊢
    rw [List.foldl_cons]
    refine Ev.step (fun k => ?_) h
    simp only [spec_l06Least.l0]
    rw [if_pos (by omega), if_pos (by omega), rd30_nat m i hlt, wrap_in (x := (i : Int) + 1) (by omega) (by omega)]
    rfl
theorem lst_ev (m : List S30) (hm : m.length ≤ 1048576) : Ev (fun k => spec_l06Least.f k m) (lst 100001 m) :=
  Ev.congr (fun k => by simp only [spec_l06Least.f]; rfl) (by simpa using lst_l m hm m.length 0 (by omega) 100001)
end Go.Proofs.Ytheckjlldkkceaa.Pu
