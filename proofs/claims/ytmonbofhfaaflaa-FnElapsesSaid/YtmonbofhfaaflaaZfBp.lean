import Derived.Test.YtmonbofhfaaflaaZfBa
import Derived.Test.YtmonbofhfaaflaaZfPx2
import Derived.Test.YtmonbofhfaaflaaZfPx5
import Derived.Test.YtmonbofhfaaflaaZfPx7
namespace Go.Proofs.Ytmonbofhfaaflaa.Pu
open Go.RowKit Go.Proofs.Ytmonbofhfaaflaa.Px Go.Proofs.YtmonbofhfaaflaaW.PrintWords Go.Proofs.YtmonbofhfaaflaaW.PrintLast
set_option linter.unusedVariables false

def polAt (x : Int) : Bool := decide (1 ≤ x) && decide (x ≤ 5000)
def polOk (l : List Int) : Bool := decide (l.length = 3) && l.all polAt
theorem pol_p (x : Int) : vc_impl_PolicyOk_1_any.p x = !polAt x := by
  simp only [vc_impl_PolicyOk_1_any.p, impl_PolicyOk_1.f, impl_isWait.f, polAt]
  by_cases h : x ≥ 1 <;> simp [h] <;> omega
theorem impl_pol (l : List Int) : impl_PolicyOk.f l = some (polOk l) := by
  have hany : l.any vc_impl_PolicyOk_1_any.p = !l.all polAt := by
    induction l with
    | nil => rfl
    | cons x l ih => rw [List.any_cons, List.all_cons, ih, Bool.not_and, pol_p]
  simp only [impl_PolicyOk.f, vc_impl_PolicyOk_1_any.f, hany, polOk]
  by_cases h : l.length = 3
  · rw [if_pos (by omega)]
    simp [h]
  · rw [if_neg (by omega)]
    simp [h]
theorem spec_pol_l (l : List Int) (hn : l.length = 3) : ∀ (d i : Nat), i + d = l.length → Ev (fun k => spec_PolicyOk.l0 k (i : Int) l) ((l.drop i).all polAt) := by
  intro d
  induction d with
  | zero =>
    intro i hi
    rw [List.drop_of_length_le (by omega)]
    refine Ev.step (f := fun _ => some true) (fun k => ?_) (Ev.now _)
    simp only [spec_PolicyOk.l0]
    rw [if_neg (by omega)]
  | succ d ih =>
    intro i hi
    have hih := ih (i + 1) (by omega)
    rw [List.drop_eq_getElem_cons (show i < l.length by omega), List.all_cons]
    have e0 := rd_nat l i (by omega)
    generalize hx : l[i]'(by omega) = x at e0
    have base : ∀ k, spec_PolicyOk.l0 (k + 1) (i : Int) l = if polAt x = true then spec_PolicyOk.l0 k ((i + 1 : Nat) : Int) l else some false := by
      intro k
      simp only [spec_PolicyOk.l0, e0, spec_l01In.f, polAt]
      rw [if_pos (by omega), if_pos (by omega), wrap_in (x := (i : Int) + 1) (by omega) (by omega)]
      by_cases h1 : x ≥ 1 <;> by_cases h2 : x ≤ 5000 <;> simp [h1, h2]
    cases hp : polAt x with
    | true =>
      simp only [Bool.true_and]
      exact Ev.step (fun k => by rw [base k, hp, if_pos rfl]) hih
    | false =>
      simp only [Bool.false_and]
      exact Ev.step (f := fun _ => some false) (fun k => by rw [base k, hp]; rfl) (Ev.now _)
theorem spec_pol_ev (l : List Int) : Ev (fun k => spec_PolicyOk.f k l) (polOk l) := by
  unfold polOk
  by_cases h : l.length = 3
  · rw [decide_eq_true h, Bool.true_and]
    refine Ev.congr (fun k => ?_) (spec_pol_l l h l.length 0 (by omega))
    simp only [spec_PolicyOk.f]
    rw [if_pos (by omega)]
    rfl
  · rw [decide_eq_false h, Bool.false_and]
    refine Ev.congr (f := fun _ => some false) (fun k => ?_) (Ev.now _)
    simp only [spec_PolicyOk.f]
    rw [if_neg (by omega)]
end Go.Proofs.Ytmonbofhfaaflaa.Pu
