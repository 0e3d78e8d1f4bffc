import Derived.Test.YtmonbofhfaaflaaZfDr
import Derived.Test.YtmonbofhfaaflaaZfBe
import Derived.Test.YtmonbofhfaaflaaZfPx16
namespace Go.Proofs.Ytmonbofhfaaflaa.Pu
open Go.RowKit Go.Proofs.Ytmonbofhfaaflaa.Px Go.Proofs.YtmonbofhfaaflaaW.PrintWords Go.Proofs.YtmonbofhfaaflaaW.PrintLast
set_option linter.unusedVariables false

theorem policy_ok (b : List Int) (i h : Int) (c : Cur b i) : ∃ p i' h', spec_l04Policy.f b i h = some (p, i', h') ∧ polOk p = true ∧ p.length = 3 ∧ Cur b i' := by
  obtain ⟨x1, i1, h1, e1, p1, q1, _, c1⟩ := below_ok b i h c 6
  obtain ⟨x2, i2, h2, e2, p2, q2, _, c2⟩ := below_ok b i1 h1 c1 20
  obtain ⟨x3, i3, h3, e3, p3, q3, _, c3⟩ := below_ok b i2 h2 c2 30
  have r1 := q1 (by omega)
  have r2 := q2 (by omega)
  have r3 := q3 (by omega)
  unfold spec_l04Policy.f
  simp only [e1, e2, e3, Option.bind_some]
  rw [wrap_in (x := 1 + x1) (by omega) (by omega), wrap_in (x := 1 + x2) (by omega) (by omega), wrap_in (x := 1 + x3) (by omega) (by omega)]
  refine ⟨_, _, _, rfl, ?_, rfl, c3⟩
  simp [polOk, polAt]
  omega
theorem screen_ok (b : List Int) (i h : Int) (c : Cur b i) : ∃ lv si v i' h', spec_l04Screen.f b i h = some (lv, si, v, i', h') ∧ scOk lv si v = true ∧ si ≤ 99 ∧ Cur b i' := by
  obtain ⟨x1, i1, h1, e1, p1, c1⟩ := pick_ok b i h c [0, 0, 1, 2, 3] (by simp) (by simp)
  obtain ⟨x2, i2, h2, e2, p2, q2, _, c2⟩ := below_ok b i1 h1 c1 100
  obtain ⟨x3, i3, h3, e3, c3⟩ := once_ok b i2 h2 c2 5
  obtain ⟨x4, i4, h4, e4, c4⟩ := once_ok b i3 h3 c3 4
  have r2 := q2 (by omega)
  have r1 : 0 ≤ x1 ∧ x1 ≤ 3 := by
    simp at p1
    omega
  unfold spec_l04Screen.f
  simp only [e1, e2, e3, e4, Option.bind_some]
  rw [wrap_in (x := 1 + x1) (by omega) (by omega)]
  cases x3 with
  | true => exact ⟨_, _, _, _, _, rfl, by simp [scOk]; omega, by omega, c3⟩
  | false =>
    simp only [Bool.false_eq_true, if_false]
    by_cases h4' : 1 + x1 = 4
    · rw [if_pos h4']
      cases x4 with
      | true => exact ⟨_, _, _, _, _, rfl, by simp [scOk]; omega, by omega, c4⟩
      | false => exact ⟨_, _, _, _, _, rfl, by simp [scOk]; omega, by omega, c4⟩
    · rw [if_neg h4']
      exact ⟨_, _, _, _, _, rfl, by simp [scOk]; omega, by omega, c3⟩
end Go.Proofs.Ytmonbofhfaaflaa.Pu
