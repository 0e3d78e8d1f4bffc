import Derived.Test.YtmonbofhfaaflaaZdBa
import Derived.Test.YtmonbofhfaaflaaZdPx2
import Derived.Test.YtmonbofhfaaflaaZdPx4
import Derived.Test.YtmonbofhfaaflaaZdPx6
namespace Go.Proofs.Ytmonbofhfaaflaa.Pu
open Go.RowKit Go.Proofs.Ytmonbofhfaaflaa.Px Go.Proofs.YtmonbofhfaaflaaW.PrintWords Go.Proofs.YtmonbofhfaaflaaW.PrintLast
set_option linter.unusedVariables false

theorem screen_eq (a b c : Int) : spec_ScreenOk.f a b c = impl_ScreenOk.f a b c := by
  simp only [spec_ScreenOk.f, impl_ScreenOk.f, spec_l01In.f, impl_isTick.f]
  by_cases h1 : a ≥ 1 <;> by_cases h2 : a ≤ 4 <;> by_cases h3 : b ≥ 0 <;> simp [h1, h2, h3]
def scOk (a b c : Int) : Bool := decide (1 ≤ a) && decide (a ≤ 4) && decide (0 ≤ b) && decide (b ≤ 100000) && (decide (c = 0) || decide (c = 1) || (decide (c = 2) && decide (a = 4)))
theorem screen_impl (a b c : Int) : impl_ScreenOk.f a b c = some (scOk a b c) := by
  simp only [impl_ScreenOk.f, impl_isTick.f, scOk]
  by_cases h1 : a ≥ 1
  · by_cases h2 : a ≤ 4
    · by_cases h3 : b ≥ 0
      · by_cases h4 : b ≤ 100000
        · by_cases h5 : c = 0
          · subst h5; simp [h1, h2, h3, h4]
          · by_cases h6 : c = 1
            · subst h6; simp [h1, h2, h3, h4]
            · by_cases h7 : c = 2
              · subst h7; simp [h1, h2, h3, h4]; rfl
              · simp [h1, h2, h3, h4, h5, h6, h7]
        · simp [h1, h2, h3, h4]
      · simp [h1, h2, h3]
    · simp [h1, h2]
  · simp [h1]
theorem screen_spec (a b c : Int) : spec_ScreenOk.f a b c = some (scOk a b c) := (screen_eq a b c).trans (screen_impl a b c)

end Go.Proofs.Ytmonbofhfaaflaa.Pu
