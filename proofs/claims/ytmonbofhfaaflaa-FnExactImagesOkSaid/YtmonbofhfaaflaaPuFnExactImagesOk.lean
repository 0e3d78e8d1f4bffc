/- FnExactImagesOk: the pure statement that is left of this law, about numbers and lists alone. -/
import Derived.Test.YtmonbofhfaaflaaStFnExactImagesOk
import Derived.Test.YtmonbofhfaaflaaB2
namespace Go.Proofs.Ytmonbofhfaaflaa.Pu
open Go.RowKit Go.Proofs.Ytmonbofhfaaflaa.Px Go.Proofs.YtmonbofhfaaflaaW.PrintWords Go.Proofs.YtmonbofhfaaflaaW.PrintLast
set_option linter.unusedVariables false

theorem FnExactImagesOk : laws_FnExactImagesOk.Pure := by
  intro l ⟨h1, h2, h3⟩
  obtain ⟨t, ht, hb⟩ := szImageS_big l (by omega)
  by_cases h0 : t < 0
  · exact ⟨0, by simp only [laws_FnExactImagesOk.f, ht, Option.bind_some, if_pos h0]⟩
  · have hl := hb (by omega)
    have hm : (l.map img).length ≤ 1048576 := by simpa using hl
    refine Lt.get ((Lt.of (toImageS_ev l hl)).and ((Lt.of (spec_img_ev (l.map img) (by omega))).and ((Lt.of (impl_img_ev (l.map img) (by omega))).and (Lt.of (eqImageS_ev (l.map img) hm))))) fun n ⟨e1, e2, e3, e4⟩ => ?_
    simp only [laws_FnExactImagesOk.f, ht, Option.bind_some, if_neg h0, e1, e2, e3, e4]
    simp

end Go.Proofs.Ytmonbofhfaaflaa.Pu
