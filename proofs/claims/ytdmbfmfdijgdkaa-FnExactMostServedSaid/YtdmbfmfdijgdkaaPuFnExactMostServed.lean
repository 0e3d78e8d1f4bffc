/- FnExactMostServed: the pure statement that is left of this law, about numbers and lists alone. -/
import Derived.Test.YtdmbfmfdijgdkaaStFnExactMostServed
import Derived.Test.YtdmbfmfdijgdkaaMo
namespace Go.Proofs.Ytdmbfmfdijgdkaa.Pu
open Go.RowKit Go.Proofs.Ytdmbfmfdijgdkaa.Px Go.Proofs.YtdmbfmfdijgdkaaW.PrintWords Go.Proofs.YtdmbfmfdijgdkaaW.PrintLast
set_option linter.unusedVariables false

theorem FnExactMostServed : laws_FnExactMostServed.Pure := by
  intro l w n ⟨h1, h2, h3⟩ hw hn
  obtain ⟨t, ht, hb⟩ := szImageS_big l (by omega)
  by_cases h0 : t < 0
  · exact ⟨0, by simp only [laws_FnExactMostServed.f, ht, Option.bind_some, if_pos h0]⟩
  · have hl := hb (by omega)
    have hm : (l.map img).length ≤ 1048576 := by simpa using hl
    refine Lt.get ((Lt.of (toImageS_ev l hl)).and ((Lt.of (spec_mo_ev (l.map img) (by omega) w n)).and ((Lt.of (impl_mo_ev (l.map img) (by omega) w n)).and (Lt.of (eqImageS_ev (l.map img) hm))))) fun k ⟨e1, e2, e3, e4⟩ => ?_
    simp only [laws_FnExactMostServed.f, ht, Option.bind_some, if_neg h0, e1, e2, e3, e4]
    simp

end Go.Proofs.Ytdmbfmfdijgdkaa.Pu
