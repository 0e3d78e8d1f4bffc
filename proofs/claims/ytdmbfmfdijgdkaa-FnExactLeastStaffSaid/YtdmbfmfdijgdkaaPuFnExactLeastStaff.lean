/- FnExactLeastStaff: the pure statement that is left of this law, about numbers and lists alone. -/
import Derived.Test.YtdmbfmfdijgdkaaStFnExactLeastStaff
import Derived.Test.YtdmbfmfdijgdkaaLf
namespace Go.Proofs.Ytdmbfmfdijgdkaa.Pu
open Go.RowKit Go.Proofs.Ytdmbfmfdijgdkaa.Px Go.Proofs.YtdmbfmfdijgdkaaW.PrintWords Go.Proofs.YtdmbfmfdijgdkaaW.PrintLast
set_option linter.unusedVariables false

theorem FnExactLeastStaff : laws_FnExactLeastStaff.Pure := by
  intro l w ⟨h1, h2, h3⟩ hw
  obtain ⟨t, ht, hb⟩ := szImageS_big l (by omega)
  by_cases h0 : t < 0
  · exact ⟨0, by simp only [laws_FnExactLeastStaff.f, ht, Option.bind_some, if_pos h0]⟩
  · have hl := hb (by omega)
    have hm : (l.map img).length ≤ 1048576 := by simpa using hl
    refine Lt.get ((Lt.of (toImageS_ev l hl)).and ((Lt.of (spec_ls_ev (l.map img) (by omega) w)).and ((Lt.of (impl_ls_ev (l.map img) (by omega) w)).and (Lt.of (eqImageS_ev (l.map img) hm))))) fun k ⟨e1, e2, e3, e4⟩ => ?_
    simp only [laws_FnExactLeastStaff.f, ht, Option.bind_some, if_neg h0, e1, e2, e3, e4]
    simp

end Go.Proofs.Ytdmbfmfdijgdkaa.Pu
