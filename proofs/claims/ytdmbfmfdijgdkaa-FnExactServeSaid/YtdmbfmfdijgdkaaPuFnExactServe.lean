/- FnExactServe: the pure statement that is left of this law, about numbers and lists alone. -/
import Derived.Test.YtdmbfmfdijgdkaaStFnExactServe
import Derived.Test.YtdmbfmfdijgdkaaMk
namespace Go.Proofs.Ytdmbfmfdijgdkaa.Pu
open Go.RowKit Go.Proofs.Ytdmbfmfdijgdkaa.Px Go.Proofs.YtdmbfmfdijgdkaaW.PrintWords Go.Proofs.YtdmbfmfdijgdkaaW.PrintLast
set_option linter.unusedVariables false

theorem FnExactServe : laws_FnExactServe.Pure := by
  intro l w n ⟨h1, h2, h3⟩ hw hn
  obtain ⟨t, ht, hb⟩ := szImageS_big l (by omega)
  by_cases h0 : t < 0
  · exact ⟨0, by simp only [laws_FnExactServe.f, ht, Option.bind_some, if_pos h0]⟩
  · have hl := hb (by omega)
    have hm : (l.map img).length ≤ 1048576 := by simpa using hl
    have hs : (serve (l.map img) w n).length ≤ 1048576 := by
      unfold serve
      split
      · have : ∀ (l : List S41) (f : List Int), (sv w l f).length = l.length := by
          intro l
          induction l with
          | nil => intro f; rfl
          | cons x r ih => intro f; simp only [sv]; split <;> simp [ih]
        rw [this]
        omega
      · simp
    obtain ⟨r, r0, hr⟩ := markImageS_ev (l.map img) hm
    obtain ⟨m, m1, m2, hmk⟩ := markIntS_ev (serve (l.map img) w n) hs
    have hh := heldIntS_ev m (by omega) (by rw [m1]; exact m2)
    rw [m1] at hh
    have hj : Ev (fun k => laws_FnExactServe.j0 k l w n (serve (l.map img) w n) (serve (l.map img) w n) false) true := by
      refine Ev.round ((Lt.of (toImageS_ev l hl)).and ((Lt.of hmk).and ((Lt.of (impl_sv_ev (l.map img) (by omega) w n)).and ((Lt.of hh).and (Lt.of (eqIntS_ev _ hs)))))) fun k ⟨e1, e2, e3, e4, e5⟩ => ?_
      simp only [laws_FnExactServe.j0]
      rw [if_neg (by simp)]
      simp only [e1, e2, e3, e4, e5, Option.bind_some]
      have hneg : ¬ (1 + ((serve (l.map img) w n).length : Int) < 0) := by omega
      simp [hneg]
    refine Lt.get ((Lt.of (toImageS_ev l hl)).and ((Lt.of (spec_sv_ev (l.map img) (by omega) w n)).and ((Lt.of (impl_sv_ev (l.map img) (by omega) w n)).and ((Lt.of (eqImageS_ev (l.map img) hm)).and ((Lt.of (eqIntS_ev _ hs)).and ((Lt.of hr).and (Lt.of hj))))))) fun k ⟨e1, e2, e3, e4, e5, e6, e7⟩ => ?_
    simp only [laws_FnExactServe.f, ht, Option.bind_some, if_neg h0, e1, e2, e3, e4, e5, e6]
    have hr0 : ¬ (r.1 < 0) := by omega
    simp [hr0, e7]

end Go.Proofs.Ytdmbfmfdijgdkaa.Pu
