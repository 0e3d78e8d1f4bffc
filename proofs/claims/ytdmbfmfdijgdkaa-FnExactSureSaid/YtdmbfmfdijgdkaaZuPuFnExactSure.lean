import Derived.Test.YtdmbfmfdijgdkaaZuStFnExactSure
import Derived.Test.YtdmbfmfdijgdkaaZuXl
namespace Go.Proofs.Ytdmbfmfdijgdkaa.Pu
open Go.RowKit Go.Proofs.Ytdmbfmfdijgdkaa.Px Go.Proofs.YtdmbfmfdijgdkaaW.PrintWords Go.Proofs.YtdmbfmfdijgdkaaW.PrintLast
set_option linter.unusedVariables false
theorem FnExactSure : laws_FnExactSure.Pure := by
  intro l0 l1  ⟨h1, h2, h3⟩ ⟨g1, g2, g3⟩ 
  obtain ⟨t, ht, hb⟩ := szExpectS_big l0 1048576 (by omega) (by omega)
  by_cases hn : t < 0
  · exact ⟨0, by simp only [laws_FnExactSure.f, ht, Option.bind_some, if_pos hn]⟩
  obtain ⟨hl, htb⟩ := hb (by omega)
  obtain ⟨u, hu, gb⟩ := szSightS_big l1 t (by omega) (by omega)
  by_cases hm : u < 0
  · exact ⟨0, by simp only [laws_FnExactSure.f, ht, hu, Option.bind_some, if_neg hn, if_pos hm]⟩
  obtain ⟨gl, gtb⟩ := gb (by omega)
  have hll : (l0.map exq).length ≤ 1048576 := by simpa using hl
  have hgl : (l1.map sgq).length ≤ 1048576 := by simpa using gl
  have hs := sure_len (l0.map exq) (l1.map sgq) hgl
  obtain ⟨r, r0, r1, hr⟩ := markExpectS_ev (l0.map exq) hll
  obtain ⟨r', r0', hr'⟩ := markSightS_ev (l1.map sgq) hgl r.1 r0 (by omega)
  obtain ⟨m, m1, m2, hmk⟩ := markIntS_ev (sure (l0.map exq) (l1.map sgq)) hs
  have hh := heldIntS_ev m (by omega) (by rw [m1]; exact m2)
  rw [m1] at hh
  have e1 := toExpectS_ev l0 hl
  have e2 := toSightS_ev l1 gl
  have e3 := impl_su_ev (l0.map exq) (l1.map sgq) (by omega) (by omega)
  have e4 := eqIntS_ev (sure (l0.map exq) (l1.map sgq)) hs
  have hneg : ¬ (1 + ((sure (l0.map exq) (l1.map sgq)).length : Int) < 0) := by omega
  have hj : Ev (fun k => laws_FnExactSure.j0 k l0 l1  (sure (l0.map exq) (l1.map sgq)) (sure (l0.map exq) (l1.map sgq)) false) true := by
    refine Ev.round ((Lt.of e1).and ((Lt.of e2).and ((Lt.of e3).and ((Lt.of e4).and ((Lt.of hmk).and (Lt.of hh)))))) fun k ⟨a1, a2', a3, a4, a5, a6⟩ => ?_
    simp only [laws_FnExactSure.j0]
    rw [if_neg (by simp)]
    simp only [a1, a2', a3, a4, a5, a6, Option.bind_some]
    simp [hneg]
  refine Lt.get ((Lt.of e1).and ((Lt.of e2).and ((Lt.of (spec_su_ev (l0.map exq) (l1.map sgq))).and ((Lt.of e3).and ((Lt.of e4).and ((Lt.of (eqExpectS_ev (l0.map exq) hll)).and ((Lt.of (eqSightS_ev (l1.map sgq) hgl)).and ((Lt.of hr).and ((Lt.of hr').and (Lt.of hj)))))))))) fun k ⟨a1, a2', a3, a4, a5, a6, a7, a8, a9, a10⟩ => ?_
  simp only [laws_FnExactSure.f, ht, hu, Option.bind_some, if_neg hn, if_neg hm, a1, a2', a3, a4, a5, a6, a7, a8, a9]
  have hr0 : ¬ (r'.1 < 0) := by omega
  simp [hr0, a10]
end Go.Proofs.Ytdmbfmfdijgdkaa.Pu
