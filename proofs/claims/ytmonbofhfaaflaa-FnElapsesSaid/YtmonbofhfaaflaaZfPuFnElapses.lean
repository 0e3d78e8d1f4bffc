import Derived.Test.YtmonbofhfaaflaaZfStFnElapses
import Derived.Test.YtmonbofhfaaflaaZfBy
namespace Go.Proofs.Ytmonbofhfaaflaa.Pu
open Go.RowKit Go.Proofs.Ytmonbofhfaaflaa.Px Go.Proofs.YtmonbofhfaaflaaW.PrintWords Go.Proofs.YtmonbofhfaaflaaW.PrintLast
set_option linter.unusedVariables false

theorem FnElapses : laws_FnElapses.Pure := by
  intro l ⟨h1, h2, h3⟩
  by_cases hl : l.length ≤ 1048576
  · obtain ⟨p, lv, si, v, ed, hp, hs, h99⟩ := drawScreen_ev l hl
    obtain ⟨r, er, hr12, hrx⟩ := drawPlaces_ev l hl
    obtain ⟨a1, a2, a3, a4, a5⟩ := sc_in hs
    have hr0 : 0 ≤ rd r 0 ∧ rd r 0 < 10000 := by
      have e : rd r 0 = r[0] := by simp [rd, hr12]
      rw [e]; exact hrx _ (List.getElem_mem _)
    have hr1 : 0 ≤ rd r 1 ∧ rd r 1 < 10000 := by
      have e : rd r 1 = r[1] := by simp [rd, hr12]
      rw [e]; exact hrx _ (List.getElem_mem _)
    obtain ⟨t0, t1⟩ := tmod_in (rd r 0) 40 hr0.1 (by omega)
    obtain ⟨u0, u1⟩ := tmod_in (rd r 1) 40 hr1.1 (by omega)
    generalize hA : si + Int.tmod (rd r 0) 40 = A at *
    generalize hB : A + Int.tmod (rd r 1) 40 = B at *
    have tA : tick A = true := by simp [tick]; omega
    have tB : tick B = true := by simp [tick]; omega
    have eX := impl_el_ev p lv si v A
    have eXs := spec_el_ev p lv si v A
    have eYb := impl_el_ev p lv si v B
    have hX := elapse_live p lv si v A hp hs tA
    have hYb := elapse_live p lv si v B hp hs tB
    obtain ⟨s1, s2⟩ := elap_since p hp A v (4 - lv).toNat lv si (by omega) a1
    obtain ⟨l1, l2, l3⟩ := elap_lv p A v (4 - lv).toNat lv si (by omega)
    have two := elap_two p A B v (by omega) (4 - lv).toNat lv si (by omega)
    rw [← hX] at s1 s2 l1 l2 l3 two
    rw [← hYb] at two
    generalize elapse p lv si v A = X at *
    obtain ⟨xl, xs, xv⟩ := X
    simp only at s1 s2 l1 l2 l3 two
    subst l3
    have hsX : scOk xl xs xv = true := by simp [scOk]; omega
    have eY := impl_el_ev p xl xs xv B
    rw [elapse_live p xl xs xv B hp hsX tB, two] at eY
    obtain ⟨m1, m2, m3⟩ := elap_lv p B xv (4 - xl).toNat xl xs (by omega)
    rw [two] at m1 m2 m3
    generalize elapse p lv si xv B = Y at *
    obtain ⟨yl, ys, yv⟩ := Y
    simp only at m1 m2 m3
    have hi := impl_ht_ev p lv si xv
    have hsp := spec_ht_ev p lv si xv
    obtain ⟨g1, g2⟩ := hour_ge p hp lv si a1 a2
    have hj : Ev (fun k => laws_FnElapses.j0 k (handT p lv si xv).1 (handT p lv si xv).2 false p lv si xv) true := by
      by_cases hv : xv = 0
      · subst hv
        have e : handT p lv si 0 = (hour p lv si, true) := by
          unfold handT
          rw [if_pos ⟨hp, hs, rfl⟩, if_neg (by omega)]
        rw [e]
        have tT : tick (hour p lv si) = true := by simp [tick]; omega
        have eT := impl_el_ev p lv si 0 (hour p lv si)
        have q1 := (el_hour p hp lv si (hour p lv si) a1 a2 g1).2 (by omega)
        rw [elapse_live p lv si 0 _ hp hs tT] at eT
        have eU := impl_el_ev p lv si 0 (hour p lv si - 1)
        have q2 : hour p lv si > si → (elapse p lv si 0 (hour p lv si - 1)).1 < 4 := by
          intro hgt
          have tU : tick (hour p lv si - 1) = true := by simp [tick]; omega
          rw [elapse_live p lv si 0 _ hp hs tU]
          have q3 := el_hour p hp lv si (hour p lv si - 1) a1 a2 (by omega)
          have q4 := (elap_lv p (hour p lv si - 1) 0 (4 - lv).toNat lv si (by omega)).2.1
          have q5 : (elap p (hour p lv si - 1) 0 (4 - lv).toNat lv si).1 ≠ 4 := fun h => by
            have := q3.1 h
            omega
          omega
        refine Ev.round ((Lt.of eT).and (Lt.of eU)) fun n ⟨f1, f2⟩ => ?_
        simp only [laws_FnElapses.j0]
        rw [if_neg (by simp), if_pos trivial, wrap_in (x := hour p lv si - 1) (by omega) (by omega)]
        simp only [f1, f2, Option.bind_some]
        rw [if_pos q1]
        by_cases he : hour p lv si = si
        · rw [if_pos he]
        · rw [if_neg he, if_pos (show hour p lv si > si by omega), decide_eq_true (q2 (by omega))]
      · have e : handT p lv si xv = (0, false) := by
          unfold handT
          rw [if_neg (fun h => hv h.2.2)]
        rw [e]
        refine Ev.step (f := fun _ => some true) (fun k => ?_) (Ev.now _)
        simp only [laws_FnElapses.j0]
        simp [hv]
    refine Lt.get ((Lt.of ed).and ((Lt.of er).and ((Lt.of eX).and ((Lt.of eXs).and ((Lt.of eYb).and ((Lt.of eY).and ((Lt.of hi).and ((Lt.of hsp).and (Lt.of hj))))))))) fun n ⟨f1, f2, f3, f4, f5, f6, f7, f8, f9⟩ => ?_
    simp only [laws_FnElapses.f, laws_big.f, f1, f2, Option.bind_some]
    rw [if_neg (by simp; omega), if_pos (by omega), if_pos (by omega), hA, wrap_in (x := A) (by omega) (by omega), hB, wrap_in (x := B) (by omega) (by omega)]
    simp only [f3, f4, f5, f6, f7, f8, Option.bind_some, impl_pol, screen_impl, hp, hsX]
    simp
    rw [if_neg (by omega), if_neg (by omega)]
    exact f9
  · exact ⟨0, by simp only [laws_FnElapses.f, laws_big.f, Option.bind_some]; rw [if_pos (by simp; omega)]⟩

end Go.Proofs.Ytmonbofhfaaflaa.Pu
