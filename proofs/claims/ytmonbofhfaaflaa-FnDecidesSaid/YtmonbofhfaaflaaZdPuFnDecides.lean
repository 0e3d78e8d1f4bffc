import Derived.Test.YtmonbofhfaaflaaZdStFnDecides
import Derived.Test.YtmonbofhfaaflaaZdBz
namespace Go.Proofs.Ytmonbofhfaaflaa.Pu
open Go.RowKit Go.Proofs.Ytmonbofhfaaflaa.Px Go.Proofs.YtmonbofhfaaflaaW.PrintWords Go.Proofs.YtmonbofhfaaflaaW.PrintLast
set_option linter.unusedVariables false

theorem FnDecides : laws_FnDecides.Pure := by
  intro l ⟨h1, h2, h3⟩
  by_cases hl : l.length ≤ 1048576
  · obtain ⟨p, lv, si, v, now, vd, ed⟩ := drawDecide_ev l hl
    have e1 := impl_de_ev p lv si v now vd
    have e2 := spec_de_ev p lv si v now vd
    have et := impl_el_ev p lv si v now
    have hj : Ev (fun k => laws_FnDecides.j0 k now vd (decid p lv si v now vd).2.2.2 false p lv si v (decid p lv si v now vd).1 (decid p lv si v now vd).2.1 (decid p lv si v now vd).2.2.1) true := by
      have dead : Ev (fun k => laws_FnDecides.j0 k now vd false false p lv si v lv si v) true := by
        refine Ev.step (f := fun _ => some true) (fun k => ?_) (Ev.now _)
        simp only [laws_FnDecides.j0]
        simp
      unfold decid
      split
      · rename_i hh
        obtain ⟨hp, hs, ht, hv⟩ := hh
        obtain ⟨a1, a2, a3, a4, a5⟩ := sc_in hs
        obtain ⟨b1, b2⟩ := tick_in ht
        have hv' : 0 ≤ vd ∧ vd ≤ 2 := by simpa [verdictOk] using hv
        obtain ⟨t1, t2, t3⟩ := elapse_level p lv si v now hs
        have ts : 0 ≤ (elapse p lv si v now).2.1 := by
          unfold elapse
          split
          · exact Int.le_trans a3 (elap_since0 p hp now v (4 - lv).toNat lv si (by omega) a1)
          · exact a3
        generalize elapse p lv si v now = T at et t1 t2 t3 ts
        obtain ⟨tl, tsi, tv⟩ := T
        simp only at t1 t2 t3 ts
        subst t3
        simp only [decided]
        by_cases c1 : tv = 0
        · by_cases c2 : now < tsi
          · rw [if_pos (.inr c2)]; exact dead
          · rw [if_neg (by omega)]
            subst c1
            by_cases c3 : vd = 1
            · rw [if_pos c3]
              subst c3
              refine Ev.round ((Lt.of et).and Lt.true.succ) fun n ⟨f1, m, hm, _⟩ => ?_
              subst hm
              simp only [laws_FnDecides.j0, laws_FnDecides.j1, f1, Option.bind_some, screen_impl]
              rw [show scOk tl tsi 1 = true by simp [scOk]; omega]
              simp
            · rw [if_neg c3]
              by_cases c4 : tl = 4
              · rw [if_pos c4]
                subst c4
                by_cases c5 : vd = 0
                · rw [if_pos c5]; exact dead
                · rw [if_neg c5]
                  refine Ev.round ((Lt.of et).and Lt.true.succ) fun n ⟨f1, m, hm, _⟩ => ?_
                  subst hm
                  simp only [laws_FnDecides.j0, laws_FnDecides.j1, f1, Option.bind_some, screen_impl]
                  rw [show scOk 4 tsi 2 = true by simp [scOk]; omega]
                  simp [c3]
              · rw [if_neg c4]
                refine Ev.round ((Lt.of et).and Lt.true.succ) fun n ⟨f1, m, hm, _⟩ => ?_
                subst hm
                simp only [laws_FnDecides.j0, laws_FnDecides.j1, f1, Option.bind_some, screen_impl]
                rw [show scOk (tl + 1) now 0 = true by simp [scOk]; omega, wrap_in (x := tl + 1) (by omega) (by omega)]
                simp [c3, c4]
        · rw [if_pos (.inl c1)]; exact dead
      · exact dead
    refine Lt.get ((Lt.of ed).and ((Lt.of e1).and ((Lt.of e2).and (Lt.of hj)))) fun n ⟨f1, f2, f3, f4⟩ => ?_
    simp only [laws_FnDecides.f, laws_big.f, f1, f2, f3, Option.bind_some]
    rw [if_neg (by simp; omega), if_neg (by simp)]
    simpa using f4
  · exact ⟨0, by simp only [laws_FnDecides.f, laws_big.f, Option.bind_some]; rw [if_pos (by simp; omega)]⟩

end Go.Proofs.Ytmonbofhfaaflaa.Pu
