import Derived.Test.YtmonbofhfaaflaaZeBe
import Derived.Test.YtmonbofhfaaflaaZePx15
namespace Go.Proofs.Ytmonbofhfaaflaa.Pu
open Go.RowKit Go.Proofs.Ytmonbofhfaaflaa.Px Go.Proofs.YtmonbofhfaaflaaW.PrintWords Go.Proofs.YtmonbofhfaaflaaW.PrintLast
set_option linter.unusedVariables false

/-- What a decision comes to, where all is valid. -/
def decided (lv si v now vd : Int) (t : Int × Int × Int) : Int × Int × Int × Bool :=
  if t.2.2 ≠ 0 ∨ now < t.2.1 then (lv, si, v, false) else if vd = 1 then (t.1, t.2.1, 1, true) else if t.1 = 4 then (if vd = 0 then (lv, si, v, false) else (t.1, t.2.1, 2, true)) else (t.1 + 1, now, 0, true)
def verdictOk (n : Int) : Bool := decide (0 ≤ n) && decide (n ≤ 2)
def decid (p : List Int) (lv si v now vd : Int) : Int × Int × Int × Bool :=
  if polOk p = true ∧ scOk lv si v = true ∧ tick now = true ∧ verdictOk vd = true then decided lv si v now vd (elapse p lv si v now) else (lv, si, v, false)
theorem elap_level (p : List Int) (now v : Int) : ∀ (d : Nat) (lv si : Int), lv + d = 4 → lv ≤ (elap p now v d lv si).1 ∧ (elap p now v d lv si).1 ≤ 4 ∧ (elap p now v d lv si).2.2 = v
  | 0, lv, si, h => by simp [elap]; omega
  | d + 1, lv, si, h => by
    have ih := elap_level p now v d (lv + 1) (si + rd p (lv - 1)) (by omega)
    simp only [elap]
    split
    · omega
    · simp
      omega
theorem elapse_level (p : List Int) (lv si v now : Int) (hs : scOk lv si v = true) : lv ≤ (elapse p lv si v now).1 ∧ (elapse p lv si v now).1 ≤ 4 ∧ (elapse p lv si v now).2.2 = v := by
  obtain ⟨a1, a2, a3, a4, _⟩ := sc_in hs
  unfold elapse
  split
  · exact elap_level p now v (4 - lv).toNat lv si (by omega)
  · simp
    omega
theorem spec_de_ev (p : List Int) (lv si v now vd : Int) : Ev (fun k => spec_Decide.f k p lv si v now vd) (decid p lv si v now vd) := by
  have hdead : Ev (fun k => spec_Decide.j0 k now vd true p lv si v) (lv, si, v, false) := Ev.step (f := fun _ => some (lv, si, v, false)) (fun k => by simp [spec_Decide.j0]) (Ev.now _)
  unfold decid
  by_cases h : polOk p = true ∧ scOk lv si v = true ∧ tick now = true ∧ verdictOk vd = true
  · rw [if_pos h]
    obtain ⟨h1, h2, h3, h4⟩ := h
    obtain ⟨a1, a2, a3, a4, _⟩ := sc_in h2
    obtain ⟨b1, b2⟩ := tick_in h3
    have hv : 0 ≤ vd ∧ vd ≤ 2 := by simpa [verdictOk] using h4
    have hel := spec_el_ev p lv si v now
    obtain ⟨t1, t2, t3⟩ := elapse_level p lv si v now h2
    generalize hT : elapse p lv si v now = T at hel t1 t2 t3
    obtain ⟨tl, ts, tv⟩ := T
    simp only at t1 t2 t3
    subst t3
    have hlive : Ev (fun k => spec_Decide.j0 k now vd false p lv si tv) (decided lv si tv now vd (tl, ts, tv)) := by
      refine Ev.round ((Lt.of hel).and Lt.true.succ) fun n ⟨e1, m, hm, _⟩ => ?_
      subst hm
      simp only [spec_Decide.j0, e1, Option.bind_some, spec_Decide.j1, decided]
      by_cases c1 : tv = 0
      · by_cases c2 : now < ts
        · simp [c1, c2]
        · by_cases c3 : vd = 1
          · simp [c1, c2, c3]
          · by_cases c4 : tl = 4
            · by_cases c5 : vd = 0
              · simp [c1, c2, c4, c5]
              · simp [c1, c2, c3, c4, c5]
            · rw [wrap_in (x := tl + 1) (by omega) (by omega)]
              simp [c1, c2, c3, c4]
      · simp [c1]
    refine Lt.ev ((Lt.of (spec_pol_ev p)).and (Lt.of hlive)) fun n ⟨e1, e2⟩ => ?_
    have ht : (decide (0 ≤ now) && decide (now ≤ 100000)) = true := h3
    have ht2 : (decide (0 ≤ vd) && decide (vd ≤ 2)) = true := h4
    simp only [spec_Decide.f, e1, Option.bind_some, screen_spec, in_spec, h1, h2, ht, ht2, if_pos, Bool.not_true, e2]
  · rw [if_neg h]
    refine Lt.ev ((Lt.of (spec_pol_ev p)).and (Lt.of hdead)) fun n ⟨e1, e2⟩ => ?_
    simp only [spec_Decide.f, e1, Option.bind_some, screen_spec, in_spec]
    cases hp : polOk p with
    | false => simp [e2]
    | true =>
      cases hs : scOk lv si v with
      | false => simp [e2]
      | true =>
        cases ht : (decide (0 ≤ now) && decide (now ≤ 100000)) with
        | false => simp [e2]
        | true =>
          cases hv : (decide (0 ≤ vd) && decide (vd ≤ 2)) with
          | false => simp [e2]
          | true => exact absurd ⟨hp, hs, ht, hv⟩ h
theorem impl_de_ev (p : List Int) (lv si v now vd : Int) : Ev (fun k => impl_Decide.f k p lv si v now vd) (decid p lv si v now vd) := by
  have hdead : Ev (fun k => impl_Decide.j0 k now vd true p lv si v) (lv, si, v, false) := Ev.step (f := fun _ => some (lv, si, v, false)) (fun k => by simp [impl_Decide.j0]) (Ev.now _)
  unfold decid
  by_cases h : polOk p = true ∧ scOk lv si v = true ∧ tick now = true ∧ verdictOk vd = true
  · rw [if_pos h]
    obtain ⟨h1, h2, h3, h4⟩ := h
    obtain ⟨a1, a2, a3, a4, _⟩ := sc_in h2
    obtain ⟨b1, b2⟩ := tick_in h3
    have hv : 0 ≤ vd ∧ vd ≤ 2 := by simpa [verdictOk] using h4
    have hel := impl_el_ev p lv si v now
    obtain ⟨t1, t2, t3⟩ := elapse_level p lv si v now h2
    generalize hT : elapse p lv si v now = T at hel t1 t2 t3
    obtain ⟨tl, ts, tv⟩ := T
    simp only at t1 t2 t3
    subst t3
    have hlive : Ev (fun k => impl_Decide.j0 k now vd false p lv si tv) (decided lv si tv now vd (tl, ts, tv)) := by
      refine Ev.round ((Lt.of hel).and Lt.true.succ) fun n ⟨e1, m, hm, _⟩ => ?_
      subst hm
      simp only [impl_Decide.j0, e1, Option.bind_some, impl_Decide.j1, decided]
      by_cases c1 : tv = 0
      · by_cases c2 : now < ts
        · simp [c1, c2]
        · by_cases c3 : vd = 1
          · subst c3; simp [c1, c2]
          · by_cases c4 : tl = 4
            · by_cases c5 : vd = 0
              · simp [c1, c2, c4, c5]
              · have c6 : vd = 2 := by omega
                subst c6
                simp [c1, c2, c4]
            · rw [wrap_in (x := tl + 1) (by omega) (by omega)]
              by_cases c5 : vd = 0
              · simp [c1, c2, c4, c5]
              · simp [c1, c2, c3, c4, c5]
      · simp [c1]
    refine Lt.ev (Lt.of hlive) fun n e2 => ?_
    have hg : decide (vd > 2) = false := by simp; omega
    simp only [impl_Decide.f, impl_pol, Option.bind_some, screen_impl, tick_impl, h1, h2, h3, if_pos]
    rw [if_neg (by omega), hg, e2]
  · rw [if_neg h]
    refine Lt.ev (Lt.of hdead) fun n e2 => ?_
    simp only [impl_Decide.f, impl_pol, Option.bind_some, screen_impl, tick_impl]
    cases hp : polOk p with
    | false => simp [e2]
    | true =>
      cases hs : scOk lv si v with
      | false => simp [e2]
      | true =>
        cases ht : tick now with
        | false => simp [e2]
        | true =>
          have hv : ¬ (0 ≤ vd ∧ vd ≤ 2) := fun h' => h ⟨hp, hs, ht, by simpa [verdictOk] using h'⟩
          simp only [if_pos]
          by_cases c : vd < 0
          · rw [if_pos c, e2]
          · rw [if_neg c, decide_eq_true (show vd > 2 by omega), e2]
end Go.Proofs.Ytmonbofhfaaflaa.Pu
