import Derived.Test.YtmjhbdmicejppaaZjStFnLoopTurns
import Derived.Test.YtmjhbdmicejppaaZjLu
namespace Go.Proofs.Ytmjhbdmicejppaa.Pu
open Go.RowKit Go.Proofs.Ytmjhbdmicejppaa.Px Go.Proofs.YtmjhbdmicejppaaW.PrintWords Go.Proofs.YtmjhbdmicejppaaW.PrintLast
set_option linter.unusedVariables false
theorem FnLoopTurns : laws_FnLoopTurns.Pure := by
  intro t a c w p q ⟨h1, h2, h3⟩ ha ⟨k1, k2, k3⟩ ⟨g1, g2, g3⟩ hp hq
  have hlp := spec_lp_big t a c w (by omega) (fun x hx => by
    have := g3 x hx
    omega)
  have dead : Ev (fun k => laws_FnLoopTurns.j0 k p q (t.length : Int) true t a c w) true := Ev.step (f := fun _ => some true) (fun k => by simp [laws_FnLoopTurns.j0]) (Ev.now _)
  by_cases h : lpOk t a c w = true
  · rw [h] at hlp
    obtain ⟨n0, n1⟩ := lp_len h
    by_cases c1 : p < 0
    · refine Lt.get ((Lt.of hlp).and (Lt.of dead)) fun k ⟨e, e1⟩ => ?_
      simp only [laws_FnLoopTurns.f, e, Option.bind_some]
      rw [if_pos trivial, if_pos c1]
      exact e1
    · by_cases c2 : p > wrap64 (600 - (t.length : Int))
      · refine Lt.get ((Lt.of hlp).and (Lt.of dead)) fun k ⟨e, e1⟩ => ?_
        simp only [laws_FnLoopTurns.f, e, Option.bind_some]
        rw [if_pos trivial, if_neg c1, if_pos c2]
        exact e1
      · by_cases c3 : q < 0
        · refine Lt.get ((Lt.of hlp).and (Lt.of dead)) fun k ⟨e, e1⟩ => ?_
          simp only [laws_FnLoopTurns.f, e, Option.bind_some]
          rw [if_pos trivial, if_neg c1, if_neg c2, if_pos c3]
          exact e1
        · have c2' := c2
          rw [wrap_in (by omega) (by omega)] at c2'
          by_cases c4 : q > wrap64 (600 - p)
          · refine Lt.get ((Lt.of hlp).and (Lt.of dead)) fun k ⟨e, e1⟩ => ?_
            simp only [laws_FnLoopTurns.f, e, Option.bind_some]
            rw [if_pos trivial, if_neg c1, if_neg c2, if_neg c3, decide_eq_true c4]
            exact e1
          · have c4' := c4
            rw [wrap_in (by omega) (by omega)] at c4'
            have main := loopTurns_main t a c w h p.toNat q.toNat (by omega) (by omega)
            rw [show ((p.toNat : Nat) : Int) = p by omega, show ((q.toNat : Nat) : Int) = q by omega] at main
            refine Lt.get ((Lt.of hlp).and (Lt.of main)) fun k ⟨e, e1⟩ => ?_
            simp only [laws_FnLoopTurns.f, e, Option.bind_some]
            rw [if_pos trivial, if_neg c1, if_neg c2, if_neg c3, decide_eq_false c4]
            exact e1
  · have h' : lpOk t a c w = false := by simpa using h
    rw [h'] at hlp
    refine Lt.get ((Lt.of hlp).and (Lt.of dead)) fun k ⟨e, e1⟩ => ?_
    simp only [laws_FnLoopTurns.f, e, Option.bind_some]
    rw [if_neg (by simp)]
    exact e1
end Go.Proofs.Ytmjhbdmicejppaa.Pu
