import Derived.Test.YtmjhbdmicejppaaZsLi
import Derived.Test.YtmjhbdmicejppaaZsPx3
namespace Go.Proofs.Ytmjhbdmicejppaa.Pu
open Go.RowKit Go.Proofs.Ytmjhbdmicejppaa.Px Go.Proofs.YtmjhbdmicejppaaW.PrintWords Go.Proofs.YtmjhbdmicejppaaW.PrintLast
set_option linter.unusedVariables false
def trayV (t : List Int) (a at_ : Int) : Int := Int.tmod (wrap64 ((wrap64 (at_ - a)) + (t.length : Int))) (t.length : Int)
def trayAt (t : List Int) (a : Int) (c : List S69) (w : List S74) (at_ : Int) : Int := if lpOk t a c w = true ∧ 0 ≤ at_ ∧ at_ ≤ (t.length : Int) - 1 then trayV t a at_ else -1
theorem lp_len {t : List Int} {a : Int} {c : List S69} {w : List S74} (h : lpOk t a c w = true) : 2 ≤ t.length ∧ t.length ≤ 60 := by
  simp only [lpOk, szOk, Bool.and_eq_true, decide_eq_true_eq] at h
  exact ⟨h.1.1.1.1.1.1, h.1.1.1.1.1.2⟩
theorem spec_ta_ev (t : List Int) (a : Int) (c : List S69) (w : List S74) (at_ : Int) (ht : t.length ≤ 1048576) (hf : t.length + (c.flatMap (fun x => x.f2)).length ≤ 1048576) (hwb : ∀ x ∈ w, x.f1.length ≤ 1048576) : Ev (fun k => spec_TrayAt.f k t a c w at_) (trayAt t a c w at_) := by
  refine Lt.ev (Lt.of (spec_lp_ev t a c w ht hf hwb)) fun k e => ?_
  simp only [spec_TrayAt.f, e, Option.bind_some, trayAt]
  by_cases h : lpOk t a c w = true
  · obtain ⟨n0, n1⟩ := lp_len h
    rw [h, if_pos rfl, wrap_in (x := (t.length : Int) - 1) (by omega) (by omega), in_eq]
    simp only [Option.bind_some, spec_l05Tray.f]
    by_cases h1 : 0 ≤ at_ ∧ at_ ≤ (t.length : Int) - 1
    · rw [decide_eq_true h1.1, decide_eq_true h1.2, if_pos (by simp), if_neg (by omega), if_pos (show True ∧ 0 ≤ at_ ∧ at_ ≤ (t.length : Int) - 1 from ⟨trivial, h1⟩)]
      rfl
    · have : (decide (0 ≤ at_) && decide (at_ ≤ (t.length : Int) - 1)) = false := by
        cases hh : (decide (0 ≤ at_) && decide (at_ ≤ (t.length : Int) - 1)) with
        | false => rfl
        | true =>
          simp only [Bool.and_eq_true, decide_eq_true_eq] at hh
          exact absurd hh h1
      rw [this, if_neg (by simp), if_neg (show ¬ (True ∧ 0 ≤ at_ ∧ at_ ≤ (t.length : Int) - 1) from fun hh => h1 hh.2)]
  · rw [if_neg h, if_neg (fun hh => h hh.1)]
theorem impl_ta_ev (t : List Int) (a : Int) (c : List S69) (w : List S74) (at_ : Int) (ht : t.length ≤ 1048576) (hf : t.length + (c.flatMap (fun x => x.f2)).length ≤ 1048576) (hwb : ∀ x ∈ w, x.f1.length ≤ 1048576) : Ev (fun k => impl_TrayAt.f k t a c w at_) (trayAt t a c w at_) := by
  have dead : Ev (fun k => impl_TrayAt.j0 k at_ true t a c w) (-1) := Ev.step (f := fun _ => some (-1)) (fun k => by simp [impl_TrayAt.j0]) (Ev.now _)
  unfold trayAt
  by_cases h : lpOk t a c w = true
  · obtain ⟨n0, n1⟩ := lp_len h
    by_cases h1 : at_ < 0
    · rw [if_neg (fun hh => by omega)]
      refine Lt.ev ((Lt.of (impl_lp_ev t a c w ht hf hwb)).and (Lt.of dead)) fun k ⟨e, e1⟩ => ?_
      simp only [impl_TrayAt.f, e, h, Option.bind_some]
      rw [if_pos trivial, if_pos h1]
      exact e1
    · by_cases h2 : at_ ≥ (t.length : Int)
      · rw [if_neg (fun hh => by omega)]
        refine Lt.ev ((Lt.of (impl_lp_ev t a c w ht hf hwb)).and (Lt.of dead)) fun k ⟨e, e1⟩ => ?_
        simp only [impl_TrayAt.f, e, h, Option.bind_some]
        rw [if_pos trivial, if_neg h1, decide_eq_true h2]
        exact e1
      · rw [if_pos ⟨h, by omega, by omega⟩]
        have live : Ev (fun k => impl_TrayAt.j0 k at_ false t a c w) (trayV t a at_) := Ev.step (f := fun _ => some (trayV t a at_)) (fun k => by
          simp only [impl_TrayAt.j0, impl_trayAt.f]
          rw [if_neg (by simp), if_neg (by omega)]
          rfl) (Ev.now _)
        refine Lt.ev ((Lt.of (impl_lp_ev t a c w ht hf hwb)).and (Lt.of live)) fun k ⟨e, e1⟩ => ?_
        simp only [impl_TrayAt.f, e, h, Option.bind_some]
        rw [if_pos trivial, if_neg h1, decide_eq_false h2]
        exact e1
  · rw [if_neg (fun hh => h hh.1)]
    refine Lt.ev ((Lt.of (impl_lp_ev t a c w ht hf hwb)).and (Lt.of dead)) fun k ⟨e, e1⟩ => ?_
    simp only [impl_TrayAt.f, e, Option.bind_some]
    rw [if_neg h]
    exact e1
end Go.Proofs.Ytmjhbdmicejppaa.Pu
