import Derived.Test.YtmjhbdmicejppaaZrLi
import Derived.Test.YtmjhbdmicejppaaZrPx3
import Derived.Test.YtmjhbdmicejppaaZrPx0
import Derived.Test.YtmjhbdmicejppaaZrPx1
import Derived.Test.YtmjhbdmicejppaaZrPx2
namespace Go.Proofs.Ytmjhbdmicejppaa.Pu
open Go.RowKit Go.Proofs.Ytmjhbdmicejppaa.Px Go.Proofs.YtmjhbdmicejppaaW.PrintWords Go.Proofs.YtmjhbdmicejppaaW.PrintLast
set_option linter.unusedVariables false
def trayV (t : List Int) (a at_ : Int) : Int := Int.tmod (wrap64 ((wrap64 (at_ - a)) + (t.length : Int))) (t.length : Int)
theorem lp_len {t : List Int} {a : Int} {c : List S69} {w : List S74} (h : lpOk t a c w = true) : 2 ≤ t.length ∧ t.length ≤ 60 := by
  simp only [lpOk, szOk, Bool.and_eq_true, decide_eq_true_eq] at h
  exact ⟨h.1.1.1.1.1.1, h.1.1.1.1.1.2⟩
end Go.Proofs.Ytmjhbdmicejppaa.Pu
