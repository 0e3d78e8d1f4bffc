import Derived.Test.YtmjhbdmicejppaaZoLi
import Derived.Test.YtmjhbdmicejppaaZoPx0
import Derived.Test.YtmjhbdmicejppaaZoPx1
import Derived.Test.YtmjhbdmicejppaaZoPx2
import Derived.Test.YtmjhbdmicejppaaZoPx3
import Derived.Test.YtmjhbdmicejppaaZoPx4
namespace Go.Proofs.Ytmjhbdmicejppaa.Pu
open Go.RowKit Go.Proofs.Ytmjhbdmicejppaa.Px Go.Proofs.YtmjhbdmicejppaaW.PrintWords Go.Proofs.YtmjhbdmicejppaaW.PrintLast
set_option linter.unusedVariables false

theorem lp_len {t : List Int} {a : Int} {c : List S69} {w : List S74} (h : lpOk t a c w = true) : 2 ≤ t.length ∧ t.length ≤ 60 := by
  simp only [lpOk, szOk, Bool.and_eq_true, decide_eq_true_eq] at h
  exact ⟨h.1.1.1.1.1.1, h.1.1.1.1.1.2⟩
end Go.Proofs.Ytmjhbdmicejppaa.Pu
