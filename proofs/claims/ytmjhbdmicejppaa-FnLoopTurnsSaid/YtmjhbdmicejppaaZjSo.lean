import Derived.Test.YtmjhbdmicejppaaZjSt
import Derived.Test.YtmjhbdmicejppaaZjPx0
import Derived.Test.YtmjhbdmicejppaaZjPx1
import Derived.Test.YtmjhbdmicejppaaZjPx2
import Derived.Test.YtmjhbdmicejppaaZjPx6
import Derived.Test.YtmjhbdmicejppaaZjPx8
import Derived.Test.YtmjhbdmicejppaaZjPx3
namespace Go.Proofs.Ytmjhbdmicejppaa.Pu
open Go.RowKit Go.Proofs.Ytmjhbdmicejppaa.Px Go.Proofs.YtmjhbdmicejppaaW.PrintWords Go.Proofs.YtmjhbdmicejppaaW.PrintLast Go.Proofs.YtmjhbdmicejppaaW.PrintMore
set_option linter.unusedVariables false
theorem lp_Vl {t : List Int} {a : Int} {c : List S69} {w : List S74} (h : lpOk t a c w = true) (hwb : ∀ x ∈ w, x.f1.length ≤ 1048576) : Vl t.length t a c w := by
  simp only [lpOk, szOk, Bool.and_eq_true, decide_eq_true_eq] at h
  obtain ⟨⟨⟨⟨⟨⟨h1, h2⟩, h3⟩, h4⟩, hc⟩, hw⟩, h5, h6, h7⟩ := h
  refine ⟨rfl, h1, h2, h3, by omega, hc, fun x hx => ?_, hw, hwb⟩
  obtain ⟨j, hj, rfl⟩ := List.mem_iff_getElem.1 hx
  have h8 := (allF_iff _ _ _).1 h5 j (by omega) (by omega)
  have e : c.getD j z69 = c[j] := by simp [hj]
  simp only [chF, chOk, e, Bool.and_eq_true, decide_eq_true_eq] at h8
  omega
theorem lp_bags {t : List Int} {a : Int} {c : List S69} {w : List S74} (h : lpOk t a c w = true) : (∀ x ∈ bagsL t c, 1 ≤ x) ∧ (bagsL t c).Nodup := by
  simp only [lpOk, Bool.and_eq_true] at h
  have h2 := h.2.2.1
  rw [bg_eq, Bool.and_eq_true, List.all_eq_true, decide_eq_true_eq] at h2
  exact ⟨fun x hx => by simpa using h2.1 x hx, h2.2⟩
end Go.Proofs.Ytmjhbdmicejppaa.Pu
