import Derived.Test.YtmjhbdmicejppaaZiSt
import Derived.Test.YtmjhbdmicejppaaZiPx0
import Derived.Test.YtmjhbdmicejppaaZiPx1
import Derived.Test.YtmjhbdmicejppaaZiPx2
import Derived.Test.YtmjhbdmicejppaaZiPx6
import Derived.Test.YtmjhbdmicejppaaZiPx3
import Derived.Test.YtmjhbdmicejppaaZiPx4
import Derived.Test.YtmjhbdmicejppaaZiPx5
import Derived.Test.YtmjhbdmicejppaaZiPx12
namespace Go.Proofs.Ytmjhbdmicejppaa.Pu
open Go.RowKit Go.Proofs.Ytmjhbdmicejppaa.Px Go.Proofs.YtmjhbdmicejppaaW.PrintWords Go.Proofs.YtmjhbdmicejppaaW.PrintLast Go.Proofs.YtmjhbdmicejppaaW.PrintMore
set_option linter.unusedVariables false
theorem lp_Vl {t : List Int} {a : Int} {c : List S69} {w : List S74} (h : lpOk t a c w = true) (hwb : ∀ x ∈ w, x.f1.length ≤ 1048576) : Vl t.length t a c w := by
  simp only [lpOk, szOk, Bool.and_eq_true, decide_eq_true_eq] at h
  obtain ⟨⟨⟨⟨⟨⟨h1, h2⟩, h3⟩, h4⟩, hc⟩, hw⟩, h5, h6, h7⟩ := h
  refine ⟨rfl, h1, h2, h3, by omega, hc, fun x hx => ?_, hw, hwb⟩
  obtain ⟨j, hj, rfl⟩ := List.mem_iff_getElem.1 hx
  have h8 := (allF_iff _ _ _).1 h5 j (by omega) (by omega)
  have e : c.getD j z69 = c[j] := by simp [hj]
  simp only [chF, chOk, e, Bool.and_eq_true, decide_eq_true_eq] at h8
  omega
theorem tray_at {n : Nat} {tr : List Int} {T : Int} {ch : List S69} {wa : List S74} (h : Vl n tr T ch wa) {x : Int} (x0 : 0 ≤ x) (x1 : x < n) : 0 ≤ trayV tr T x ∧ trayV tr T x < n := by
  have h1 := h.len
  have h2 := h.n2
  have h3 := h.n60
  have h4 := h.t0
  have h5 := h.t1
  unfold trayV
  rw [h1, wrap_in (x := x - T) (by omega) (by omega), wrap_in (by omega) (by omega), Int.tmod_eq_emod_of_nonneg (by omega)]
  exact ⟨Int.emod_nonneg _ (by omega), Int.emod_lt_of_pos _ (by omega)⟩
end Go.Proofs.Ytmjhbdmicejppaa.Pu
