import Derived.Test.YtmjhbdmicejppaaZgMk
import Derived.Test.YtmjhbdmicejppaaZgTl
namespace Go.Proofs.Ytmjhbdmicejppaa.Pu
open Go.RowKit Go.Proofs.Ytmjhbdmicejppaa.Px Go.Proofs.YtmjhbdmicejppaaW.PrintWords Go.Proofs.YtmjhbdmicejppaaW.PrintLast Go.Proofs.YtmjhbdmicejppaaW.PrintMore
set_option linter.unusedVariables false
theorem wC_le : ∀ cs : List S69, (∀ x ∈ cs, x.f2.length ≤ 1048576) → wC cs ≤ cs.length * 1048578
  | [], _ => Nat.zero_le _
  | c :: cs, h => by
    have h1 := wC_le cs (fun x hx => h x (List.mem_cons_of_mem _ hx))
    have h2 := h c List.mem_cons_self
    rw [wC_cons, List.length_cons, Nat.succ_mul]
    omega
theorem wW_le : ∀ cs : List S74, (∀ x ∈ cs, x.f1.length ≤ 1048576) → wW cs ≤ cs.length * 1048577
  | [], _ => Nat.zero_le _
  | c :: cs, h => by
    have h1 := wW_le cs (fun x hx => h x (List.mem_cons_of_mem _ hx))
    have h2 := h c List.mem_cons_self
    rw [wW_cons, List.length_cons, Nat.succ_mul]
    omega
theorem wL_le {t : List Int} {c : List S69} {w : List S74} (ht : t.length ≤ 1048576) (hc : c.length ≤ 1048576) (hcb : ∀ x ∈ c, x.f2.length ≤ 1048576) (hw : w.length ≤ 1048576) (hwb : ∀ x ∈ w, x.f1.length ≤ 1048576) : wL t c w ≤ 4611686018427387900 := by
  have h1 := wC_le c hcb
  have h2 := wW_le w hwb
  have h3 : c.length * 1048578 ≤ 1048576 * 1048578 := Nat.mul_le_mul_right _ hc
  have h4 : w.length * 1048577 ≤ 1048576 * 1048577 := Nat.mul_le_mul_right _ hw
  unfold wL
  omega
end Go.Proofs.Ytmjhbdmicejppaa.Pu
