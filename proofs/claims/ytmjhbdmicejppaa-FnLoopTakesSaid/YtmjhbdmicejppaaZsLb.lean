import Derived.Test.YtmjhbdmicejppaaZsBa
import Derived.Test.YtmjhbdmicejppaaZsPx0
namespace Go.Proofs.Ytmjhbdmicejppaa.Pu
open Go.RowKit Go.Proofs.Ytmjhbdmicejppaa.Px Go.Proofs.YtmjhbdmicejppaaW.PrintWords Go.Proofs.YtmjhbdmicejppaaW.PrintLast
set_option linter.unusedVariables false
theorem rd69_nat (l : List S69) (i : Nat) (h : i < l.length) : rd_T69 l (i : Int) = l[i] := by simp [rd_T69, h]
theorem rd74_nat (l : List S74) (i : Nat) (h : i < l.length) : rd_T74 l (i : Int) = l[i] := by simp [rd_T74, h]
end Go.Proofs.Ytmjhbdmicejppaa.Pu
