import Derived.Test.YtmjhbdmicejppaaZrTl
import Derived.Test.YtmjhbdmicejppaaZrPx0
import Derived.Test.YtmjhbdmicejppaaZrPx1
import Derived.Test.YtmjhbdmicejppaaZrPx2
import Derived.Test.YtmjhbdmicejppaaZrPx6
import Derived.Test.YtmjhbdmicejppaaZrPx9
import Derived.Test.YtmjhbdmicejppaaZrPx8
namespace Go.Proofs.Ytmjhbdmicejppaa.Pu
open Go.RowKit Go.Proofs.Ytmjhbdmicejppaa.Px Go.Proofs.YtmjhbdmicejppaaW.PrintWords Go.Proofs.YtmjhbdmicejppaaW.PrintLast Go.Proofs.YtmjhbdmicejppaaW.PrintMore
set_option linter.unusedVariables false
theorem lp_nd {t : List Int} {a : Int} {c : List S69} {w : List S74} (h : lpOk t a c w = true) : (t.filter (fun x => !decide (x = 0))).Nodup :=
  (List.nodup_append.1 (lp_bags h).2).1
end Go.Proofs.Ytmjhbdmicejppaa.Pu
