import Derived.Test.YtmjhbdmicejppaaZgCp
import Derived.Test.YtmjhbdmicejppaaZgPx0
import Derived.Test.YtmjhbdmicejppaaZgPx7
import Derived.Test.YtmjhbdmicejppaaZgPx1
import Derived.Test.YtmjhbdmicejppaaZgPx5
import Derived.Test.YtmjhbdmicejppaaZgPx2
import Derived.Test.YtmjhbdmicejppaaZgPx3
import Derived.Test.YtmjhbdmicejppaaZgPx4
namespace Go.Proofs.Ytmjhbdmicejppaa.Pu
open Go.RowKit Go.Proofs.Ytmjhbdmicejppaa.Px Go.Proofs.YtmjhbdmicejppaaW.PrintWords Go.Proofs.YtmjhbdmicejppaaW.PrintLast Go.Proofs.YtmjhbdmicejppaaW.PrintMore
set_option linter.unusedVariables false
def Sub (e l : List Int) : Prop := e.length = l.length ∧ ∀ j, e.getD j 0 = l.getD j 0 ∨ e.getD j 0 = 0
theorem Sub.refl (l : List Int) : Sub l l := ⟨rfl, fun _ => .inl rfl⟩
theorem Sub.trans {a b c : List Int} (h : Sub a b) (k : Sub b c) : Sub a c := ⟨h.1.trans k.1, fun j => by
  rcases h.2 j with e | e
  · rcases k.2 j with f | f
    · exact .inl (e.trans f)
    · exact .inr (e.trans f)
  · exact .inr e⟩
end Go.Proofs.Ytmjhbdmicejppaa.Pu
