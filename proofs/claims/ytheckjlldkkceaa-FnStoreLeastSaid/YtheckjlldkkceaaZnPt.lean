import Derived.Test.YtheckjlldkkceaaZnHp
import Derived.Test.YtheckjlldkkceaaZnSb
import Derived.Test.YtheckjlldkkceaaZnPx0
import Derived.Test.YtheckjlldkkceaaZnPx3
import Derived.Test.YtheckjlldkkceaaZnPx4
import Derived.Test.YtheckjlldkkceaaZnPx8
import Derived.Test.YtheckjlldkkceaaZnPx11
import Derived.Test.YtheckjlldkkceaaZnPx7
namespace Go.Proofs.Ytheckjlldkkceaa.Pu
open Go.RowKit Go.Proofs.Ytheckjlldkkceaa.Px Go.Proofs.YtheckjlldkkceaaW.PrintWords Go.Proofs.YtheckjlldkkceaaW.PrintLast Go.Proofs.YtheckjlldkkceaaW.PrintMore
set_option linter.unusedVariables false
theorem flat_set_len (l : List (List S30)) (i : Nat) (m : List S30) (hi : i < l.length) : (l.set i m).flatten.length + l[i].length = l.flatten.length + m.length := by
  have e1 : l = l.take i ++ l[i] :: l.drop (i + 1) := by rw [← List.drop_eq_getElem_cons hi, List.take_append_drop]
  have e2 : l.set i m = l.take i ++ m :: l.drop (i + 1) := by rw [List.set_eq_take_append_cons_drop, if_pos hi]
  rw [e2]
  have e3 := congrArg (fun z => z.flatten.length) e1
  simp only [List.flatten_append, List.flatten_cons, List.length_append] at e3 ⊢
  omega
end Go.Proofs.Ytheckjlldkkceaa.Pu
