import Derived.Test.YtdmbfmfdijgdkaaZvAs
import Derived.Test.YtdmbfmfdijgdkaaZvPx10
import Derived.Test.YtdmbfmfdijgdkaaZvPx16
import Derived.Test.YtdmbfmfdijgdkaaZvPx0
import Derived.Test.YtdmbfmfdijgdkaaZvPx6
import Derived.Test.YtdmbfmfdijgdkaaZvPx7
import Derived.Test.YtdmbfmfdijgdkaaZvPx26
namespace Go.Proofs.Ytdmbfmfdijgdkaa.Pu
open Go.RowKit Go.Proofs.Ytdmbfmfdijgdkaa.Px Go.Proofs.YtdmbfmfdijgdkaaW.PrintWords Go.Proofs.YtdmbfmfdijgdkaaW.PrintLast Go.Proofs.YtdmbfmfdijgdkaaW.PrintMore
set_option linter.unusedVariables false
theorem sameI_l (l : List Int) (hn : l.length ≤ 1000) : ∀ (d i : Nat), i + d = l.length → Ev (fun k => laws_sameInts.l0 k l l (i : Int)) true := by
  intro d
  induction d with
  | zero =>
    intro i hi
    refine Ev.step (f := fun _ => some true) (fun k => ?_) (Ev.now _)
    simp only [laws_sameInts.l0]
    rw [if_neg (by omega)]
  | succ d ih =>
    intro i hi
    refine Ev.step (f := fun k => laws_sameInts.l0 k l l ((i + 1 : Nat) : Int)) (fun k => ?_) (ih (i + 1) (by omega))
    simp only [laws_sameInts.l0]
    rw [if_pos (by omega), if_pos (by omega), if_pos (by omega), wrap_in (by omega) (by omega)]
    simp
theorem sameI_ev (l : List Int) (hn : l.length ≤ 1000) : Ev (fun k => laws_sameInts.f k l l) true := by
  refine Ev.congr (f := fun k => laws_sameInts.l0 k l l ((0 : Nat) : Int)) (fun k => ?_) (sameI_l l hn l.length 0 (by omega))
  simp only [laws_sameInts.f]
  simp
end Go.Proofs.Ytdmbfmfdijgdkaa.Pu
