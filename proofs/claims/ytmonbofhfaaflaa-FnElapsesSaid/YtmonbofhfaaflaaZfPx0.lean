import Derived.Test.YtmonbofhfaaflaaProg
import Derived.Below
import Derived.Deep.Draws
import Derived.Deep.AppendLies
import Derived.Maps.AppendAt
import Derived.OwnWalk
import Derived.Laws.BytesArg
import Derived.Laws.MakeOwn
import Derived.Laws.OwnMore
import Derived.Deep.OwnRows
import Derived.Tactics
import Derived.Lib.ConvBytes
import Derived.Laws.Slices
import Derived.WalkKit
import Derived.KernelRfl
import Derived.RowKit3
import Derived.Deep.LoopGhost
import Derived.Deep.QuietTactic
import Derived.BigQuiet
import Derived.WideLaws
import Derived.Deep.DeepCutAuto
import Derived.Deep.CutBlock
import Derived.Deep.RegionHeld3
import Derived.Laws.Rows
import Derived.Lib.AppendStr
import Derived.ArgAppend
import Derived.Laws.IdiomCopy
import Derived.OrdersHeld
import Derived.Laws.BitsLemmas
import Derived.RowKit
import Derived.Shelf.Abstract
import Derived.Test.YtmonbofhfaaflaaZfWWords
import Derived.Test.YtmonbofhfaaflaaZfWLast
import Derived.Test.YtmonbofhfaaflaaZfWTab
import Derived.Test.YtmonbofhfaaflaaZfWFour
import Derived.Test.YtmonbofhfaaflaaZfWQPut
import Derived.Test.YtmonbofhfaaflaaZfWApart
import Derived.Test.YtmonbofhfaaflaaZfWArr
import Derived.Test.YtmonbofhfaaflaaZfWZeros
import Derived.Test.YtmonbofhfaaflaaZfWFoot
import Derived.Test.YtmonbofhfaaflaaZfWKept
import Derived.Test.YtmonbofhfaaflaaZfWShare
import Derived.Test.YtmonbofhfaaflaaZfWN
import Derived.Test.YtmonbofhfaaflaaZfWFootNe
import Derived.Test.YtmonbofhfaaflaaZfWAt
import Derived.Test.YtmonbofhfaaflaaZfWEqStruct
import Derived.Test.YtmonbofhfaaflaaZfWRepsOne
import Derived.Test.YtmonbofhfaaflaaZfWInv
import Derived.Test.YtmonbofhfaaflaaZfWInvWords
import Derived.Test.YtmonbofhfaaflaaZfWGuard
import Derived.Test.YtmonbofhfaaflaaZfWNEv
import Derived.Test.YtmonbofhfaaflaaZfWMore
import Derived.Test.YtmonbofhfaaflaaZfOpens
namespace Go.Proofs.Ytmonbofhfaaflaa.Px
open Go.RowKit Go.Proofs.YtmonbofhfaaflaaW.PrintWords Go.Proofs.YtmonbofhfaaflaaW.PrintLast Go.Proofs.YtmonbofhfaaflaaW.PrintMore
attribute [local go_sem] max2_int min2_int max_two min_two max_three min_three max_four min_four   -- for this text's walks alone
set_option linter.unusedVariables false
set_option linter.unusedSimpArgs false

def errW : Option Int → Value
 | none => .nilIface
 | some c => .iface 0 (.int .i64 c)
theorem errW_none : errW none = .nilIface := rfl
theorem errW_some (c : Int) : errW (some c) = .iface 0 (.int .i64 c) := rfl

theorem info3 : (Try.prog.info? 3).map (fun i => (i.zero, i.size, i.bytes)) = some (some (.int .i64 0), 1, 8) := by kernel_rfl
end Go.Proofs.Ytmonbofhfaaflaa.Px
