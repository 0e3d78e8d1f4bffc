import Derived.Test.YtmonbofhfaaflaaProg
import Derived.Below
import Derived.Deep.Draws
import Derived.Deep.AppendLies
import Derived.Maps.AppendAt
import Derived.OwnWalk
import Derived.Laws.BytesArg
import Derived.Laws.MakeOwn
import Derived.Laws.OwnMore
import Derived.Deep.OwnRows
import Derived.Tactics
import Derived.Lib.ConvBytes
import Derived.Laws.Slices
import Derived.WalkKit
import Derived.KernelRfl
import Derived.RowKit3
import Derived.Deep.LoopGhost
import Derived.Deep.QuietTactic
import Derived.BigQuiet
import Derived.WideLaws
import Derived.Deep.DeepCutAuto
import Derived.Deep.CutBlock
import Derived.Deep.RegionHeld3
import Derived.Laws.Rows
import Derived.Lib.AppendStr
import Derived.ArgAppend
import Derived.Laws.IdiomCopy
import Derived.OrdersHeld
import Derived.Laws.BitsLemmas
import Derived.RowKit
import Derived.Shelf.Abstract
import Derived.Test.YtmonbofhfaaflaaZeWWords
import Derived.Test.YtmonbofhfaaflaaZeWLast
import Derived.Test.YtmonbofhfaaflaaZeWTab
import Derived.Test.YtmonbofhfaaflaaZeWFour
import Derived.Test.YtmonbofhfaaflaaZeWQPut
import Derived.Test.YtmonbofhfaaflaaZeWApart
import Derived.Test.YtmonbofhfaaflaaZeWArr
import Derived.Test.YtmonbofhfaaflaaZeWZeros
import Derived.Test.YtmonbofhfaaflaaZeWFoot
import Derived.Test.YtmonbofhfaaflaaZeWKept
import Derived.Test.YtmonbofhfaaflaaZeWShare
import Derived.Test.YtmonbofhfaaflaaZeWN
import Derived.Test.YtmonbofhfaaflaaZeWFootNe
import Derived.Test.YtmonbofhfaaflaaZeWAt
import Derived.Test.YtmonbofhfaaflaaZeWEqStruct
import Derived.Test.YtmonbofhfaaflaaZeWRepsOne
import Derived.Test.YtmonbofhfaaflaaZeWInv
import Derived.Test.YtmonbofhfaaflaaZeWInvWords
import Derived.Test.YtmonbofhfaaflaaZeWGuard
import Derived.Test.YtmonbofhfaaflaaZeWNEv
import Derived.Test.YtmonbofhfaaflaaZeWMore
import Derived.Test.YtmonbofhfaaflaaZeOpens
namespace Go.Proofs.Ytmonbofhfaaflaa.Px
open Go.RowKit Go.Proofs.YtmonbofhfaaflaaW.PrintWords Go.Proofs.YtmonbofhfaaflaaW.PrintLast Go.Proofs.YtmonbofhfaaflaaW.PrintMore
attribute [local go_sem] max2_int min2_int max_two min_two max_three min_three max_four min_four   -- for this text's walks alone
set_option linter.unusedVariables false
set_option linter.unusedSimpArgs false

def errW : Option Int → Value
 | none => .nilIface
 | some c => .iface 0 (.int .i64 c)
theorem errW_none : errW none = .nilIface := rfl
theorem errW_some (c : Int) : errW (some c) = .iface 0 (.int .i64 c) := rfl

theorem info3 : (Try.prog.info? 3).map (fun i => (i.zero, i.size, i.bytes)) = some (some (.int .i64 0), 1, 8) := by kernel_rfl
structure S37 where
 f0 : Int
 f1 : Int
 f2 : Int
def k37 : Kd S37 := Kd.iso (Kd.pair (Kd.int .i64) (Kd.pair (Kd.int .i64) (Kd.int .i64))) (fun x : S37 => (x.f0, x.f1, x.f2))
theorem k37_open {w : World} {x : S37} {cs : List Value} (h : k37.K w x cs) : cs = [.int .i64 x.f0, .int .i64 x.f1, .int .i64 x.f2] := by
 obtain ⟨_, _, rfl, rfl, ⟨_, _, rfl, rfl, rfl⟩⟩ := h
 exact rfl
structure S50 where
 f0 : (List Int)
def k50 : Kd S50 := Kd.iso (Kd.slice 3 (Kd.int .i64)) (fun x : S50 => x.f0)
theorem k50_open {w : World} {x : S50} {cs : List Value} (h : k50.K w x cs) : ∃ A0 c0, cs = [.slice A0 x.f0.length c0] ∧ x.f0.length ≤ c0 ∧ (Kd.int .i64).C w A0 x.f0.length x.f0 := by
 obtain ⟨A0, c0, rfl, l0, g0⟩ := h
 exact ⟨A0, c0, rfl, l0, g0⟩
end Go.Proofs.Ytmonbofhfaaflaa.Px
