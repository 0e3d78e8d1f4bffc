/-
  No cell of these rows narrows 'for every input' (looked for: loops, veiled, ifaces, maps, wideKeys, modest, calm, conditions, laid).
  DERIVED. THE GIVEN ROWS OF THIS SEAT. 10 by the template 'for every input the law returns true; each argument reads behind the call as it read before'; 0 by the template 'total and deterministic' (their statements: YtmonbofhfaaflaaTotals.lean).
  GIVEN WITH THE SEED: the statements are not yours to turn. If you find one false, say at which input.
  Laid BY PROGRAM, IN A SANDBOX (cutbox-rows.mjs): the forced cells as the released guide's own fill.sh prints them over the translation 0ba2daae1b586945… (all of the seat's roots in one cut). By AI agents, Wed Nov 11 2026. No macro, syntax, notation, axiom, sorry.
-/
import Derived.Test.YtmonbofhfaaflaaChecked
import GoSem.Claim
import GoSem.ClaimJoined
import GoSem.ClaimMapViews
import Derived.JoinedTies
import Derived.KernelRfl
namespace Go.Proofs.Ytmonbofhfaaflaa
/- THE CELL 'sum', in the pinned program and in every row, IS THE sha256 OF THE DUMP (.gsa) THAT YtmonbofhfaaflaaProg.lean LOADS. Nothing in Lean hashes anything: it is a label: what it is worth is what the hold of that sum in a sandbox is worth. -/
noncomputable def Try.pinned : Pinned := { name := "ytmonbofhfaaflaa", sum := "0ba2daae1b586945bd64d5743f1d1d0e1b89aa0073456b5bcabb1f97bf5d7038", checked := Try.checked }
namespace Rows
def none {H : Type} : Left H := { results := [], args := [] }

/-- 'laws.FnExactLimitsOk': WHATEVER THE INPUT: true; the input reads as it did. -/
def fnExactLimitsOkSpec : ChangeSpec := { name := "fnExactLimitsOk", fn := fun _ => fun
  | [d] => { results := [.lit (.bool true)], args := [d] }
  | _ => none }
def fnExactLimitsOkRow : OpenClaim := { program := "ytmonbofhfaaflaa", sum := "0ba2daae1b586945bd64d5743f1d1d0e1b89aa0073456b5bcabb1f97bf5d7038", func := "loop.example/g03319/laws.FnExactLimitsOk", spec := "fnExactLimitsOk", apart := false }
def FnExactLimitsOkSaid : Prop := fnExactLimitsOkRow.holds Try.pinned (OpenSpec.ofChange fnExactLimitsOkSpec)

/-- ITS FALSE NEIGHBOUR: 'it returns false'. Refute it at one input. -/
def fnExactLimitsOkWrong : ChangeSpec := { name := "fnExactLimitsOk", fn := fun _ => fun
  | [d] => { results := [.lit (.bool false)], args := [d] }
  | _ => none }
def FnExactLimitsOkWrongFalsely : Prop := fnExactLimitsOkRow.holds Try.pinned (OpenSpec.ofChange fnExactLimitsOkWrong)

/-- 'laws.FnExactSideDifference': WHATEVER THE INPUT: true; the input reads as it did. -/
def fnExactSideDifferenceSpec : ChangeSpec := { name := "fnExactSideDifference", fn := fun _ => fun
  | [d1, d2] => { results := [.lit (.bool true)], args := [d1, d2] }
  | _ => none }
def fnExactSideDifferenceRow : OpenClaim := { program := "ytmonbofhfaaflaa", sum := "0ba2daae1b586945bd64d5743f1d1d0e1b89aa0073456b5bcabb1f97bf5d7038", func := "loop.example/g03319/laws.FnExactSideDifference", spec := "fnExactSideDifference", unfollowed := true, recurses := true, apart := false }
def FnExactSideDifferenceSaid : Prop := fnExactSideDifferenceRow.holds Try.pinned (OpenSpec.ofChange fnExactSideDifferenceSpec)

/-- ITS FALSE NEIGHBOUR: 'it returns false'. Refute it at one input. -/
def fnExactSideDifferenceWrong : ChangeSpec := { name := "fnExactSideDifference", fn := fun _ => fun
  | [d1, d2] => { results := [.lit (.bool false)], args := [d1, d2] }
  | _ => none }
def FnExactSideDifferenceWrongFalsely : Prop := fnExactSideDifferenceRow.holds Try.pinned (OpenSpec.ofChange fnExactSideDifferenceWrong)

/-- 'laws.FnExactScreenOk': WHATEVER THE INPUT: true; the input reads as it did. -/
def fnExactScreenOkSpec : ChangeSpec := { name := "fnExactScreenOk", fn := fun _ => fun
  | [d] => { results := [.lit (.bool true)], args := [d] }
  | _ => none }
def fnExactScreenOkRow : OpenClaim := { program := "ytmonbofhfaaflaa", sum := "0ba2daae1b586945bd64d5743f1d1d0e1b89aa0073456b5bcabb1f97bf5d7038", func := "loop.example/g03319/laws.FnExactScreenOk", spec := "fnExactScreenOk", apart := false }
def FnExactScreenOkSaid : Prop := fnExactScreenOkRow.holds Try.pinned (OpenSpec.ofChange fnExactScreenOkSpec)

/-- ITS FALSE NEIGHBOUR: 'it returns false'. Refute it at one input. -/
def fnExactScreenOkWrong : ChangeSpec := { name := "fnExactScreenOk", fn := fun _ => fun
  | [d] => { results := [.lit (.bool false)], args := [d] }
  | _ => none }
def FnExactScreenOkWrongFalsely : Prop := fnExactScreenOkRow.holds Try.pinned (OpenSpec.ofChange fnExactScreenOkWrong)

/-- 'laws.FnExactImagesOk': WHATEVER THE INPUT: true; the input reads as it did. -/
def fnExactImagesOkSpec : ChangeSpec := { name := "fnExactImagesOk", fn := fun _ => fun
  | [d] => { results := [.lit (.bool true)], args := [d] }
  | _ => none }
def fnExactImagesOkRow : OpenClaim := { program := "ytmonbofhfaaflaa", sum := "0ba2daae1b586945bd64d5743f1d1d0e1b89aa0073456b5bcabb1f97bf5d7038", func := "loop.example/g03319/laws.FnExactImagesOk", spec := "fnExactImagesOk", apart := false }
def FnExactImagesOkSaid : Prop := fnExactImagesOkRow.holds Try.pinned (OpenSpec.ofChange fnExactImagesOkSpec)

/-- ITS FALSE NEIGHBOUR: 'it returns false'. Refute it at one input. -/
def fnExactImagesOkWrong : ChangeSpec := { name := "fnExactImagesOk", fn := fun _ => fun
  | [d] => { results := [.lit (.bool false)], args := [d] }
  | _ => none }
def FnExactImagesOkWrongFalsely : Prop := fnExactImagesOkRow.holds Try.pinned (OpenSpec.ofChange fnExactImagesOkWrong)

/-- 'laws.FnExactPolicyOk': WHATEVER THE INPUT: true; the input reads as it did. -/
def fnExactPolicyOkSpec : ChangeSpec := { name := "fnExactPolicyOk", fn := fun _ => fun
  | [d] => { results := [.lit (.bool true)], args := [d] }
  | _ => none }
def fnExactPolicyOkRow : OpenClaim := { program := "ytmonbofhfaaflaa", sum := "0ba2daae1b586945bd64d5743f1d1d0e1b89aa0073456b5bcabb1f97bf5d7038", func := "loop.example/g03319/laws.FnExactPolicyOk", spec := "fnExactPolicyOk", unfollowed := true, recurses := true, apart := false }
def FnExactPolicyOkSaid : Prop := fnExactPolicyOkRow.holds Try.pinned (OpenSpec.ofChange fnExactPolicyOkSpec)

/-- ITS FALSE NEIGHBOUR: 'it returns false'. Refute it at one input. -/
def fnExactPolicyOkWrong : ChangeSpec := { name := "fnExactPolicyOk", fn := fun _ => fun
  | [d] => { results := [.lit (.bool false)], args := [d] }
  | _ => none }
def FnExactPolicyOkWrongFalsely : Prop := fnExactPolicyOkRow.holds Try.pinned (OpenSpec.ofChange fnExactPolicyOkWrong)

/-- 'laws.FnExactElapse': WHATEVER THE INPUT: true; the input reads as it did. -/
def fnExactElapseSpec : ChangeSpec := { name := "fnExactElapse", fn := fun _ => fun
  | [d1, d2, d3] => { results := [.lit (.bool true)], args := [d1, d2, d3] }
  | _ => none }
def fnExactElapseRow : OpenClaim := { program := "ytmonbofhfaaflaa", sum := "0ba2daae1b586945bd64d5743f1d1d0e1b89aa0073456b5bcabb1f97bf5d7038", func := "loop.example/g03319/laws.FnExactElapse", spec := "fnExactElapse", unfollowed := true, recurses := true, apart := false }
def FnExactElapseSaid : Prop := fnExactElapseRow.holds Try.pinned (OpenSpec.ofChange fnExactElapseSpec)

/-- ITS FALSE NEIGHBOUR: 'it returns false'. Refute it at one input. -/
def fnExactElapseWrong : ChangeSpec := { name := "fnExactElapse", fn := fun _ => fun
  | [d1, d2, d3] => { results := [.lit (.bool false)], args := [d1, d2, d3] }
  | _ => none }
def FnExactElapseWrongFalsely : Prop := fnExactElapseRow.holds Try.pinned (OpenSpec.ofChange fnExactElapseWrong)

/-- 'laws.FnExactHandTime': WHATEVER THE INPUT: true; the input reads as it did. -/
def fnExactHandTimeSpec : ChangeSpec := { name := "fnExactHandTime", fn := fun _ => fun
  | [d1, d2] => { results := [.lit (.bool true)], args := [d1, d2] }
  | _ => none }
def fnExactHandTimeRow : OpenClaim := { program := "ytmonbofhfaaflaa", sum := "0ba2daae1b586945bd64d5743f1d1d0e1b89aa0073456b5bcabb1f97bf5d7038", func := "loop.example/g03319/laws.FnExactHandTime", spec := "fnExactHandTime", unfollowed := true, recurses := true, apart := false }
def FnExactHandTimeSaid : Prop := fnExactHandTimeRow.holds Try.pinned (OpenSpec.ofChange fnExactHandTimeSpec)

/-- ITS FALSE NEIGHBOUR: 'it returns false'. Refute it at one input. -/
def fnExactHandTimeWrong : ChangeSpec := { name := "fnExactHandTime", fn := fun _ => fun
  | [d1, d2] => { results := [.lit (.bool false)], args := [d1, d2] }
  | _ => none }
def FnExactHandTimeWrongFalsely : Prop := fnExactHandTimeRow.holds Try.pinned (OpenSpec.ofChange fnExactHandTimeWrong)

/-- 'laws.FnExactDecide': WHATEVER THE INPUT: true; the input reads as it did. -/
def fnExactDecideSpec : ChangeSpec := { name := "fnExactDecide", fn := fun _ => fun
  | [d1, d2, d3, d4] => { results := [.lit (.bool true)], args := [d1, d2, d3, d4] }
  | _ => none }
def fnExactDecideRow : OpenClaim := { program := "ytmonbofhfaaflaa", sum := "0ba2daae1b586945bd64d5743f1d1d0e1b89aa0073456b5bcabb1f97bf5d7038", func := "loop.example/g03319/laws.FnExactDecide", spec := "fnExactDecide", unfollowed := true, recurses := true, apart := false }
def FnExactDecideSaid : Prop := fnExactDecideRow.holds Try.pinned (OpenSpec.ofChange fnExactDecideSpec)

/-- ITS FALSE NEIGHBOUR: 'it returns false'. Refute it at one input. -/
def fnExactDecideWrong : ChangeSpec := { name := "fnExactDecide", fn := fun _ => fun
  | [d1, d2, d3, d4] => { results := [.lit (.bool false)], args := [d1, d2, d3, d4] }
  | _ => none }
def FnExactDecideWrongFalsely : Prop := fnExactDecideRow.holds Try.pinned (OpenSpec.ofChange fnExactDecideWrong)

/-- 'laws.FnElapses': WHATEVER THE INPUT: true; the input reads as it did. -/
def fnElapsesSpec : ChangeSpec := { name := "fnElapses", fn := fun _ => fun
  | [d] => { results := [.lit (.bool true)], args := [d] }
  | _ => none }
def fnElapsesRow : OpenClaim := { program := "ytmonbofhfaaflaa", sum := "0ba2daae1b586945bd64d5743f1d1d0e1b89aa0073456b5bcabb1f97bf5d7038", func := "loop.example/g03319/laws.FnElapses", spec := "fnElapses", unfollowed := true, recurses := true, apart := false }
def FnElapsesSaid : Prop := fnElapsesRow.holds Try.pinned (OpenSpec.ofChange fnElapsesSpec)

/-- ITS FALSE NEIGHBOUR: 'it returns false'. Refute it at one input. -/
def fnElapsesWrong : ChangeSpec := { name := "fnElapses", fn := fun _ => fun
  | [d] => { results := [.lit (.bool false)], args := [d] }
  | _ => none }
def FnElapsesWrongFalsely : Prop := fnElapsesRow.holds Try.pinned (OpenSpec.ofChange fnElapsesWrong)

/-- 'laws.FnDecides': WHATEVER THE INPUT: true; the input reads as it did. -/
def fnDecidesSpec : ChangeSpec := { name := "fnDecides", fn := fun _ => fun
  | [d] => { results := [.lit (.bool true)], args := [d] }
  | _ => none }
def fnDecidesRow : OpenClaim := { program := "ytmonbofhfaaflaa", sum := "0ba2daae1b586945bd64d5743f1d1d0e1b89aa0073456b5bcabb1f97bf5d7038", func := "loop.example/g03319/laws.FnDecides", spec := "fnDecides", unfollowed := true, recurses := true, apart := false }
def FnDecidesSaid : Prop := fnDecidesRow.holds Try.pinned (OpenSpec.ofChange fnDecidesSpec)

/-- ITS FALSE NEIGHBOUR: 'it returns false'. Refute it at one input. -/
def fnDecidesWrong : ChangeSpec := { name := "fnDecides", fn := fun _ => fun
  | [d] => { results := [.lit (.bool false)], args := [d] }
  | _ => none }
def FnDecidesWrongFalsely : Prop := fnDecidesRow.holds Try.pinned (OpenSpec.ofChange fnDecidesWrong)

/- THE SECOND FORM. 'bulk': how many values and letters a reading holds, each counted each time it is reached (what is shared counts as often as it is met; a slice's spare places count too). A statement '..UptoSaid' is the law's where the arguments, and the package variables that the reading takes, are together of bulk at most 1048576: NARROWER than '..Said'. Prove '..Said' where nothing that the law and all that it calls make is longer than what came in: it says more and counts as full. Else prove '..UptoSaid'. A law counts once. -/
mutual
def uptoBulk {H : Type} : DataW H → Nat
  | .lit (.string bytes) => bytes.length + 1
  | .lit _ => 1
  | .nil => 1
  | .ptr d => uptoBulk d + 1
  | .slice elems spare => uptoBulkAll elems + uptoBulkAll spare + 1
  | .agg parts => uptoBulkAll parts + 1
  | .iface _ d => uptoBulk d + 1
  | .map entries => uptoBulkEntries entries + 1
  | .held _ => 1
def uptoBulkAll {H : Type} : List (DataW H) → Nat
  | [] => 0
  | d :: r => uptoBulk d + uptoBulkAll r
def uptoBulkEntries {H : Type} : List (Lit × DataW H) → Nat
  | [] => 0
  | x :: r => uptoBulkEntry x + uptoBulkEntries r
def uptoBulkEntry {H : Type} : Lit × DataW H → Nat
  | (.string bytes, d) => bytes.length + uptoBulk d + 1
  | (_, d) => uptoBulk d + 1
 end
def uptoSmall : (H : Type) → List (DataW H) → Bool := fun _ ds => decide (uptoBulkAll ds ≤ 1048576)
def OpenSpec.upto (s : _root_.Go.ChangeSpec) : _root_.Go.OpenSpec := { _root_.Go.OpenSpec.ofChange s with cond := some uptoSmall }

/-- 'laws.FnExactLimitsOk', WHERE WHAT IT READS IS OF BULK AT MOST 1048576: true; the input reads as it did. -/
def fnExactLimitsOkUptoRow : OpenClaim := { program := "ytmonbofhfaaflaa", sum := "0ba2daae1b586945bd64d5743f1d1d0e1b89aa0073456b5bcabb1f97bf5d7038", func := "loop.example/g03319/laws.FnExactLimitsOk", spec := "fnExactLimitsOk", apart := false, narrowed := true }
def FnExactLimitsOkUptoSaid : Prop := fnExactLimitsOkUptoRow.holds Try.pinned (OpenSpec.upto fnExactLimitsOkSpec)

/-- 'laws.FnExactSideDifference', WHERE WHAT IT READS IS OF BULK AT MOST 1048576: true; the input reads as it did. -/
def fnExactSideDifferenceUptoRow : OpenClaim := { program := "ytmonbofhfaaflaa", sum := "0ba2daae1b586945bd64d5743f1d1d0e1b89aa0073456b5bcabb1f97bf5d7038", func := "loop.example/g03319/laws.FnExactSideDifference", spec := "fnExactSideDifference", unfollowed := true, recurses := true, apart := false, narrowed := true }
def FnExactSideDifferenceUptoSaid : Prop := fnExactSideDifferenceUptoRow.holds Try.pinned (OpenSpec.upto fnExactSideDifferenceSpec)

/-- 'laws.FnExactScreenOk', WHERE WHAT IT READS IS OF BULK AT MOST 1048576: true; the input reads as it did. -/
def fnExactScreenOkUptoRow : OpenClaim := { program := "ytmonbofhfaaflaa", sum := "0ba2daae1b586945bd64d5743f1d1d0e1b89aa0073456b5bcabb1f97bf5d7038", func := "loop.example/g03319/laws.FnExactScreenOk", spec := "fnExactScreenOk", apart := false, narrowed := true }
def FnExactScreenOkUptoSaid : Prop := fnExactScreenOkUptoRow.holds Try.pinned (OpenSpec.upto fnExactScreenOkSpec)

/-- 'laws.FnExactImagesOk', WHERE WHAT IT READS IS OF BULK AT MOST 1048576: true; the input reads as it did. -/
def fnExactImagesOkUptoRow : OpenClaim := { program := "ytmonbofhfaaflaa", sum := "0ba2daae1b586945bd64d5743f1d1d0e1b89aa0073456b5bcabb1f97bf5d7038", func := "loop.example/g03319/laws.FnExactImagesOk", spec := "fnExactImagesOk", apart := false, narrowed := true }
def FnExactImagesOkUptoSaid : Prop := fnExactImagesOkUptoRow.holds Try.pinned (OpenSpec.upto fnExactImagesOkSpec)

/-- 'laws.FnExactPolicyOk', WHERE WHAT IT READS IS OF BULK AT MOST 1048576: true; the input reads as it did. -/
def fnExactPolicyOkUptoRow : OpenClaim := { program := "ytmonbofhfaaflaa", sum := "0ba2daae1b586945bd64d5743f1d1d0e1b89aa0073456b5bcabb1f97bf5d7038", func := "loop.example/g03319/laws.FnExactPolicyOk", spec := "fnExactPolicyOk", unfollowed := true, recurses := true, apart := false, narrowed := true }
def FnExactPolicyOkUptoSaid : Prop := fnExactPolicyOkUptoRow.holds Try.pinned (OpenSpec.upto fnExactPolicyOkSpec)

/-- 'laws.FnExactElapse', WHERE WHAT IT READS IS OF BULK AT MOST 1048576: true; the input reads as it did. -/
def fnExactElapseUptoRow : OpenClaim := { program := "ytmonbofhfaaflaa", sum := "0ba2daae1b586945bd64d5743f1d1d0e1b89aa0073456b5bcabb1f97bf5d7038", func := "loop.example/g03319/laws.FnExactElapse", spec := "fnExactElapse", unfollowed := true, recurses := true, apart := false, narrowed := true }
def FnExactElapseUptoSaid : Prop := fnExactElapseUptoRow.holds Try.pinned (OpenSpec.upto fnExactElapseSpec)

/-- 'laws.FnExactHandTime', WHERE WHAT IT READS IS OF BULK AT MOST 1048576: true; the input reads as it did. -/
def fnExactHandTimeUptoRow : OpenClaim := { program := "ytmonbofhfaaflaa", sum := "0ba2daae1b586945bd64d5743f1d1d0e1b89aa0073456b5bcabb1f97bf5d7038", func := "loop.example/g03319/laws.FnExactHandTime", spec := "fnExactHandTime", unfollowed := true, recurses := true, apart := false, narrowed := true }
def FnExactHandTimeUptoSaid : Prop := fnExactHandTimeUptoRow.holds Try.pinned (OpenSpec.upto fnExactHandTimeSpec)

/-- 'laws.FnExactDecide', WHERE WHAT IT READS IS OF BULK AT MOST 1048576: true; the input reads as it did. -/
def fnExactDecideUptoRow : OpenClaim := { program := "ytmonbofhfaaflaa", sum := "0ba2daae1b586945bd64d5743f1d1d0e1b89aa0073456b5bcabb1f97bf5d7038", func := "loop.example/g03319/laws.FnExactDecide", spec := "fnExactDecide", unfollowed := true, recurses := true, apart := false, narrowed := true }
def FnExactDecideUptoSaid : Prop := fnExactDecideUptoRow.holds Try.pinned (OpenSpec.upto fnExactDecideSpec)

/-- 'laws.FnElapses', WHERE WHAT IT READS IS OF BULK AT MOST 1048576: true; the input reads as it did. -/
def fnElapsesUptoRow : OpenClaim := { program := "ytmonbofhfaaflaa", sum := "0ba2daae1b586945bd64d5743f1d1d0e1b89aa0073456b5bcabb1f97bf5d7038", func := "loop.example/g03319/laws.FnElapses", spec := "fnElapses", unfollowed := true, recurses := true, apart := false, narrowed := true }
def FnElapsesUptoSaid : Prop := fnElapsesUptoRow.holds Try.pinned (OpenSpec.upto fnElapsesSpec)

/-- 'laws.FnDecides', WHERE WHAT IT READS IS OF BULK AT MOST 1048576: true; the input reads as it did. -/
def fnDecidesUptoRow : OpenClaim := { program := "ytmonbofhfaaflaa", sum := "0ba2daae1b586945bd64d5743f1d1d0e1b89aa0073456b5bcabb1f97bf5d7038", func := "loop.example/g03319/laws.FnDecides", spec := "fnDecides", unfollowed := true, recurses := true, apart := false, narrowed := true }
def FnDecidesUptoSaid : Prop := fnDecidesUptoRow.holds Try.pinned (OpenSpec.upto fnDecidesSpec)

end Rows
end Go.Proofs.Ytmonbofhfaaflaa
