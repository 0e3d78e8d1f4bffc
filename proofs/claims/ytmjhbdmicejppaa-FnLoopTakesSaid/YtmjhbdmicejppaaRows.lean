/-
  No cell of these rows narrows 'for every input' (looked for: loops, veiled, ifaces, maps, wideKeys, modest, calm, conditions, laid).
  DERIVED. THE GIVEN ROWS OF THIS SEAT. 12 by the template 'for every input the law returns true; each argument reads behind the call as it read before'; 0 by the template 'total and deterministic' (their statements: YtmjhbdmicejppaaTotals.lean).
  GIVEN WITH THE SEED: the statements are not yours to turn. If you find one false, say at which input.
  Laid BY PROGRAM, IN A SANDBOX (cutbox-rows.mjs): the forced cells as the released guide's own fill.sh prints them over the translation fd94312966533381… (all of the seat's roots in one cut). By AI agents, Wed Nov 11 2026. No macro, syntax, notation, axiom, sorry.
-/
import Derived.Test.YtmjhbdmicejppaaChecked
import GoSem.Claim
import GoSem.ClaimJoined
import GoSem.ClaimMapViews
import Derived.JoinedTies
import Derived.KernelRfl
namespace Go.Proofs.Ytmjhbdmicejppaa
/- THE CELL 'sum', in the pinned program and in every row, IS THE sha256 OF THE DUMP (.gsa) THAT YtmjhbdmicejppaaProg.lean LOADS. Nothing in Lean hashes anything: it is a label: what it is worth is what the hold of that sum in a sandbox is worth. -/
noncomputable def Try.pinned : Pinned := { name := "ytmjhbdmicejppaa", sum := "fd94312966533381c1f065f291537c21a1676f4b7c7c6b84a9f2d354208f31dd", checked := Try.checked }
namespace Rows
def none {H : Type} : Left H := { results := [], args := [] }

/-- 'laws.FnLoopSorts': WHATEVER THE INPUT: true; the input reads as it did. -/
def fnLoopSortsSpec : ChangeSpec := { name := "fnLoopSorts", fn := fun _ => fun
  | [d] => { results := [.lit (.bool true)], args := [d] }
  | _ => none }
def fnLoopSortsRow : OpenClaim := { program := "ytmjhbdmicejppaa", sum := "fd94312966533381c1f065f291537c21a1676f4b7c7c6b84a9f2d354208f31dd", func := "loop.example/g03319/laws.FnLoopSorts", spec := "fnLoopSorts", unfollowed := true, recurses := true, apart := false }
def FnLoopSortsSaid : Prop := fnLoopSortsRow.holds Try.pinned (OpenSpec.ofChange fnLoopSortsSpec)

/-- ITS FALSE NEIGHBOUR: 'it returns false'. Refute it at one input. -/
def fnLoopSortsWrong : ChangeSpec := { name := "fnLoopSorts", fn := fun _ => fun
  | [d] => { results := [.lit (.bool false)], args := [d] }
  | _ => none }
def FnLoopSortsWrongFalsely : Prop := fnLoopSortsRow.holds Try.pinned (OpenSpec.ofChange fnLoopSortsWrong)

/-- 'laws.FnLoopTurns': WHATEVER THE INPUT: true; the input reads as it did. -/
def fnLoopTurnsSpec : ChangeSpec := { name := "fnLoopTurns", fn := fun _ => fun
  | [d1, d2, d3] => { results := [.lit (.bool true)], args := [d1, d2, d3] }
  | _ => none }
def fnLoopTurnsRow : OpenClaim := { program := "ytmjhbdmicejppaa", sum := "fd94312966533381c1f065f291537c21a1676f4b7c7c6b84a9f2d354208f31dd", func := "loop.example/g03319/laws.FnLoopTurns", spec := "fnLoopTurns", unfollowed := true, recurses := true, apart := false }
def FnLoopTurnsSaid : Prop := fnLoopTurnsRow.holds Try.pinned (OpenSpec.ofChange fnLoopTurnsSpec)

/-- ITS FALSE NEIGHBOUR: 'it returns false'. Refute it at one input. -/
def fnLoopTurnsWrong : ChangeSpec := { name := "fnLoopTurns", fn := fun _ => fun
  | [d1, d2, d3] => { results := [.lit (.bool false)], args := [d1, d2, d3] }
  | _ => none }
def FnLoopTurnsWrongFalsely : Prop := fnLoopTurnsRow.holds Try.pinned (OpenSpec.ofChange fnLoopTurnsWrong)

/-- 'laws.FnExactLoopOk': WHATEVER THE INPUT: true; the input reads as it did. -/
def fnExactLoopOkSpec : ChangeSpec := { name := "fnExactLoopOk", fn := fun _ => fun
  | [d] => { results := [.lit (.bool true)], args := [d] }
  | _ => none }
def fnExactLoopOkRow : OpenClaim := { program := "ytmjhbdmicejppaa", sum := "fd94312966533381c1f065f291537c21a1676f4b7c7c6b84a9f2d354208f31dd", func := "loop.example/g03319/laws.FnExactLoopOk", spec := "fnExactLoopOk", unfollowed := true, recurses := true, apart := false }
def FnExactLoopOkSaid : Prop := fnExactLoopOkRow.holds Try.pinned (OpenSpec.ofChange fnExactLoopOkSpec)

/-- ITS FALSE NEIGHBOUR: 'it returns false'. Refute it at one input. -/
def fnExactLoopOkWrong : ChangeSpec := { name := "fnExactLoopOk", fn := fun _ => fun
  | [d] => { results := [.lit (.bool false)], args := [d] }
  | _ => none }
def FnExactLoopOkWrongFalsely : Prop := fnExactLoopOkRow.holds Try.pinned (OpenSpec.ofChange fnExactLoopOkWrong)

/-- 'laws.FnExactTrayAt': WHATEVER THE INPUT: true; the input reads as it did. -/
def fnExactTrayAtSpec : ChangeSpec := { name := "fnExactTrayAt", fn := fun _ => fun
  | [d1, d2] => { results := [.lit (.bool true)], args := [d1, d2] }
  | _ => none }
def fnExactTrayAtRow : OpenClaim := { program := "ytmjhbdmicejppaa", sum := "fd94312966533381c1f065f291537c21a1676f4b7c7c6b84a9f2d354208f31dd", func := "loop.example/g03319/laws.FnExactTrayAt", spec := "fnExactTrayAt", unfollowed := true, recurses := true, apart := false }
def FnExactTrayAtSaid : Prop := fnExactTrayAtRow.holds Try.pinned (OpenSpec.ofChange fnExactTrayAtSpec)

/-- ITS FALSE NEIGHBOUR: 'it returns false'. Refute it at one input. -/
def fnExactTrayAtWrong : ChangeSpec := { name := "fnExactTrayAt", fn := fun _ => fun
  | [d1, d2] => { results := [.lit (.bool false)], args := [d1, d2] }
  | _ => none }
def FnExactTrayAtWrongFalsely : Prop := fnExactTrayAtRow.holds Try.pinned (OpenSpec.ofChange fnExactTrayAtWrong)

/-- 'laws.FnExactMostSorted': WHATEVER THE INPUT: true; the input reads as it did. -/
def fnExactMostSortedSpec : ChangeSpec := { name := "fnExactMostSorted", fn := fun _ => fun
  | [d] => { results := [.lit (.bool true)], args := [d] }
  | _ => none }
def fnExactMostSortedRow : OpenClaim := { program := "ytmjhbdmicejppaa", sum := "fd94312966533381c1f065f291537c21a1676f4b7c7c6b84a9f2d354208f31dd", func := "loop.example/g03319/laws.FnExactMostSorted", spec := "fnExactMostSorted", unfollowed := true, recurses := true, apart := false }
def FnExactMostSortedSaid : Prop := fnExactMostSortedRow.holds Try.pinned (OpenSpec.ofChange fnExactMostSortedSpec)

/-- ITS FALSE NEIGHBOUR: 'it returns false'. Refute it at one input. -/
def fnExactMostSortedWrong : ChangeSpec := { name := "fnExactMostSorted", fn := fun _ => fun
  | [d] => { results := [.lit (.bool false)], args := [d] }
  | _ => none }
def FnExactMostSortedWrongFalsely : Prop := fnExactMostSortedRow.holds Try.pinned (OpenSpec.ofChange fnExactMostSortedWrong)

/-- 'laws.FnExactStepsOf': WHATEVER THE INPUT: true; the input reads as it did. -/
def fnExactStepsOfSpec : ChangeSpec := { name := "fnExactStepsOf", fn := fun _ => fun
  | [d1, d2] => { results := [.lit (.bool true)], args := [d1, d2] }
  | _ => none }
def fnExactStepsOfRow : OpenClaim := { program := "ytmjhbdmicejppaa", sum := "fd94312966533381c1f065f291537c21a1676f4b7c7c6b84a9f2d354208f31dd", func := "loop.example/g03319/laws.FnExactStepsOf", spec := "fnExactStepsOf", unfollowed := true, recurses := true, apart := false }
def FnExactStepsOfSaid : Prop := fnExactStepsOfRow.holds Try.pinned (OpenSpec.ofChange fnExactStepsOfSpec)

/-- ITS FALSE NEIGHBOUR: 'it returns false'. Refute it at one input. -/
def fnExactStepsOfWrong : ChangeSpec := { name := "fnExactStepsOf", fn := fun _ => fun
  | [d1, d2] => { results := [.lit (.bool false)], args := [d1, d2] }
  | _ => none }
def FnExactStepsOfWrongFalsely : Prop := fnExactStepsOfRow.holds Try.pinned (OpenSpec.ofChange fnExactStepsOfWrong)

/-- 'laws.FnExactEmptyAt': WHATEVER THE INPUT: true; the input reads as it did. -/
def fnExactEmptyAtSpec : ChangeSpec := { name := "fnExactEmptyAt", fn := fun _ => fun
  | [d1, d2] => { results := [.lit (.bool true)], args := [d1, d2] }
  | _ => none }
def fnExactEmptyAtRow : OpenClaim := { program := "ytmjhbdmicejppaa", sum := "fd94312966533381c1f065f291537c21a1676f4b7c7c6b84a9f2d354208f31dd", func := "loop.example/g03319/laws.FnExactEmptyAt", spec := "fnExactEmptyAt", unfollowed := true, recurses := true, apart := false }
def FnExactEmptyAtSaid : Prop := fnExactEmptyAtRow.holds Try.pinned (OpenSpec.ofChange fnExactEmptyAtSpec)

/-- ITS FALSE NEIGHBOUR: 'it returns false'. Refute it at one input. -/
def fnExactEmptyAtWrong : ChangeSpec := { name := "fnExactEmptyAt", fn := fun _ => fun
  | [d1, d2] => { results := [.lit (.bool false)], args := [d1, d2] }
  | _ => none }
def FnExactEmptyAtWrongFalsely : Prop := fnExactEmptyAtRow.holds Try.pinned (OpenSpec.ofChange fnExactEmptyAtWrong)

/-- 'laws.FnExactSetWant': WHATEVER THE INPUT: true; the input reads as it did. -/
def fnExactSetWantSpec : ChangeSpec := { name := "fnExactSetWant", fn := fun _ => fun
  | [d1, d2, d3] => { results := [.lit (.bool true)], args := [d1, d2, d3] }
  | _ => none }
def fnExactSetWantRow : OpenClaim := { program := "ytmjhbdmicejppaa", sum := "fd94312966533381c1f065f291537c21a1676f4b7c7c6b84a9f2d354208f31dd", func := "loop.example/g03319/laws.FnExactSetWant", spec := "fnExactSetWant", unfollowed := true, recurses := true, apart := false }
def FnExactSetWantSaid : Prop := fnExactSetWantRow.holds Try.pinned (OpenSpec.ofChange fnExactSetWantSpec)

/-- ITS FALSE NEIGHBOUR: 'it returns false'. Refute it at one input. -/
def fnExactSetWantWrong : ChangeSpec := { name := "fnExactSetWant", fn := fun _ => fun
  | [d1, d2, d3] => { results := [.lit (.bool false)], args := [d1, d2, d3] }
  | _ => none }
def FnExactSetWantWrongFalsely : Prop := fnExactSetWantRow.holds Try.pinned (OpenSpec.ofChange fnExactSetWantWrong)

/-- 'laws.FnExactStuck': WHATEVER THE INPUT: true; the input reads as it did. -/
def fnExactStuckSpec : ChangeSpec := { name := "fnExactStuck", fn := fun _ => fun
  | [d] => { results := [.lit (.bool true)], args := [d] }
  | _ => none }
def fnExactStuckRow : OpenClaim := { program := "ytmjhbdmicejppaa", sum := "fd94312966533381c1f065f291537c21a1676f4b7c7c6b84a9f2d354208f31dd", func := "loop.example/g03319/laws.FnExactStuck", spec := "fnExactStuck", unfollowed := true, recurses := true, apart := false }
def FnExactStuckSaid : Prop := fnExactStuckRow.holds Try.pinned (OpenSpec.ofChange fnExactStuckSpec)

/-- ITS FALSE NEIGHBOUR: 'it returns false'. Refute it at one input. -/
def fnExactStuckWrong : ChangeSpec := { name := "fnExactStuck", fn := fun _ => fun
  | [d] => { results := [.lit (.bool false)], args := [d] }
  | _ => none }
def FnExactStuckWrongFalsely : Prop := fnExactStuckRow.holds Try.pinned (OpenSpec.ofChange fnExactStuckWrong)

/-- 'laws.FnLoopTakes': WHATEVER THE INPUT: true; the input reads as it did. -/
def fnLoopTakesSpec : ChangeSpec := { name := "fnLoopTakes", fn := fun _ => fun
  | [d] => { results := [.lit (.bool true)], args := [d] }
  | _ => none }
def fnLoopTakesRow : OpenClaim := { program := "ytmjhbdmicejppaa", sum := "fd94312966533381c1f065f291537c21a1676f4b7c7c6b84a9f2d354208f31dd", func := "loop.example/g03319/laws.FnLoopTakes", spec := "fnLoopTakes", unfollowed := true, recurses := true, apart := false }
def FnLoopTakesSaid : Prop := fnLoopTakesRow.holds Try.pinned (OpenSpec.ofChange fnLoopTakesSpec)

/-- ITS FALSE NEIGHBOUR: 'it returns false'. Refute it at one input. -/
def fnLoopTakesWrong : ChangeSpec := { name := "fnLoopTakes", fn := fun _ => fun
  | [d] => { results := [.lit (.bool false)], args := [d] }
  | _ => none }
def FnLoopTakesWrongFalsely : Prop := fnLoopTakesRow.holds Try.pinned (OpenSpec.ofChange fnLoopTakesWrong)

/-- 'laws.FnExactInduct': WHATEVER THE INPUT: true; the input reads as it did. -/
def fnExactInductSpec : ChangeSpec := { name := "fnExactInduct", fn := fun _ => fun
  | [d1, d2, d3] => { results := [.lit (.bool true)], args := [d1, d2, d3] }
  | _ => none }
def fnExactInductRow : OpenClaim := { program := "ytmjhbdmicejppaa", sum := "fd94312966533381c1f065f291537c21a1676f4b7c7c6b84a9f2d354208f31dd", func := "loop.example/g03319/laws.FnExactInduct", spec := "fnExactInduct", unfollowed := true, recurses := true, apart := false }
def FnExactInductSaid : Prop := fnExactInductRow.holds Try.pinned (OpenSpec.ofChange fnExactInductSpec)

/-- ITS FALSE NEIGHBOUR: 'it returns false'. Refute it at one input. -/
def fnExactInductWrong : ChangeSpec := { name := "fnExactInduct", fn := fun _ => fun
  | [d1, d2, d3] => { results := [.lit (.bool false)], args := [d1, d2, d3] }
  | _ => none }
def FnExactInductWrongFalsely : Prop := fnExactInductRow.holds Try.pinned (OpenSpec.ofChange fnExactInductWrong)

/-- 'laws.FnExactTurnLoop': WHATEVER THE INPUT: true; the input reads as it did. -/
def fnExactTurnLoopSpec : ChangeSpec := { name := "fnExactTurnLoop", fn := fun _ => fun
  | [d1, d2] => { results := [.lit (.bool true)], args := [d1, d2] }
  | _ => none }
def fnExactTurnLoopRow : OpenClaim := { program := "ytmjhbdmicejppaa", sum := "fd94312966533381c1f065f291537c21a1676f4b7c7c6b84a9f2d354208f31dd", func := "loop.example/g03319/laws.FnExactTurnLoop", spec := "fnExactTurnLoop", unfollowed := true, recurses := true, apart := false }
def FnExactTurnLoopSaid : Prop := fnExactTurnLoopRow.holds Try.pinned (OpenSpec.ofChange fnExactTurnLoopSpec)

/-- ITS FALSE NEIGHBOUR: 'it returns false'. Refute it at one input. -/
def fnExactTurnLoopWrong : ChangeSpec := { name := "fnExactTurnLoop", fn := fun _ => fun
  | [d1, d2] => { results := [.lit (.bool false)], args := [d1, d2] }
  | _ => none }
def FnExactTurnLoopWrongFalsely : Prop := fnExactTurnLoopRow.holds Try.pinned (OpenSpec.ofChange fnExactTurnLoopWrong)

/- THE SECOND FORM. 'bulk': how many values and letters a reading holds, each counted each time it is reached (what is shared counts as often as it is met; a slice's spare places count too). A statement '..UptoSaid' is the law's where the arguments, and the package variables that the reading takes, are together of bulk at most 1048576: NARROWER than '..Said'. Prove '..Said' where nothing that the law and all that it calls make is longer than what came in: it says more and counts as full. Else prove '..UptoSaid'. A law counts once. -/
mutual
def uptoBulk {H : Type} : DataW H → Nat
  | .lit (.string bytes) => bytes.length + 1
  | .lit _ => 1
  | .nil => 1
  | .ptr d => uptoBulk d + 1
  | .slice elems spare => uptoBulkAll elems + uptoBulkAll spare + 1
  | .agg parts => uptoBulkAll parts + 1
  | .iface _ d => uptoBulk d + 1
  | .map entries => uptoBulkEntries entries + 1
  | .held _ => 1
def uptoBulkAll {H : Type} : List (DataW H) → Nat
  | [] => 0
  | d :: r => uptoBulk d + uptoBulkAll r
def uptoBulkEntries {H : Type} : List (Lit × DataW H) → Nat
  | [] => 0
  | x :: r => uptoBulkEntry x + uptoBulkEntries r
def uptoBulkEntry {H : Type} : Lit × DataW H → Nat
  | (.string bytes, d) => bytes.length + uptoBulk d + 1
  | (_, d) => uptoBulk d + 1
 end
def uptoSmall : (H : Type) → List (DataW H) → Bool := fun _ ds => decide (uptoBulkAll ds ≤ 1048576)
def OpenSpec.upto (s : _root_.Go.ChangeSpec) : _root_.Go.OpenSpec := { _root_.Go.OpenSpec.ofChange s with cond := some uptoSmall }

/-- 'laws.FnLoopSorts', WHERE WHAT IT READS IS OF BULK AT MOST 1048576: true; the input reads as it did. -/
def fnLoopSortsUptoRow : OpenClaim := { program := "ytmjhbdmicejppaa", sum := "fd94312966533381c1f065f291537c21a1676f4b7c7c6b84a9f2d354208f31dd", func := "loop.example/g03319/laws.FnLoopSorts", spec := "fnLoopSorts", unfollowed := true, recurses := true, apart := false, narrowed := true }
def FnLoopSortsUptoSaid : Prop := fnLoopSortsUptoRow.holds Try.pinned (OpenSpec.upto fnLoopSortsSpec)

/-- 'laws.FnLoopTurns', WHERE WHAT IT READS IS OF BULK AT MOST 1048576: true; the input reads as it did. -/
def fnLoopTurnsUptoRow : OpenClaim := { program := "ytmjhbdmicejppaa", sum := "fd94312966533381c1f065f291537c21a1676f4b7c7c6b84a9f2d354208f31dd", func := "loop.example/g03319/laws.FnLoopTurns", spec := "fnLoopTurns", unfollowed := true, recurses := true, apart := false, narrowed := true }
def FnLoopTurnsUptoSaid : Prop := fnLoopTurnsUptoRow.holds Try.pinned (OpenSpec.upto fnLoopTurnsSpec)

/-- 'laws.FnExactLoopOk', WHERE WHAT IT READS IS OF BULK AT MOST 1048576: true; the input reads as it did. -/
def fnExactLoopOkUptoRow : OpenClaim := { program := "ytmjhbdmicejppaa", sum := "fd94312966533381c1f065f291537c21a1676f4b7c7c6b84a9f2d354208f31dd", func := "loop.example/g03319/laws.FnExactLoopOk", spec := "fnExactLoopOk", unfollowed := true, recurses := true, apart := false, narrowed := true }
def FnExactLoopOkUptoSaid : Prop := fnExactLoopOkUptoRow.holds Try.pinned (OpenSpec.upto fnExactLoopOkSpec)

/-- 'laws.FnExactTrayAt', WHERE WHAT IT READS IS OF BULK AT MOST 1048576: true; the input reads as it did. -/
def fnExactTrayAtUptoRow : OpenClaim := { program := "ytmjhbdmicejppaa", sum := "fd94312966533381c1f065f291537c21a1676f4b7c7c6b84a9f2d354208f31dd", func := "loop.example/g03319/laws.FnExactTrayAt", spec := "fnExactTrayAt", unfollowed := true, recurses := true, apart := false, narrowed := true }
def FnExactTrayAtUptoSaid : Prop := fnExactTrayAtUptoRow.holds Try.pinned (OpenSpec.upto fnExactTrayAtSpec)

/-- 'laws.FnExactMostSorted', WHERE WHAT IT READS IS OF BULK AT MOST 1048576: true; the input reads as it did. -/
def fnExactMostSortedUptoRow : OpenClaim := { program := "ytmjhbdmicejppaa", sum := "fd94312966533381c1f065f291537c21a1676f4b7c7c6b84a9f2d354208f31dd", func := "loop.example/g03319/laws.FnExactMostSorted", spec := "fnExactMostSorted", unfollowed := true, recurses := true, apart := false, narrowed := true }
def FnExactMostSortedUptoSaid : Prop := fnExactMostSortedUptoRow.holds Try.pinned (OpenSpec.upto fnExactMostSortedSpec)

/-- 'laws.FnExactStepsOf', WHERE WHAT IT READS IS OF BULK AT MOST 1048576: true; the input reads as it did. -/
def fnExactStepsOfUptoRow : OpenClaim := { program := "ytmjhbdmicejppaa", sum := "fd94312966533381c1f065f291537c21a1676f4b7c7c6b84a9f2d354208f31dd", func := "loop.example/g03319/laws.FnExactStepsOf", spec := "fnExactStepsOf", unfollowed := true, recurses := true, apart := false, narrowed := true }
def FnExactStepsOfUptoSaid : Prop := fnExactStepsOfUptoRow.holds Try.pinned (OpenSpec.upto fnExactStepsOfSpec)

/-- 'laws.FnExactEmptyAt', WHERE WHAT IT READS IS OF BULK AT MOST 1048576: true; the input reads as it did. -/
def fnExactEmptyAtUptoRow : OpenClaim := { program := "ytmjhbdmicejppaa", sum := "fd94312966533381c1f065f291537c21a1676f4b7c7c6b84a9f2d354208f31dd", func := "loop.example/g03319/laws.FnExactEmptyAt", spec := "fnExactEmptyAt", unfollowed := true, recurses := true, apart := false, narrowed := true }
def FnExactEmptyAtUptoSaid : Prop := fnExactEmptyAtUptoRow.holds Try.pinned (OpenSpec.upto fnExactEmptyAtSpec)

/-- 'laws.FnExactSetWant', WHERE WHAT IT READS IS OF BULK AT MOST 1048576: true; the input reads as it did. -/
def fnExactSetWantUptoRow : OpenClaim := { program := "ytmjhbdmicejppaa", sum := "fd94312966533381c1f065f291537c21a1676f4b7c7c6b84a9f2d354208f31dd", func := "loop.example/g03319/laws.FnExactSetWant", spec := "fnExactSetWant", unfollowed := true, recurses := true, apart := false, narrowed := true }
def FnExactSetWantUptoSaid : Prop := fnExactSetWantUptoRow.holds Try.pinned (OpenSpec.upto fnExactSetWantSpec)

/-- 'laws.FnExactStuck', WHERE WHAT IT READS IS OF BULK AT MOST 1048576: true; the input reads as it did. -/
def fnExactStuckUptoRow : OpenClaim := { program := "ytmjhbdmicejppaa", sum := "fd94312966533381c1f065f291537c21a1676f4b7c7c6b84a9f2d354208f31dd", func := "loop.example/g03319/laws.FnExactStuck", spec := "fnExactStuck", unfollowed := true, recurses := true, apart := false, narrowed := true }
def FnExactStuckUptoSaid : Prop := fnExactStuckUptoRow.holds Try.pinned (OpenSpec.upto fnExactStuckSpec)

/-- 'laws.FnLoopTakes', WHERE WHAT IT READS IS OF BULK AT MOST 1048576: true; the input reads as it did. -/
def fnLoopTakesUptoRow : OpenClaim := { program := "ytmjhbdmicejppaa", sum := "fd94312966533381c1f065f291537c21a1676f4b7c7c6b84a9f2d354208f31dd", func := "loop.example/g03319/laws.FnLoopTakes", spec := "fnLoopTakes", unfollowed := true, recurses := true, apart := false, narrowed := true }
def FnLoopTakesUptoSaid : Prop := fnLoopTakesUptoRow.holds Try.pinned (OpenSpec.upto fnLoopTakesSpec)

/-- 'laws.FnExactInduct', WHERE WHAT IT READS IS OF BULK AT MOST 1048576: true; the input reads as it did. -/
def fnExactInductUptoRow : OpenClaim := { program := "ytmjhbdmicejppaa", sum := "fd94312966533381c1f065f291537c21a1676f4b7c7c6b84a9f2d354208f31dd", func := "loop.example/g03319/laws.FnExactInduct", spec := "fnExactInduct", unfollowed := true, recurses := true, apart := false, narrowed := true }
def FnExactInductUptoSaid : Prop := fnExactInductUptoRow.holds Try.pinned (OpenSpec.upto fnExactInductSpec)

/-- 'laws.FnExactTurnLoop', WHERE WHAT IT READS IS OF BULK AT MOST 1048576: true; the input reads as it did. -/
def fnExactTurnLoopUptoRow : OpenClaim := { program := "ytmjhbdmicejppaa", sum := "fd94312966533381c1f065f291537c21a1676f4b7c7c6b84a9f2d354208f31dd", func := "loop.example/g03319/laws.FnExactTurnLoop", spec := "fnExactTurnLoop", unfollowed := true, recurses := true, apart := false, narrowed := true }
def FnExactTurnLoopUptoSaid : Prop := fnExactTurnLoopUptoRow.holds Try.pinned (OpenSpec.upto fnExactTurnLoopSpec)

end Rows
end Go.Proofs.Ytmjhbdmicejppaa
