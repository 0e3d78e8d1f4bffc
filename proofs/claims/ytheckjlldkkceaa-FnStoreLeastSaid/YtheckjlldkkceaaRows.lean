/-
  No cell of these rows narrows 'for every input' (looked for: loops, veiled, ifaces, maps, wideKeys, modest, calm, conditions, laid).
  DERIVED. THE GIVEN ROWS OF THIS SEAT. 12 by the template 'for every input the law returns true; each argument reads behind the call as it read before'; 0 by the template 'total and deterministic' (their statements: YtheckjlldkkceaaTotals.lean).
  GIVEN WITH THE SEED: the statements are not yours to turn. If you find one false, say at which input.
  Laid BY PROGRAM, IN A SANDBOX (cutbox-rows.mjs): the forced cells as the released guide's own fill.sh prints them over the translation c1a461a6417e9b7c… (all of the seat's roots in one cut). By AI agents, Wed Nov 11 2026. No macro, syntax, notation, axiom, sorry.
-/
import Derived.Test.YtheckjlldkkceaaChecked
import GoSem.Claim
import GoSem.ClaimJoined
import GoSem.ClaimMapViews
import Derived.JoinedTies
import Derived.KernelRfl
namespace Go.Proofs.Ytheckjlldkkceaa
/- THE CELL 'sum', in the pinned program and in every row, IS THE sha256 OF THE DUMP (.gsa) THAT YtheckjlldkkceaaProg.lean LOADS. Nothing in Lean hashes anything: it is a label: what it is worth is what the hold of that sum in a sandbox is worth. -/
noncomputable def Try.pinned : Pinned := { name := "ytheckjlldkkceaa", sum := "c1a461a6417e9b7cca62a51c0a82a140e8afdd85328dd7cd2d6bcad080c36393", checked := Try.checked }
namespace Rows
def none {H : Type} : Left H := { results := [], args := [] }

/-- 'laws.FnEveryDig': WHATEVER THE INPUT: true; the input reads as it did. -/
def fnEveryDigSpec : ChangeSpec := { name := "fnEveryDig", fn := fun _ => fun
  | [d1, d2] => { results := [.lit (.bool true)], args := [d1, d2] }
  | _ => none }
def fnEveryDigRow : OpenClaim := { program := "ytheckjlldkkceaa", sum := "c1a461a6417e9b7cca62a51c0a82a140e8afdd85328dd7cd2d6bcad080c36393", func := "loop.example/g03319/laws.FnEveryDig", spec := "fnEveryDig", unfollowed := true, recurses := true, apart := false }
def FnEveryDigSaid : Prop := fnEveryDigRow.holds Try.pinned (OpenSpec.ofChange fnEveryDigSpec)

/-- ITS FALSE NEIGHBOUR: 'it returns false'. Refute it at one input. -/
def fnEveryDigWrong : ChangeSpec := { name := "fnEveryDig", fn := fun _ => fun
  | [d1, d2] => { results := [.lit (.bool false)], args := [d1, d2] }
  | _ => none }
def FnEveryDigWrongFalsely : Prop := fnEveryDigRow.holds Try.pinned (OpenSpec.ofChange fnEveryDigWrong)

/-- 'laws.FnExactStoreOk': WHATEVER THE INPUT: true; the input reads as it did. -/
def fnExactStoreOkSpec : ChangeSpec := { name := "fnExactStoreOk", fn := fun _ => fun
  | [d] => { results := [.lit (.bool true)], args := [d] }
  | _ => none }
def fnExactStoreOkRow : OpenClaim := { program := "ytheckjlldkkceaa", sum := "c1a461a6417e9b7cca62a51c0a82a140e8afdd85328dd7cd2d6bcad080c36393", func := "loop.example/g03319/laws.FnExactStoreOk", spec := "fnExactStoreOk", unfollowed := true, recurses := true, apart := false }
def FnExactStoreOkSaid : Prop := fnExactStoreOkRow.holds Try.pinned (OpenSpec.ofChange fnExactStoreOkSpec)

/-- ITS FALSE NEIGHBOUR: 'it returns false'. Refute it at one input. -/
def fnExactStoreOkWrong : ChangeSpec := { name := "fnExactStoreOk", fn := fun _ => fun
  | [d] => { results := [.lit (.bool false)], args := [d] }
  | _ => none }
def FnExactStoreOkWrongFalsely : Prop := fnExactStoreOkRow.holds Try.pinned (OpenSpec.ofChange fnExactStoreOkWrong)

/-- 'laws.FnExactNextOut': WHATEVER THE INPUT: true; the input reads as it did. -/
def fnExactNextOutSpec : ChangeSpec := { name := "fnExactNextOut", fn := fun _ => fun
  | [d] => { results := [.lit (.bool true)], args := [d] }
  | _ => none }
def fnExactNextOutRow : OpenClaim := { program := "ytheckjlldkkceaa", sum := "c1a461a6417e9b7cca62a51c0a82a140e8afdd85328dd7cd2d6bcad080c36393", func := "loop.example/g03319/laws.FnExactNextOut", spec := "fnExactNextOut", unfollowed := true, recurses := true, apart := false }
def FnExactNextOutSaid : Prop := fnExactNextOutRow.holds Try.pinned (OpenSpec.ofChange fnExactNextOutSpec)

/-- ITS FALSE NEIGHBOUR: 'it returns false'. Refute it at one input. -/
def fnExactNextOutWrong : ChangeSpec := { name := "fnExactNextOut", fn := fun _ => fun
  | [d] => { results := [.lit (.bool false)], args := [d] }
  | _ => none }
def FnExactNextOutWrongFalsely : Prop := fnExactNextOutRow.holds Try.pinned (OpenSpec.ofChange fnExactNextOutWrong)

/-- 'laws.FnExactBuried': WHATEVER THE INPUT: true; the input reads as it did. -/
def fnExactBuriedSpec : ChangeSpec := { name := "fnExactBuried", fn := fun _ => fun
  | [d] => { results := [.lit (.bool true)], args := [d] }
  | _ => none }
def fnExactBuriedRow : OpenClaim := { program := "ytheckjlldkkceaa", sum := "c1a461a6417e9b7cca62a51c0a82a140e8afdd85328dd7cd2d6bcad080c36393", func := "loop.example/g03319/laws.FnExactBuried", spec := "fnExactBuried", unfollowed := true, recurses := true, apart := false }
def FnExactBuriedSaid : Prop := fnExactBuriedRow.holds Try.pinned (OpenSpec.ofChange fnExactBuriedSpec)

/-- ITS FALSE NEIGHBOUR: 'it returns false'. Refute it at one input. -/
def fnExactBuriedWrong : ChangeSpec := { name := "fnExactBuried", fn := fun _ => fun
  | [d] => { results := [.lit (.bool false)], args := [d] }
  | _ => none }
def FnExactBuriedWrongFalsely : Prop := fnExactBuriedRow.holds Try.pinned (OpenSpec.ofChange fnExactBuriedWrong)

/-- 'laws.FnExactLaneFor': WHATEVER THE INPUT: true; the input reads as it did. -/
def fnExactLaneForSpec : ChangeSpec := { name := "fnExactLaneFor", fn := fun _ => fun
  | [d1, d2, d3] => { results := [.lit (.bool true)], args := [d1, d2, d3] }
  | _ => none }
def fnExactLaneForRow : OpenClaim := { program := "ytheckjlldkkceaa", sum := "c1a461a6417e9b7cca62a51c0a82a140e8afdd85328dd7cd2d6bcad080c36393", func := "loop.example/g03319/laws.FnExactLaneFor", spec := "fnExactLaneFor", unfollowed := true, recurses := true, apart := false }
def FnExactLaneForSaid : Prop := fnExactLaneForRow.holds Try.pinned (OpenSpec.ofChange fnExactLaneForSpec)

/-- ITS FALSE NEIGHBOUR: 'it returns false'. Refute it at one input. -/
def fnExactLaneForWrong : ChangeSpec := { name := "fnExactLaneFor", fn := fun _ => fun
  | [d1, d2, d3] => { results := [.lit (.bool false)], args := [d1, d2, d3] }
  | _ => none }
def FnExactLaneForWrongFalsely : Prop := fnExactLaneForRow.holds Try.pinned (OpenSpec.ofChange fnExactLaneForWrong)

/-- 'laws.FnExactLeastHops': WHATEVER THE INPUT: true; the input reads as it did. -/
def fnExactLeastHopsSpec : ChangeSpec := { name := "fnExactLeastHops", fn := fun _ => fun
  | [d] => { results := [.lit (.bool true)], args := [d] }
  | _ => none }
def fnExactLeastHopsRow : OpenClaim := { program := "ytheckjlldkkceaa", sum := "c1a461a6417e9b7cca62a51c0a82a140e8afdd85328dd7cd2d6bcad080c36393", func := "loop.example/g03319/laws.FnExactLeastHops", spec := "fnExactLeastHops", unfollowed := true, recurses := true, apart := false }
def FnExactLeastHopsSaid : Prop := fnExactLeastHopsRow.holds Try.pinned (OpenSpec.ofChange fnExactLeastHopsSpec)

/-- ITS FALSE NEIGHBOUR: 'it returns false'. Refute it at one input. -/
def fnExactLeastHopsWrong : ChangeSpec := { name := "fnExactLeastHops", fn := fun _ => fun
  | [d] => { results := [.lit (.bool false)], args := [d] }
  | _ => none }
def FnExactLeastHopsWrongFalsely : Prop := fnExactLeastHopsRow.holds Try.pinned (OpenSpec.ofChange fnExactLeastHopsWrong)

/-- 'laws.FnStorePuts': WHATEVER THE INPUT: true; the input reads as it did. -/
def fnStorePutsSpec : ChangeSpec := { name := "fnStorePuts", fn := fun _ => fun
  | [d] => { results := [.lit (.bool true)], args := [d] }
  | _ => none }
def fnStorePutsRow : OpenClaim := { program := "ytheckjlldkkceaa", sum := "c1a461a6417e9b7cca62a51c0a82a140e8afdd85328dd7cd2d6bcad080c36393", func := "loop.example/g03319/laws.FnStorePuts", spec := "fnStorePuts", unfollowed := true, recurses := true, apart := false }
def FnStorePutsSaid : Prop := fnStorePutsRow.holds Try.pinned (OpenSpec.ofChange fnStorePutsSpec)

/-- ITS FALSE NEIGHBOUR: 'it returns false'. Refute it at one input. -/
def fnStorePutsWrong : ChangeSpec := { name := "fnStorePuts", fn := fun _ => fun
  | [d] => { results := [.lit (.bool false)], args := [d] }
  | _ => none }
def FnStorePutsWrongFalsely : Prop := fnStorePutsRow.holds Try.pinned (OpenSpec.ofChange fnStorePutsWrong)

/-- 'laws.FnExactPutBag': WHATEVER THE INPUT: true; the input reads as it did. -/
def fnExactPutBagSpec : ChangeSpec := { name := "fnExactPutBag", fn := fun _ => fun
  | [d1, d2, d3] => { results := [.lit (.bool true)], args := [d1, d2, d3] }
  | _ => none }
def fnExactPutBagRow : OpenClaim := { program := "ytheckjlldkkceaa", sum := "c1a461a6417e9b7cca62a51c0a82a140e8afdd85328dd7cd2d6bcad080c36393", func := "loop.example/g03319/laws.FnExactPutBag", spec := "fnExactPutBag", unfollowed := true, recurses := true, apart := false }
def FnExactPutBagSaid : Prop := fnExactPutBagRow.holds Try.pinned (OpenSpec.ofChange fnExactPutBagSpec)

/-- ITS FALSE NEIGHBOUR: 'it returns false'. Refute it at one input. -/
def fnExactPutBagWrong : ChangeSpec := { name := "fnExactPutBag", fn := fun _ => fun
  | [d1, d2, d3] => { results := [.lit (.bool false)], args := [d1, d2, d3] }
  | _ => none }
def FnExactPutBagWrongFalsely : Prop := fnExactPutBagRow.holds Try.pinned (OpenSpec.ofChange fnExactPutBagWrong)

/-- 'laws.FnStoreTakes': WHATEVER THE INPUT: true; the input reads as it did. -/
def fnStoreTakesSpec : ChangeSpec := { name := "fnStoreTakes", fn := fun _ => fun
  | [d] => { results := [.lit (.bool true)], args := [d] }
  | _ => none }
def fnStoreTakesRow : OpenClaim := { program := "ytheckjlldkkceaa", sum := "c1a461a6417e9b7cca62a51c0a82a140e8afdd85328dd7cd2d6bcad080c36393", func := "loop.example/g03319/laws.FnStoreTakes", spec := "fnStoreTakes", unfollowed := true, recurses := true, apart := false }
def FnStoreTakesSaid : Prop := fnStoreTakesRow.holds Try.pinned (OpenSpec.ofChange fnStoreTakesSpec)

/-- ITS FALSE NEIGHBOUR: 'it returns false'. Refute it at one input. -/
def fnStoreTakesWrong : ChangeSpec := { name := "fnStoreTakes", fn := fun _ => fun
  | [d] => { results := [.lit (.bool false)], args := [d] }
  | _ => none }
def FnStoreTakesWrongFalsely : Prop := fnStoreTakesRow.holds Try.pinned (OpenSpec.ofChange fnStoreTakesWrong)

/-- 'laws.FnExactHopsOf': WHATEVER THE INPUT: true; the input reads as it did. -/
def fnExactHopsOfSpec : ChangeSpec := { name := "fnExactHopsOf", fn := fun _ => fun
  | [d] => { results := [.lit (.bool true)], args := [d] }
  | _ => none }
def fnExactHopsOfRow : OpenClaim := { program := "ytheckjlldkkceaa", sum := "c1a461a6417e9b7cca62a51c0a82a140e8afdd85328dd7cd2d6bcad080c36393", func := "loop.example/g03319/laws.FnExactHopsOf", spec := "fnExactHopsOf", unfollowed := true, recurses := true, apart := false }
def FnExactHopsOfSaid : Prop := fnExactHopsOfRow.holds Try.pinned (OpenSpec.ofChange fnExactHopsOfSpec)

/-- ITS FALSE NEIGHBOUR: 'it returns false'. Refute it at one input. -/
def fnExactHopsOfWrong : ChangeSpec := { name := "fnExactHopsOf", fn := fun _ => fun
  | [d] => { results := [.lit (.bool false)], args := [d] }
  | _ => none }
def FnExactHopsOfWrongFalsely : Prop := fnExactHopsOfRow.holds Try.pinned (OpenSpec.ofChange fnExactHopsOfWrong)

/-- 'laws.FnStoreLeast': WHATEVER THE INPUT: true; the input reads as it did. -/
def fnStoreLeastSpec : ChangeSpec := { name := "fnStoreLeast", fn := fun _ => fun
  | [d] => { results := [.lit (.bool true)], args := [d] }
  | _ => none }
def fnStoreLeastRow : OpenClaim := { program := "ytheckjlldkkceaa", sum := "c1a461a6417e9b7cca62a51c0a82a140e8afdd85328dd7cd2d6bcad080c36393", func := "loop.example/g03319/laws.FnStoreLeast", spec := "fnStoreLeast", unfollowed := true, recurses := true, apart := false }
def FnStoreLeastSaid : Prop := fnStoreLeastRow.holds Try.pinned (OpenSpec.ofChange fnStoreLeastSpec)

/-- ITS FALSE NEIGHBOUR: 'it returns false'. Refute it at one input. -/
def fnStoreLeastWrong : ChangeSpec := { name := "fnStoreLeast", fn := fun _ => fun
  | [d] => { results := [.lit (.bool false)], args := [d] }
  | _ => none }
def FnStoreLeastWrongFalsely : Prop := fnStoreLeastRow.holds Try.pinned (OpenSpec.ofChange fnStoreLeastWrong)

/-- 'laws.FnExactTakeBag': WHATEVER THE INPUT: true; the input reads as it did. -/
def fnExactTakeBagSpec : ChangeSpec := { name := "fnExactTakeBag", fn := fun _ => fun
  | [d1, d2] => { results := [.lit (.bool true)], args := [d1, d2] }
  | _ => none }
def fnExactTakeBagRow : OpenClaim := { program := "ytheckjlldkkceaa", sum := "c1a461a6417e9b7cca62a51c0a82a140e8afdd85328dd7cd2d6bcad080c36393", func := "loop.example/g03319/laws.FnExactTakeBag", spec := "fnExactTakeBag", unfollowed := true, recurses := true, apart := false }
def FnExactTakeBagSaid : Prop := fnExactTakeBagRow.holds Try.pinned (OpenSpec.ofChange fnExactTakeBagSpec)

/-- ITS FALSE NEIGHBOUR: 'it returns false'. Refute it at one input. -/
def fnExactTakeBagWrong : ChangeSpec := { name := "fnExactTakeBag", fn := fun _ => fun
  | [d1, d2] => { results := [.lit (.bool false)], args := [d1, d2] }
  | _ => none }
def FnExactTakeBagWrongFalsely : Prop := fnExactTakeBagRow.holds Try.pinned (OpenSpec.ofChange fnExactTakeBagWrong)

/- THE SECOND FORM. 'bulk': how many values and letters a reading holds, each counted each time it is reached (what is shared counts as often as it is met; a slice's spare places count too). A statement '..UptoSaid' is the law's where the arguments, and the package variables that the reading takes, are together of bulk at most 1048576: NARROWER than '..Said'. Prove '..Said' where nothing that the law and all that it calls make is longer than what came in: it says more and counts as full. Else prove '..UptoSaid'. A law counts once. -/
mutual
def uptoBulk {H : Type} : DataW H → Nat
  | .lit (.string bytes) => bytes.length + 1
  | .lit _ => 1
  | .nil => 1
  | .ptr d => uptoBulk d + 1
  | .slice elems spare => uptoBulkAll elems + uptoBulkAll spare + 1
  | .agg parts => uptoBulkAll parts + 1
  | .iface _ d => uptoBulk d + 1
  | .map entries => uptoBulkEntries entries + 1
  | .held _ => 1
def uptoBulkAll {H : Type} : List (DataW H) → Nat
  | [] => 0
  | d :: r => uptoBulk d + uptoBulkAll r
def uptoBulkEntries {H : Type} : List (Lit × DataW H) → Nat
  | [] => 0
  | x :: r => uptoBulkEntry x + uptoBulkEntries r
def uptoBulkEntry {H : Type} : Lit × DataW H → Nat
  | (.string bytes, d) => bytes.length + uptoBulk d + 1
  | (_, d) => uptoBulk d + 1
 end
def uptoSmall : (H : Type) → List (DataW H) → Bool := fun _ ds => decide (uptoBulkAll ds ≤ 1048576)
def OpenSpec.upto (s : _root_.Go.ChangeSpec) : _root_.Go.OpenSpec := { _root_.Go.OpenSpec.ofChange s with cond := some uptoSmall }

/-- 'laws.FnEveryDig', WHERE WHAT IT READS IS OF BULK AT MOST 1048576: true; the input reads as it did. -/
def fnEveryDigUptoRow : OpenClaim := { program := "ytheckjlldkkceaa", sum := "c1a461a6417e9b7cca62a51c0a82a140e8afdd85328dd7cd2d6bcad080c36393", func := "loop.example/g03319/laws.FnEveryDig", spec := "fnEveryDig", unfollowed := true, recurses := true, apart := false, narrowed := true }
def FnEveryDigUptoSaid : Prop := fnEveryDigUptoRow.holds Try.pinned (OpenSpec.upto fnEveryDigSpec)

/-- 'laws.FnExactStoreOk', WHERE WHAT IT READS IS OF BULK AT MOST 1048576: true; the input reads as it did. -/
def fnExactStoreOkUptoRow : OpenClaim := { program := "ytheckjlldkkceaa", sum := "c1a461a6417e9b7cca62a51c0a82a140e8afdd85328dd7cd2d6bcad080c36393", func := "loop.example/g03319/laws.FnExactStoreOk", spec := "fnExactStoreOk", unfollowed := true, recurses := true, apart := false, narrowed := true }
def FnExactStoreOkUptoSaid : Prop := fnExactStoreOkUptoRow.holds Try.pinned (OpenSpec.upto fnExactStoreOkSpec)

/-- 'laws.FnExactNextOut', WHERE WHAT IT READS IS OF BULK AT MOST 1048576: true; the input reads as it did. -/
def fnExactNextOutUptoRow : OpenClaim := { program := "ytheckjlldkkceaa", sum := "c1a461a6417e9b7cca62a51c0a82a140e8afdd85328dd7cd2d6bcad080c36393", func := "loop.example/g03319/laws.FnExactNextOut", spec := "fnExactNextOut", unfollowed := true, recurses := true, apart := false, narrowed := true }
def FnExactNextOutUptoSaid : Prop := fnExactNextOutUptoRow.holds Try.pinned (OpenSpec.upto fnExactNextOutSpec)

/-- 'laws.FnExactBuried', WHERE WHAT IT READS IS OF BULK AT MOST 1048576: true; the input reads as it did. -/
def fnExactBuriedUptoRow : OpenClaim := { program := "ytheckjlldkkceaa", sum := "c1a461a6417e9b7cca62a51c0a82a140e8afdd85328dd7cd2d6bcad080c36393", func := "loop.example/g03319/laws.FnExactBuried", spec := "fnExactBuried", unfollowed := true, recurses := true, apart := false, narrowed := true }
def FnExactBuriedUptoSaid : Prop := fnExactBuriedUptoRow.holds Try.pinned (OpenSpec.upto fnExactBuriedSpec)

/-- 'laws.FnExactLaneFor', WHERE WHAT IT READS IS OF BULK AT MOST 1048576: true; the input reads as it did. -/
def fnExactLaneForUptoRow : OpenClaim := { program := "ytheckjlldkkceaa", sum := "c1a461a6417e9b7cca62a51c0a82a140e8afdd85328dd7cd2d6bcad080c36393", func := "loop.example/g03319/laws.FnExactLaneFor", spec := "fnExactLaneFor", unfollowed := true, recurses := true, apart := false, narrowed := true }
def FnExactLaneForUptoSaid : Prop := fnExactLaneForUptoRow.holds Try.pinned (OpenSpec.upto fnExactLaneForSpec)

/-- 'laws.FnExactLeastHops', WHERE WHAT IT READS IS OF BULK AT MOST 1048576: true; the input reads as it did. -/
def fnExactLeastHopsUptoRow : OpenClaim := { program := "ytheckjlldkkceaa", sum := "c1a461a6417e9b7cca62a51c0a82a140e8afdd85328dd7cd2d6bcad080c36393", func := "loop.example/g03319/laws.FnExactLeastHops", spec := "fnExactLeastHops", unfollowed := true, recurses := true, apart := false, narrowed := true }
def FnExactLeastHopsUptoSaid : Prop := fnExactLeastHopsUptoRow.holds Try.pinned (OpenSpec.upto fnExactLeastHopsSpec)

/-- 'laws.FnStorePuts', WHERE WHAT IT READS IS OF BULK AT MOST 1048576: true; the input reads as it did. -/
def fnStorePutsUptoRow : OpenClaim := { program := "ytheckjlldkkceaa", sum := "c1a461a6417e9b7cca62a51c0a82a140e8afdd85328dd7cd2d6bcad080c36393", func := "loop.example/g03319/laws.FnStorePuts", spec := "fnStorePuts", unfollowed := true, recurses := true, apart := false, narrowed := true }
def FnStorePutsUptoSaid : Prop := fnStorePutsUptoRow.holds Try.pinned (OpenSpec.upto fnStorePutsSpec)

/-- 'laws.FnExactPutBag', WHERE WHAT IT READS IS OF BULK AT MOST 1048576: true; the input reads as it did. -/
def fnExactPutBagUptoRow : OpenClaim := { program := "ytheckjlldkkceaa", sum := "c1a461a6417e9b7cca62a51c0a82a140e8afdd85328dd7cd2d6bcad080c36393", func := "loop.example/g03319/laws.FnExactPutBag", spec := "fnExactPutBag", unfollowed := true, recurses := true, apart := false, narrowed := true }
def FnExactPutBagUptoSaid : Prop := fnExactPutBagUptoRow.holds Try.pinned (OpenSpec.upto fnExactPutBagSpec)

/-- 'laws.FnStoreTakes', WHERE WHAT IT READS IS OF BULK AT MOST 1048576: true; the input reads as it did. -/
def fnStoreTakesUptoRow : OpenClaim := { program := "ytheckjlldkkceaa", sum := "c1a461a6417e9b7cca62a51c0a82a140e8afdd85328dd7cd2d6bcad080c36393", func := "loop.example/g03319/laws.FnStoreTakes", spec := "fnStoreTakes", unfollowed := true, recurses := true, apart := false, narrowed := true }
def FnStoreTakesUptoSaid : Prop := fnStoreTakesUptoRow.holds Try.pinned (OpenSpec.upto fnStoreTakesSpec)

/-- 'laws.FnExactHopsOf', WHERE WHAT IT READS IS OF BULK AT MOST 1048576: true; the input reads as it did. -/
def fnExactHopsOfUptoRow : OpenClaim := { program := "ytheckjlldkkceaa", sum := "c1a461a6417e9b7cca62a51c0a82a140e8afdd85328dd7cd2d6bcad080c36393", func := "loop.example/g03319/laws.FnExactHopsOf", spec := "fnExactHopsOf", unfollowed := true, recurses := true, apart := false, narrowed := true }
def FnExactHopsOfUptoSaid : Prop := fnExactHopsOfUptoRow.holds Try.pinned (OpenSpec.upto fnExactHopsOfSpec)

/-- 'laws.FnStoreLeast', WHERE WHAT IT READS IS OF BULK AT MOST 1048576: true; the input reads as it did. -/
def fnStoreLeastUptoRow : OpenClaim := { program := "ytheckjlldkkceaa", sum := "c1a461a6417e9b7cca62a51c0a82a140e8afdd85328dd7cd2d6bcad080c36393", func := "loop.example/g03319/laws.FnStoreLeast", spec := "fnStoreLeast", unfollowed := true, recurses := true, apart := false, narrowed := true }
def FnStoreLeastUptoSaid : Prop := fnStoreLeastUptoRow.holds Try.pinned (OpenSpec.upto fnStoreLeastSpec)

/-- 'laws.FnExactTakeBag', WHERE WHAT IT READS IS OF BULK AT MOST 1048576: true; the input reads as it did. -/
def fnExactTakeBagUptoRow : OpenClaim := { program := "ytheckjlldkkceaa", sum := "c1a461a6417e9b7cca62a51c0a82a140e8afdd85328dd7cd2d6bcad080c36393", func := "loop.example/g03319/laws.FnExactTakeBag", spec := "fnExactTakeBag", unfollowed := true, recurses := true, apart := false, narrowed := true }
def FnExactTakeBagUptoSaid : Prop := fnExactTakeBagUptoRow.holds Try.pinned (OpenSpec.upto fnExactTakeBagSpec)

end Rows
end Go.Proofs.Ytheckjlldkkceaa
