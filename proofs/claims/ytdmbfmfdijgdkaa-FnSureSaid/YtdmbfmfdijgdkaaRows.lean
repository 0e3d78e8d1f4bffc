/-
  No cell of these rows narrows 'for every input' (looked for: loops, veiled, ifaces, maps, wideKeys, modest, calm, conditions, laid).
  DERIVED. THE GIVEN ROWS OF THIS SEAT. 10 by the template 'for every input the law returns true; each argument reads behind the call as it read before'; 0 by the template 'total and deterministic' (their statements: YtdmbfmfdijgdkaaTotals.lean).
  GIVEN WITH THE SEED: the statements are not yours to turn. If you find one false, say at which input.
  Laid BY PROGRAM, IN A SANDBOX (cutbox-rows.mjs): the forced cells as the released guide's own fill.sh prints them over the translation e844c705a0a97935… (all of the seat's roots in one cut). By AI agents, Wed Nov 11 2026. No macro, syntax, notation, axiom, sorry.
-/
import Derived.Test.YtdmbfmfdijgdkaaChecked
import GoSem.Claim
import GoSem.ClaimJoined
import GoSem.ClaimMapViews
import Derived.JoinedTies
import Derived.KernelRfl
namespace Go.Proofs.Ytdmbfmfdijgdkaa
/- THE CELL 'sum', in the pinned program and in every row, IS THE sha256 OF THE DUMP (.gsa) THAT YtdmbfmfdijgdkaaProg.lean LOADS. Nothing in Lean hashes anything: it is a label: what it is worth is what the hold of that sum in a sandbox is worth. -/
noncomputable def Try.pinned : Pinned := { name := "ytdmbfmfdijgdkaa", sum := "e844c705a0a979355e3856f23e9e0f8ffdc99c1a197eb6c990c034288285d000", checked := Try.checked }
namespace Rows
def none {H : Type} : Left H := { results := [], args := [] }

/-- 'laws.FnExactDropped': WHATEVER THE INPUT: true; the input reads as it did. -/
def fnExactDroppedSpec : ChangeSpec := { name := "fnExactDropped", fn := fun _ => fun
  | [d1, d2, d3] => { results := [.lit (.bool true)], args := [d1, d2, d3] }
  | _ => none }
def fnExactDroppedRow : OpenClaim := { program := "ytdmbfmfdijgdkaa", sum := "e844c705a0a979355e3856f23e9e0f8ffdc99c1a197eb6c990c034288285d000", func := "loop.example/g03319/laws.FnExactDropped", spec := "fnExactDropped", apart := false }
def FnExactDroppedSaid : Prop := fnExactDroppedRow.holds Try.pinned (OpenSpec.ofChange fnExactDroppedSpec)

/-- ITS FALSE NEIGHBOUR: 'it returns false'. Refute it at one input. -/
def fnExactDroppedWrong : ChangeSpec := { name := "fnExactDropped", fn := fun _ => fun
  | [d1, d2, d3] => { results := [.lit (.bool false)], args := [d1, d2, d3] }
  | _ => none }
def FnExactDroppedWrongFalsely : Prop := fnExactDroppedRow.holds Try.pinned (OpenSpec.ofChange fnExactDroppedWrong)

/-- 'laws.FnExactServe': WHATEVER THE INPUT: true; the input reads as it did. -/
def fnExactServeSpec : ChangeSpec := { name := "fnExactServe", fn := fun _ => fun
  | [d1, d2, d3] => { results := [.lit (.bool true)], args := [d1, d2, d3] }
  | _ => none }
def fnExactServeRow : OpenClaim := { program := "ytdmbfmfdijgdkaa", sum := "e844c705a0a979355e3856f23e9e0f8ffdc99c1a197eb6c990c034288285d000", func := "loop.example/g03319/laws.FnExactServe", spec := "fnExactServe", apart := false }
def FnExactServeSaid : Prop := fnExactServeRow.holds Try.pinned (OpenSpec.ofChange fnExactServeSpec)

/-- ITS FALSE NEIGHBOUR: 'it returns false'. Refute it at one input. -/
def fnExactServeWrong : ChangeSpec := { name := "fnExactServe", fn := fun _ => fun
  | [d1, d2, d3] => { results := [.lit (.bool false)], args := [d1, d2, d3] }
  | _ => none }
def FnExactServeWrongFalsely : Prop := fnExactServeRow.holds Try.pinned (OpenSpec.ofChange fnExactServeWrong)

/-- 'laws.FnExactLeastStaff': WHATEVER THE INPUT: true; the input reads as it did. -/
def fnExactLeastStaffSpec : ChangeSpec := { name := "fnExactLeastStaff", fn := fun _ => fun
  | [d1, d2] => { results := [.lit (.bool true)], args := [d1, d2] }
  | _ => none }
def fnExactLeastStaffRow : OpenClaim := { program := "ytdmbfmfdijgdkaa", sum := "e844c705a0a979355e3856f23e9e0f8ffdc99c1a197eb6c990c034288285d000", func := "loop.example/g03319/laws.FnExactLeastStaff", spec := "fnExactLeastStaff", apart := false }
def FnExactLeastStaffSaid : Prop := fnExactLeastStaffRow.holds Try.pinned (OpenSpec.ofChange fnExactLeastStaffSpec)

/-- ITS FALSE NEIGHBOUR: 'it returns false'. Refute it at one input. -/
def fnExactLeastStaffWrong : ChangeSpec := { name := "fnExactLeastStaff", fn := fun _ => fun
  | [d1, d2] => { results := [.lit (.bool false)], args := [d1, d2] }
  | _ => none }
def FnExactLeastStaffWrongFalsely : Prop := fnExactLeastStaffRow.holds Try.pinned (OpenSpec.ofChange fnExactLeastStaffWrong)

/-- 'laws.FnServed': WHATEVER THE INPUT: true; the input reads as it did. -/
def fnServedSpec : ChangeSpec := { name := "fnServed", fn := fun _ => fun
  | [d] => { results := [.lit (.bool true)], args := [d] }
  | _ => none }
def fnServedRow : OpenClaim := { program := "ytdmbfmfdijgdkaa", sum := "e844c705a0a979355e3856f23e9e0f8ffdc99c1a197eb6c990c034288285d000", func := "loop.example/g03319/laws.FnServed", spec := "fnServed", apart := false }
def FnServedSaid : Prop := fnServedRow.holds Try.pinned (OpenSpec.ofChange fnServedSpec)

/-- ITS FALSE NEIGHBOUR: 'it returns false'. Refute it at one input. -/
def fnServedWrong : ChangeSpec := { name := "fnServed", fn := fun _ => fun
  | [d] => { results := [.lit (.bool false)], args := [d] }
  | _ => none }
def FnServedWrongFalsely : Prop := fnServedRow.holds Try.pinned (OpenSpec.ofChange fnServedWrong)

/-- 'laws.FnExactMostServed': WHATEVER THE INPUT: true; the input reads as it did. -/
def fnExactMostServedSpec : ChangeSpec := { name := "fnExactMostServed", fn := fun _ => fun
  | [d1, d2, d3] => { results := [.lit (.bool true)], args := [d1, d2, d3] }
  | _ => none }
def fnExactMostServedRow : OpenClaim := { program := "ytdmbfmfdijgdkaa", sum := "e844c705a0a979355e3856f23e9e0f8ffdc99c1a197eb6c990c034288285d000", func := "loop.example/g03319/laws.FnExactMostServed", spec := "fnExactMostServed", apart := false }
def FnExactMostServedSaid : Prop := fnExactMostServedRow.holds Try.pinned (OpenSpec.ofChange fnExactMostServedSpec)

/-- ITS FALSE NEIGHBOUR: 'it returns false'. Refute it at one input. -/
def fnExactMostServedWrong : ChangeSpec := { name := "fnExactMostServed", fn := fun _ => fun
  | [d1, d2, d3] => { results := [.lit (.bool false)], args := [d1, d2, d3] }
  | _ => none }
def FnExactMostServedWrongFalsely : Prop := fnExactMostServedRow.holds Try.pinned (OpenSpec.ofChange fnExactMostServedWrong)

/-- 'laws.FnStaff': WHATEVER THE INPUT: true; the input reads as it did. -/
def fnStaffSpec : ChangeSpec := { name := "fnStaff", fn := fun _ => fun
  | [d] => { results := [.lit (.bool true)], args := [d] }
  | _ => none }
def fnStaffRow : OpenClaim := { program := "ytdmbfmfdijgdkaa", sum := "e844c705a0a979355e3856f23e9e0f8ffdc99c1a197eb6c990c034288285d000", func := "loop.example/g03319/laws.FnStaff", spec := "fnStaff", apart := false }
def FnStaffSaid : Prop := fnStaffRow.holds Try.pinned (OpenSpec.ofChange fnStaffSpec)

/-- ITS FALSE NEIGHBOUR: 'it returns false'. Refute it at one input. -/
def fnStaffWrong : ChangeSpec := { name := "fnStaff", fn := fun _ => fun
  | [d] => { results := [.lit (.bool false)], args := [d] }
  | _ => none }
def FnStaffWrongFalsely : Prop := fnStaffRow.holds Try.pinned (OpenSpec.ofChange fnStaffWrong)

/-- 'laws.FnMissing': WHATEVER THE INPUT: true; the input reads as it did. -/
def fnMissingSpec : ChangeSpec := { name := "fnMissing", fn := fun _ => fun
  | [d] => { results := [.lit (.bool true)], args := [d] }
  | _ => none }
def fnMissingRow : OpenClaim := { program := "ytdmbfmfdijgdkaa", sum := "e844c705a0a979355e3856f23e9e0f8ffdc99c1a197eb6c990c034288285d000", func := "loop.example/g03319/laws.FnMissing", spec := "fnMissing", unfollowed := true, recurses := true, apart := false }
def FnMissingSaid : Prop := fnMissingRow.holds Try.pinned (OpenSpec.ofChange fnMissingSpec)

/-- ITS FALSE NEIGHBOUR: 'it returns false'. Refute it at one input. -/
def fnMissingWrong : ChangeSpec := { name := "fnMissing", fn := fun _ => fun
  | [d] => { results := [.lit (.bool false)], args := [d] }
  | _ => none }
def FnMissingWrongFalsely : Prop := fnMissingRow.holds Try.pinned (OpenSpec.ofChange fnMissingWrong)

/-- 'laws.FnExactChoices': WHATEVER THE INPUT: true; the input reads as it did. -/
def fnExactChoicesSpec : ChangeSpec := { name := "fnExactChoices", fn := fun _ => fun
  | [d1, d2, d3] => { results := [.lit (.bool true)], args := [d1, d2, d3] }
  | _ => none }
def fnExactChoicesRow : OpenClaim := { program := "ytdmbfmfdijgdkaa", sum := "e844c705a0a979355e3856f23e9e0f8ffdc99c1a197eb6c990c034288285d000", func := "loop.example/g03319/laws.FnExactChoices", spec := "fnExactChoices", unfollowed := true, recurses := true, apart := false }
def FnExactChoicesSaid : Prop := fnExactChoicesRow.holds Try.pinned (OpenSpec.ofChange fnExactChoicesSpec)

/-- ITS FALSE NEIGHBOUR: 'it returns false'. Refute it at one input. -/
def fnExactChoicesWrong : ChangeSpec := { name := "fnExactChoices", fn := fun _ => fun
  | [d1, d2, d3] => { results := [.lit (.bool false)], args := [d1, d2, d3] }
  | _ => none }
def FnExactChoicesWrongFalsely : Prop := fnExactChoicesRow.holds Try.pinned (OpenSpec.ofChange fnExactChoicesWrong)

/-- 'laws.FnExactSure': WHATEVER THE INPUT: true; the input reads as it did. -/
def fnExactSureSpec : ChangeSpec := { name := "fnExactSure", fn := fun _ => fun
  | [d1, d2] => { results := [.lit (.bool true)], args := [d1, d2] }
  | _ => none }
def fnExactSureRow : OpenClaim := { program := "ytdmbfmfdijgdkaa", sum := "e844c705a0a979355e3856f23e9e0f8ffdc99c1a197eb6c990c034288285d000", func := "loop.example/g03319/laws.FnExactSure", spec := "fnExactSure", unfollowed := true, recurses := true, apart := false }
def FnExactSureSaid : Prop := fnExactSureRow.holds Try.pinned (OpenSpec.ofChange fnExactSureSpec)

/-- ITS FALSE NEIGHBOUR: 'it returns false'. Refute it at one input. -/
def fnExactSureWrong : ChangeSpec := { name := "fnExactSure", fn := fun _ => fun
  | [d1, d2] => { results := [.lit (.bool false)], args := [d1, d2] }
  | _ => none }
def FnExactSureWrongFalsely : Prop := fnExactSureRow.holds Try.pinned (OpenSpec.ofChange fnExactSureWrong)

/-- 'laws.FnSure': WHATEVER THE INPUT: true; the input reads as it did. -/
def fnSureSpec : ChangeSpec := { name := "fnSure", fn := fun _ => fun
  | [d] => { results := [.lit (.bool true)], args := [d] }
  | _ => none }
def fnSureRow : OpenClaim := { program := "ytdmbfmfdijgdkaa", sum := "e844c705a0a979355e3856f23e9e0f8ffdc99c1a197eb6c990c034288285d000", func := "loop.example/g03319/laws.FnSure", spec := "fnSure", unfollowed := true, recurses := true, apart := false }
def FnSureSaid : Prop := fnSureRow.holds Try.pinned (OpenSpec.ofChange fnSureSpec)

/-- ITS FALSE NEIGHBOUR: 'it returns false'. Refute it at one input. -/
def fnSureWrong : ChangeSpec := { name := "fnSure", fn := fun _ => fun
  | [d] => { results := [.lit (.bool false)], args := [d] }
  | _ => none }
def FnSureWrongFalsely : Prop := fnSureRow.holds Try.pinned (OpenSpec.ofChange fnSureWrong)

/- THE SECOND FORM. 'bulk': how many values and letters a reading holds, each counted each time it is reached (what is shared counts as often as it is met; a slice's spare places count too). A statement '..UptoSaid' is the law's where the arguments, and the package variables that the reading takes, are together of bulk at most 1048576: NARROWER than '..Said'. Prove '..Said' where nothing that the law and all that it calls make is longer than what came in: it says more and counts as full. Else prove '..UptoSaid'. A law counts once. -/
mutual
def uptoBulk {H : Type} : DataW H → Nat
  | .lit (.string bytes) => bytes.length + 1
  | .lit _ => 1
  | .nil => 1
  | .ptr d => uptoBulk d + 1
  | .slice elems spare => uptoBulkAll elems + uptoBulkAll spare + 1
  | .agg parts => uptoBulkAll parts + 1
  | .iface _ d => uptoBulk d + 1
  | .map entries => uptoBulkEntries entries + 1
  | .held _ => 1
def uptoBulkAll {H : Type} : List (DataW H) → Nat
  | [] => 0
  | d :: r => uptoBulk d + uptoBulkAll r
def uptoBulkEntries {H : Type} : List (Lit × DataW H) → Nat
  | [] => 0
  | x :: r => uptoBulkEntry x + uptoBulkEntries r
def uptoBulkEntry {H : Type} : Lit × DataW H → Nat
  | (.string bytes, d) => bytes.length + uptoBulk d + 1
  | (_, d) => uptoBulk d + 1
 end
def uptoSmall : (H : Type) → List (DataW H) → Bool := fun _ ds => decide (uptoBulkAll ds ≤ 1048576)
def OpenSpec.upto (s : _root_.Go.ChangeSpec) : _root_.Go.OpenSpec := { _root_.Go.OpenSpec.ofChange s with cond := some uptoSmall }

/-- 'laws.FnExactDropped', WHERE WHAT IT READS IS OF BULK AT MOST 1048576: true; the input reads as it did. -/
def fnExactDroppedUptoRow : OpenClaim := { program := "ytdmbfmfdijgdkaa", sum := "e844c705a0a979355e3856f23e9e0f8ffdc99c1a197eb6c990c034288285d000", func := "loop.example/g03319/laws.FnExactDropped", spec := "fnExactDropped", apart := false, narrowed := true }
def FnExactDroppedUptoSaid : Prop := fnExactDroppedUptoRow.holds Try.pinned (OpenSpec.upto fnExactDroppedSpec)

/-- 'laws.FnExactServe', WHERE WHAT IT READS IS OF BULK AT MOST 1048576: true; the input reads as it did. -/
def fnExactServeUptoRow : OpenClaim := { program := "ytdmbfmfdijgdkaa", sum := "e844c705a0a979355e3856f23e9e0f8ffdc99c1a197eb6c990c034288285d000", func := "loop.example/g03319/laws.FnExactServe", spec := "fnExactServe", apart := false, narrowed := true }
def FnExactServeUptoSaid : Prop := fnExactServeUptoRow.holds Try.pinned (OpenSpec.upto fnExactServeSpec)

/-- 'laws.FnExactLeastStaff', WHERE WHAT IT READS IS OF BULK AT MOST 1048576: true; the input reads as it did. -/
def fnExactLeastStaffUptoRow : OpenClaim := { program := "ytdmbfmfdijgdkaa", sum := "e844c705a0a979355e3856f23e9e0f8ffdc99c1a197eb6c990c034288285d000", func := "loop.example/g03319/laws.FnExactLeastStaff", spec := "fnExactLeastStaff", apart := false, narrowed := true }
def FnExactLeastStaffUptoSaid : Prop := fnExactLeastStaffUptoRow.holds Try.pinned (OpenSpec.upto fnExactLeastStaffSpec)

/-- 'laws.FnServed', WHERE WHAT IT READS IS OF BULK AT MOST 1048576: true; the input reads as it did. -/
def fnServedUptoRow : OpenClaim := { program := "ytdmbfmfdijgdkaa", sum := "e844c705a0a979355e3856f23e9e0f8ffdc99c1a197eb6c990c034288285d000", func := "loop.example/g03319/laws.FnServed", spec := "fnServed", apart := false, narrowed := true }
def FnServedUptoSaid : Prop := fnServedUptoRow.holds Try.pinned (OpenSpec.upto fnServedSpec)

/-- 'laws.FnExactMostServed', WHERE WHAT IT READS IS OF BULK AT MOST 1048576: true; the input reads as it did. -/
def fnExactMostServedUptoRow : OpenClaim := { program := "ytdmbfmfdijgdkaa", sum := "e844c705a0a979355e3856f23e9e0f8ffdc99c1a197eb6c990c034288285d000", func := "loop.example/g03319/laws.FnExactMostServed", spec := "fnExactMostServed", apart := false, narrowed := true }
def FnExactMostServedUptoSaid : Prop := fnExactMostServedUptoRow.holds Try.pinned (OpenSpec.upto fnExactMostServedSpec)

/-- 'laws.FnStaff', WHERE WHAT IT READS IS OF BULK AT MOST 1048576: true; the input reads as it did. -/
def fnStaffUptoRow : OpenClaim := { program := "ytdmbfmfdijgdkaa", sum := "e844c705a0a979355e3856f23e9e0f8ffdc99c1a197eb6c990c034288285d000", func := "loop.example/g03319/laws.FnStaff", spec := "fnStaff", apart := false, narrowed := true }
def FnStaffUptoSaid : Prop := fnStaffUptoRow.holds Try.pinned (OpenSpec.upto fnStaffSpec)

/-- 'laws.FnMissing', WHERE WHAT IT READS IS OF BULK AT MOST 1048576: true; the input reads as it did. -/
def fnMissingUptoRow : OpenClaim := { program := "ytdmbfmfdijgdkaa", sum := "e844c705a0a979355e3856f23e9e0f8ffdc99c1a197eb6c990c034288285d000", func := "loop.example/g03319/laws.FnMissing", spec := "fnMissing", unfollowed := true, recurses := true, apart := false, narrowed := true }
def FnMissingUptoSaid : Prop := fnMissingUptoRow.holds Try.pinned (OpenSpec.upto fnMissingSpec)

/-- 'laws.FnExactChoices', WHERE WHAT IT READS IS OF BULK AT MOST 1048576: true; the input reads as it did. -/
def fnExactChoicesUptoRow : OpenClaim := { program := "ytdmbfmfdijgdkaa", sum := "e844c705a0a979355e3856f23e9e0f8ffdc99c1a197eb6c990c034288285d000", func := "loop.example/g03319/laws.FnExactChoices", spec := "fnExactChoices", unfollowed := true, recurses := true, apart := false, narrowed := true }
def FnExactChoicesUptoSaid : Prop := fnExactChoicesUptoRow.holds Try.pinned (OpenSpec.upto fnExactChoicesSpec)

/-- 'laws.FnExactSure', WHERE WHAT IT READS IS OF BULK AT MOST 1048576: true; the input reads as it did. -/
def fnExactSureUptoRow : OpenClaim := { program := "ytdmbfmfdijgdkaa", sum := "e844c705a0a979355e3856f23e9e0f8ffdc99c1a197eb6c990c034288285d000", func := "loop.example/g03319/laws.FnExactSure", spec := "fnExactSure", unfollowed := true, recurses := true, apart := false, narrowed := true }
def FnExactSureUptoSaid : Prop := fnExactSureUptoRow.holds Try.pinned (OpenSpec.upto fnExactSureSpec)

/-- 'laws.FnSure', WHERE WHAT IT READS IS OF BULK AT MOST 1048576: true; the input reads as it did. -/
def fnSureUptoRow : OpenClaim := { program := "ytdmbfmfdijgdkaa", sum := "e844c705a0a979355e3856f23e9e0f8ffdc99c1a197eb6c990c034288285d000", func := "loop.example/g03319/laws.FnSure", spec := "fnSure", unfollowed := true, recurses := true, apart := false, narrowed := true }
def FnSureUptoSaid : Prop := fnSureUptoRow.holds Try.pinned (OpenSpec.upto fnSureSpec)

end Rows
end Go.Proofs.Ytdmbfmfdijgdkaa
