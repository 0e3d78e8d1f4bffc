/-
  The law FnExactSideDifference of this seat, proved: for every input the call returns true and each argument reads afterwards as it read before. No condition.
-/
import Derived.Test.YtmonbofhfaaflaaRows
import Derived.Test.YtmonbofhfaaflaaPx3
import Derived.Test.YtmonbofhfaaflaaPuFnExactSideDifference
import Derived.Test.YtmonbofhfaaflaaOpens
import Derived.WalkKit
import Derived.ProofKit
import Derived.OpenShut
import Derived.ShutString
import Derived.ChangeOld
import Derived.Below
import Derived.SizedLaws
namespace Go.Proofs.Ytmonbofhfaaflaa.fnExactSideDifference
open Go.ChangeShapes Go.WideShapes Go.ChangeAt Go.RowKit
open Go.ChangeMaps (open_string shut_string)
open Go.Proofs.YtmonbofhfaaflaaW.PrintWords Go.Proofs.Ytmonbofhfaaflaa.Px Go.Proofs.Ytmonbofhfaaflaa.Opens
set_option linter.unusedVariables false
theorem own : ownKnob Try.prog.godebug = none := by kernel_rfl
theorem laidOut : laidOutB Try.prog = true := by kernel_rfl
theorem op_t3 : Opn Try.prog 3 (Kd.int .i64) (fun x => (Lit.int .i64 x).wf = true) := op_int Try.underlying3
theorem op_t28 : Opn Try.prog 28 (Kd.slice 3 (Kd.int .i64)) (fun (x : List Int) => (x.length * 8 ≤ 140737488351232 ∧ x.length ≤ maxLen ∧ ∀ e1_ ∈ x, (Lit.int .i64 e1_).wf = true)) := op_slice 3 Try.underlying28 op_t3 (by kernel_rfl) 8 (by kernel_rfl)
theorem op_t4 : Opn Try.prog 4 Kd.bool (fun _ => True) := op_bool Try.underlying4
theorem op_t29 : Opn Try.prog 29 (Kd.slice 4 Kd.bool) (fun (x : List Bool) => (x.length * 1 ≤ 140737488351232 ∧ x.length ≤ maxLen ∧ ∀ e1_ ∈ x, True)) := op_slice 4 Try.underlying29 op_t4 (by kernel_rfl) 1 (by kernel_rfl)
set_option maxRecDepth 100000 in
theorem lifted (os : Os) (started : os.Started) (H : Type) (enc : TypeId × Value → H) :
    ReturnsInHanded {} Try.checked os 4 .any (Rows.fnExactSideDifferenceSpec.pre6 enc Try.prog Try.f4 Rows.fnExactSideDifferenceRow.domain false) (Rows.fnExactSideDifferenceSpec.post enc Try.prog Try.f4 false true false false) := by
  refine returnsInHanded_of_change_sized (C := Try.checked) own started (by kernel_rfl) Try.func4
    (ChangeSpec.witness6 (enc := enc) (C := Try.checked) false ⟨#[], #[.slice none 0 0, .slice none 0 0], []⟩ 8 (by kernel_rfl) (by kernel_rfl) (by kernel_rfl) (by kernel_rfl)) ?_
  intro W base args ds gs before hval0 hW hcnd hsz0 _
  have hsz : (DataW.weightsEach Try.prog (Try.f4.params.toList ++ Rows.fnExactSideDifferenceSpec.plain.varTypes Try.prog) (ds ++ gs)).all (· ≤ reachBytes) = true := hsz0
  have hval : ∀ (j : Nat) t v, Try.f4.params[j]? = some t → args[j]? = some v → Value.okWide Try.prog W .any base t v := hval0
  have hW' := hW
  obtain ⟨p, q, hA0, hV, rfl, hfz, hnd⟩ := hW
  have hA : DataW.TrodAll enc Try.prog W 0 (fun _ => true) true Try.f4.params.toList args.toList ds p := hA0
  rw [Try.params4] at hA hval hsz
  obtain ⟨v0, vs0, d0, ds0, p0, q0, hargs, rfl, rfl, h0, r0⟩ := trodAll_cons hA
  obtain ⟨v1, vs1, d1, ds1, p1, q1, rfl, rfl, rfl, h1, r1⟩ := trodAll_cons r0
  obtain ⟨rfl, rfl, rfl⟩ := trodAll_nil r1
  obtain rfl : args = #[v0, v1] := by cases args; simp_all
  obtain ⟨rfl, rfl⟩ := trodVars_none hV
  have k0 := h0
  have lt0 : ∀ x ∈ p0, x.block < W.heap.size := by obtain ⟨m, hm⟩ := k0; exact DataW.trod_lt m _ _ _ hm
  obtain ⟨A0, len0, c0, rfl⟩ := okWide_slice Try.underlying28 (hval 0 28 v0 rfl rfl)
  obtain ⟨l0, y0, w0⟩ : ∃ x, (Kd.slice 3 (Kd.int .i64)).K W x [.slice A0 len0 c0] ∧ (x.length * 8 ≤ 140737488351232 ∧ x.length ≤ maxLen ∧ ∀ e1_ ∈ x, (Lit.int .i64 e1_).wf = true) := by
    obtain ⟨fu, hf⟩ := h0
    exact (op_t28).op hf (weightsEach_mem (i := 0) rfl rfl hsz)
  obtain ⟨_, _, e0, hc0, hr0⟩ := y0
  obtain ⟨rfl, rfl, rfl⟩ : A0 = _ ∧ len0 = _ ∧ c0 = _ := by simpa using e0
  have k1 := h1
  have lt1 : ∀ x ∈ p1, x.block < W.heap.size := by obtain ⟨m, hm⟩ := k1; exact DataW.trod_lt m _ _ _ hm
  obtain ⟨A1, len1, c1, rfl⟩ := okWide_slice Try.underlying29 (hval 1 29 v1 rfl rfl)
  obtain ⟨l1, y1, w1⟩ : ∃ x, (Kd.slice 4 Kd.bool).K W x [.slice A1 len1 c1] ∧ (x.length * 1 ≤ 140737488351232 ∧ x.length ≤ maxLen ∧ ∀ e1_ ∈ x, True) := by
    obtain ⟨fu, hf⟩ := h1
    exact (op_t29).op hf (weightsEach_mem (i := 1) rfl rfl hsz)
  obtain ⟨_, _, e1, hc1, hr1⟩ := y1
  obtain ⟨rfl, rfl, rfl⟩ : A1 = _ ∧ len1 = _ ∧ c1 = _ := by simpa using e1
  obtain ⟨k, hP⟩ := Pu.FnExactSideDifference l0 l1 w0 w1
  clear hA0 hval0 hsz0 hsz
  refine (laws_FnExactSideDifference.calls k _ _ _ _ _ _ true W hr0 hc0 hr1 hc1 ⟨rfl⟩ hP).mono fun e W' ⟨he, bel0⟩ => ?_
  have bel : Below W.heap.size W W' := bel0
  subst he
  exact ⟨_, rfl, _, _, _, [], _, [], hW', trodAll_mk1 (shut_bool Try.underlying4 _), (trodAll_cons_mk (Below.trod laidOut (by kernel_rfl) (of_decide_eq_true (by kernel_rfl)) k0 bel lt0) (trodAll_cons_mk (Below.trod laidOut (by kernel_rfl) (of_decide_eq_true (by kernel_rfl)) k1 bel lt1) trodAll_mk0)), rfl, bel.frame _, fun h => by cases h⟩
theorem over : Rows.fnExactSideDifferenceRow.holds Try.pinned (OpenSpec.ofChange Rows.fnExactSideDifferenceSpec) :=
  OpenClaim.holds_of_wide 4 Try.f4 rfl rfl rfl rfl rfl rfl rfl ⟨rfl, rfl, rfl, rfl, rfl⟩ rfl rfl rfl rfl rfl (by kernel_rfl) Try.func4 (by kernel_rfl)
    (of_decide_eq_true (by kernel_rfl)) (by unfold Func.isWrapper; first | (rw [if_pos (by decide +kernel)]; kernel_rfl) | (rw [if_neg (by decide +kernel)]; exact ⟨rfl, rfl⟩))
    (fun os started H enc _ => lifted os started H enc)
theorem proved : Rows.FnExactSideDifferenceSaid := over
end Go.Proofs.Ytmonbofhfaaflaa.fnExactSideDifference
namespace Go.Proofs.Ytmonbofhfaaflaa
/-- The row, under a short name, for the claim. -/
theorem fnExactSideDifference_holds : Rows.FnExactSideDifferenceSaid := fnExactSideDifference.proved
#print axioms fnExactSideDifference_holds
end Go.Proofs.Ytmonbofhfaaflaa
