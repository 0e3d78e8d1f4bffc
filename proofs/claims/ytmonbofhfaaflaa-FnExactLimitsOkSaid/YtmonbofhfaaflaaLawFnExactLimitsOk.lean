/-
  The law FnExactLimitsOk of this seat, proved: for every input the call returns true and each argument reads afterwards as it read before. No condition.
-/
import Derived.Test.YtmonbofhfaaflaaRows
import Derived.Test.YtmonbofhfaaflaaPx2
import Derived.Test.YtmonbofhfaaflaaPuFnExactLimitsOk
import Derived.Test.YtmonbofhfaaflaaOpens
import Derived.WalkKit
import Derived.ProofKit
import Derived.OpenShut
import Derived.ShutString
import Derived.ChangeOld
import Derived.Below
import Derived.SizedLaws
namespace Go.Proofs.Ytmonbofhfaaflaa.fnExactLimitsOk
open Go.ChangeShapes Go.WideShapes Go.ChangeAt Go.RowKit
open Go.ChangeMaps (open_string shut_string)
open Go.Proofs.YtmonbofhfaaflaaW.PrintWords Go.Proofs.Ytmonbofhfaaflaa.Px Go.Proofs.Ytmonbofhfaaflaa.Opens
set_option linter.unusedVariables false
theorem own : ownKnob Try.prog.godebug = none := by kernel_rfl
theorem laidOut : laidOutB Try.prog = true := by kernel_rfl
theorem op_t3 : Opn Try.prog 3 (Kd.int .i64) (fun x => (Lit.int .i64 x).wf = true) := op_int Try.underlying3
theorem op_t23 : Opn Try.prog 23 k23 (fun (x : S23) => ((Lit.int .i64 x.f0).wf = true ∧ (Lit.int .i64 x.f1).wf = true)) := op_struct (d := (Kd.pair (Kd.int .i64) (Kd.int .i64))) (wf := fun (y : (Int) × (Int)) => (Lit.int .i64 y.1).wf = true ∧ (Lit.int .i64 y.2).wf = true) Try.underlying23 (by kernel_rfl) (opf_cons (off := 0) (d := (Kd.int .i64)) (r := (Kd.int .i64)) (wf := (fun (x : Int) => (Lit.int .i64 x).wf = true)) (wr := (fun (y : (Int)) => (Lit.int .i64 y).wf = true)) rfl (by kernel_rfl) op_t3 (opf_last (off := 1) (d := (Kd.int .i64)) (wf := (fun (x : Int) => (Lit.int .i64 x).wf = true)) rfl (by kernel_rfl) op_t3)) (fun x : S23 => (x.f0, x.f1)) (fun (y : (Int) × (Int)) => (⟨y.1, y.2⟩ : S23)) (fun _ => rfl)
set_option maxRecDepth 100000 in
theorem lifted (os : Os) (started : os.Started) (H : Type) (enc : TypeId × Value → H) :
    ReturnsInHanded {} Try.checked os 3 .any (Rows.fnExactLimitsOkSpec.pre6 enc Try.prog Try.f3 Rows.fnExactLimitsOkRow.domain false) (Rows.fnExactLimitsOkSpec.post enc Try.prog Try.f3 false true false false) := by
  refine returnsInHanded_of_change_sized (C := Try.checked) own started (by kernel_rfl) Try.func3
    (ChangeSpec.witness6 (enc := enc) (C := Try.checked) false ⟨#[], #[.agg #[.int .i64 0, .int .i64 0]], []⟩ 8 (by kernel_rfl) (by kernel_rfl) (by kernel_rfl) (by kernel_rfl)) ?_
  intro W base args ds gs before hval0 hW hcnd hsz0 _
  have hsz : (DataW.weightsEach Try.prog (Try.f3.params.toList ++ Rows.fnExactLimitsOkSpec.plain.varTypes Try.prog) (ds ++ gs)).all (· ≤ reachBytes) = true := hsz0
  have hval : ∀ (j : Nat) t v, Try.f3.params[j]? = some t → args[j]? = some v → Value.okWide Try.prog W .any base t v := hval0
  have hW' := hW
  obtain ⟨p, q, hA0, hV, rfl, hfz, hnd⟩ := hW
  have hA : DataW.TrodAll enc Try.prog W 0 (fun _ => true) true Try.f3.params.toList args.toList ds p := hA0
  rw [Try.params3] at hA hval hsz
  obtain ⟨v0, vs0, d0, ds0, p0, q0, hargs, rfl, rfl, h0, r0⟩ := trodAll_cons hA
  obtain ⟨rfl, rfl, rfl⟩ := trodAll_nil r0
  obtain rfl : args = #[v0] := by cases args; simp_all
  obtain ⟨rfl, rfl⟩ := trodVars_none hV
  have k0 := h0
  have lt0 : ∀ x ∈ p0, x.block < W.heap.size := by obtain ⟨m, hm⟩ := k0; exact DataW.trod_lt m _ _ _ hm
  obtain ⟨cs0, rfl, _⟩ := okWide_struct Try.underlying23 (hval 0 23 v0 rfl rfl)
  obtain ⟨x0, y0, w0⟩ : ∃ x, k23.K W x cs0.toList ∧ ((Lit.int .i64 x.f0).wf = true ∧ (Lit.int .i64 x.f1).wf = true) := by
    obtain ⟨fu, hf⟩ := h0
    exact (op_t23).op hf (weightsEach_mem (i := 0) rfl rfl hsz)
  obtain e0 := k23_open y0
  obtain rfl : cs0 = #[.int .i64 x0.f0, .int .i64 x0.f1] := Array.ext' (by simpa using e0)
  have hP := Pu.FnExactLimitsOk x0.f0 x0.f1 w0.1 w0.2
  clear hA0 hval0 hsz0 hsz
  refine (laws_FnExactLimitsOk.calls _ _ true W  ⟨rfl⟩ hP).mono fun e W' ⟨he, bel0⟩ => ?_
  have bel : Below W.heap.size W W' := bel0
  subst he
  exact ⟨_, rfl, _, _, _, [], _, [], hW', trodAll_mk1 (shut_bool Try.underlying4 _), (trodAll_cons_mk (Below.trod laidOut (by kernel_rfl) (of_decide_eq_true (by kernel_rfl)) k0 bel lt0) trodAll_mk0), rfl, bel.frame _, fun h => by cases h⟩
theorem over : Rows.fnExactLimitsOkRow.holds Try.pinned (OpenSpec.ofChange Rows.fnExactLimitsOkSpec) :=
  OpenClaim.holds_of_wide 3 Try.f3 rfl rfl rfl rfl rfl rfl rfl ⟨rfl, rfl, rfl, rfl, rfl⟩ rfl rfl rfl rfl rfl (by kernel_rfl) Try.func3 (by kernel_rfl)
    (of_decide_eq_true (by kernel_rfl)) (by unfold Func.isWrapper; first | (rw [if_pos (by decide +kernel)]; kernel_rfl) | (rw [if_neg (by decide +kernel)]; exact ⟨rfl, rfl⟩))
    (fun os started H enc _ => lifted os started H enc)
theorem proved : Rows.FnExactLimitsOkSaid := over
end Go.Proofs.Ytmonbofhfaaflaa.fnExactLimitsOk
namespace Go.Proofs.Ytmonbofhfaaflaa
/-- The row, under a short name, for the claim. -/
theorem fnExactLimitsOk_holds : Rows.FnExactLimitsOkSaid := fnExactLimitsOk.proved
#print axioms fnExactLimitsOk_holds
end Go.Proofs.Ytmonbofhfaaflaa
