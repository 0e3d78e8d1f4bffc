import Derived.Test.YtmonbofhfaaflaaRows
import Derived.Test.YtmonbofhfaaflaaZePx24
import Derived.Test.YtmonbofhfaaflaaZePuFnExactDecide
import Derived.Test.YtmonbofhfaaflaaZeOpens
import Derived.WalkKit
import Derived.ProofKit
import Derived.OpenShut
import Derived.ShutString
import Derived.ChangeOld
import Derived.Below
import Derived.SizedLaws
namespace Go.Proofs.Ytmonbofhfaaflaa.fnExactDecide
open Go.ChangeShapes Go.WideShapes Go.ChangeAt Go.RowKit
open Go.ChangeMaps (open_string shut_string)
open Go.Proofs.YtmonbofhfaaflaaW.PrintWords Go.Proofs.Ytmonbofhfaaflaa.Px Go.Proofs.Ytmonbofhfaaflaa.Opens
set_option linter.unusedVariables false
theorem own : ownKnob Try.prog.godebug = none := by kernel_rfl
theorem laidOut : laidOutB Try.prog = true := by kernel_rfl
theorem op_t3 : Opn Try.prog 3 (Kd.int .i64) (fun x => (Lit.int .i64 x).wf = true) := op_int Try.underlying3
theorem op_t28 : Opn Try.prog 28 (Kd.slice 3 (Kd.int .i64)) (fun (x : List Int) => (x.length * 8 ≤ 140737488351232 ∧ x.length ≤ maxLen ∧ ∀ e1_ ∈ x, (Lit.int .i64 e1_).wf = true)) := op_slice 3 Try.underlying28 op_t3 (by kernel_rfl) 8 (by kernel_rfl)
theorem op_t50 : Opn Try.prog 50 k50 (fun (x : S50) => ((x.f0.length * 8 ≤ 140737488351232 ∧ x.f0.length ≤ maxLen ∧ ∀ e1_ ∈ x.f0, (Lit.int .i64 e1_).wf = true))) := op_struct (d := (Kd.slice 3 (Kd.int .i64))) (wf := fun (y : (List Int)) => (y.length * 8 ≤ 140737488351232 ∧ y.length ≤ maxLen ∧ ∀ e1_ ∈ y, (Lit.int .i64 e1_).wf = true)) Try.underlying50 (by kernel_rfl) (opf_last (off := 0) (d := (Kd.slice 3 (Kd.int .i64))) (wf := (fun (x : List Int) => (x.length * 8 ≤ 140737488351232 ∧ x.length ≤ maxLen ∧ ∀ e1_ ∈ x, (Lit.int .i64 e1_).wf = true))) rfl (by kernel_rfl) op_t28) (fun x : S50 => x.f0) (fun (y : (List Int)) => (⟨y⟩ : S50)) (fun _ => rfl)
theorem op_t37 : Opn Try.prog 37 k37 (fun (x : S37) => ((Lit.int .i64 x.f0).wf = true ∧ (Lit.int .i64 x.f1).wf = true ∧ (Lit.int .i64 x.f2).wf = true)) := op_struct (d := (Kd.pair (Kd.int .i64) (Kd.pair (Kd.int .i64) (Kd.int .i64)))) (wf := fun (y : (Int) × (Int) × (Int)) => (Lit.int .i64 y.1).wf = true ∧ (Lit.int .i64 y.2.1).wf = true ∧ (Lit.int .i64 y.2.2).wf = true) Try.underlying37 (by kernel_rfl) (opf_cons (off := 0) (d := (Kd.int .i64)) (r := (Kd.pair (Kd.int .i64) (Kd.int .i64))) (wf := (fun (x : Int) => (Lit.int .i64 x).wf = true)) (wr := (fun (y : (Int) × (Int)) => (Lit.int .i64 y.1).wf = true ∧ (Lit.int .i64 y.2).wf = true)) rfl (by kernel_rfl) op_t3 (opf_cons (off := 1) (d := (Kd.int .i64)) (r := (Kd.int .i64)) (wf := (fun (x : Int) => (Lit.int .i64 x).wf = true)) (wr := (fun (y : (Int)) => (Lit.int .i64 y).wf = true)) rfl (by kernel_rfl) op_t3 (opf_last (off := 2) (d := (Kd.int .i64)) (wf := (fun (x : Int) => (Lit.int .i64 x).wf = true)) rfl (by kernel_rfl) op_t3))) (fun x : S37 => (x.f0, x.f1, x.f2)) (fun (y : (Int) × (Int) × (Int)) => (⟨y.1, y.2.1, y.2.2⟩ : S37)) (fun _ => rfl)
set_option maxRecDepth 100000 in
theorem lifted (os : Os) (started : os.Started) (H : Type) (enc : TypeId × Value → H) :
    ReturnsInHanded {} Try.checked os 10 .any (Rows.fnExactDecideSpec.pre6 enc Try.prog Try.f10 Rows.fnExactDecideRow.domain false) (Rows.fnExactDecideSpec.post enc Try.prog Try.f10 false true false false) := by
  refine returnsInHanded_of_change_sized (C := Try.checked) own started (by kernel_rfl) Try.func10
    (ChangeSpec.witness6 (enc := enc) (C := Try.checked) false ⟨#[], #[.agg #[.slice none 0 0], .agg #[.int .i64 0, .int .i64 0, .int .i64 0], .int .i64 0, .int .i64 0], []⟩ 8 (by kernel_rfl) (by kernel_rfl) (by kernel_rfl) (by kernel_rfl)) ?_
  intro W base args ds gs before hval0 hW hcnd hsz0 _
  have hsz : (DataW.weightsEach Try.prog (Try.f10.params.toList ++ Rows.fnExactDecideSpec.plain.varTypes Try.prog) (ds ++ gs)).all (· ≤ reachBytes) = true := hsz0
  have hval : ∀ (j : Nat) t v, Try.f10.params[j]? = some t → args[j]? = some v → Value.okWide Try.prog W .any base t v := hval0
  have hW' := hW
  obtain ⟨p, q, hA0, hV, rfl, hfz, hnd⟩ := hW
  have hA : DataW.TrodAll enc Try.prog W 0 (fun _ => true) true Try.f10.params.toList args.toList ds p := hA0
  rw [Try.params10] at hA hval hsz
  obtain ⟨v0, vs0, d0, ds0, p0, q0, hargs, rfl, rfl, h0, r0⟩ := trodAll_cons hA
  obtain ⟨v1, vs1, d1, ds1, p1, q1, rfl, rfl, rfl, h1, r1⟩ := trodAll_cons r0
  obtain ⟨v2, vs2, d2, ds2, p2, q2, rfl, rfl, rfl, h2, r2⟩ := trodAll_cons r1
  obtain ⟨v3, vs3, d3, ds3, p3, q3, rfl, rfl, rfl, h3, r3⟩ := trodAll_cons r2
  obtain ⟨rfl, rfl, rfl⟩ := trodAll_nil r3
  obtain rfl : args = #[v0, v1, v2, v3] := by cases args; simp_all
  obtain ⟨rfl, rfl⟩ := trodVars_none hV
  have k0 := h0
  have lt0 : ∀ x ∈ p0, x.block < W.heap.size := by obtain ⟨m, hm⟩ := k0; exact DataW.trod_lt m _ _ _ hm
  obtain ⟨cs0, rfl, _⟩ := okWide_struct Try.underlying50 (hval 0 50 v0 rfl rfl)
  obtain ⟨x0, y0, w0⟩ : ∃ x, k50.K W x cs0.toList ∧ ((x.f0.length * 8 ≤ 140737488351232 ∧ x.f0.length ≤ maxLen ∧ ∀ e1_ ∈ x.f0, (Lit.int .i64 e1_).wf = true)) := by
    obtain ⟨fu, hf⟩ := h0
    exact (op_t50).op hf (weightsEach_mem (i := 0) rfl rfl hsz)
  obtain ⟨A0_0, c0_0, e0, hc0_0, hr0_0⟩ := k50_open y0
  obtain rfl : cs0 = #[.slice A0_0 x0.f0.length c0_0] := Array.ext' (by simpa using e0)
  have k1 := h1
  have lt1 : ∀ x ∈ p1, x.block < W.heap.size := by obtain ⟨m, hm⟩ := k1; exact DataW.trod_lt m _ _ _ hm
  obtain ⟨cs1, rfl, _⟩ := okWide_struct Try.underlying37 (hval 1 37 v1 rfl rfl)
  obtain ⟨x1, y1, w1⟩ : ∃ x, k37.K W x cs1.toList ∧ ((Lit.int .i64 x.f0).wf = true ∧ (Lit.int .i64 x.f1).wf = true ∧ (Lit.int .i64 x.f2).wf = true) := by
    obtain ⟨fu, hf⟩ := h1
    exact (op_t37).op hf (weightsEach_mem (i := 1) rfl rfl hsz)
  obtain e1 := k37_open y1
  obtain rfl : cs1 = #[.int .i64 x1.f0, .int .i64 x1.f1, .int .i64 x1.f2] := Array.ext' (by simpa using e1)
  obtain ⟨a2, rfl, rfl, rfl, w2⟩ := open_int Try.underlying3 (hval 2 3 v2 rfl rfl) h2
  obtain ⟨a3, rfl, rfl, rfl, w3⟩ := open_int Try.underlying3 (hval 3 3 v3 rfl rfl) h3
  obtain ⟨k, hP⟩ := Pu.FnExactDecide x0.f0 x1.f0 x1.f1 x1.f2 a2 a3 w0 w1.1 w1.2.1 w1.2.2 w2 w3
  clear hA0 hval0 hsz0 hsz
  refine (laws_FnExactDecide.calls k _ _ _ _ _ _ _ _ true W hr0_0 hc0_0 ⟨rfl⟩ hP).mono fun e W' ⟨he, bel0⟩ => ?_
  have bel : Below W.heap.size W W' := bel0
  subst he
  exact ⟨_, rfl, _, _, _, [], _, [], hW', trodAll_mk1 (shut_bool Try.underlying4 _), (trodAll_cons_mk (Below.trod laidOut (by kernel_rfl) (of_decide_eq_true (by kernel_rfl)) k0 bel lt0) (trodAll_cons_mk (Below.trod laidOut (by kernel_rfl) (of_decide_eq_true (by kernel_rfl)) k1 bel lt1) (trodAll_cons_mk (shut_int Try.underlying3 w2) (trodAll_cons_mk (shut_int Try.underlying3 w3) trodAll_mk0)))), rfl, bel.frame _, fun h => by cases h⟩
theorem over : Rows.fnExactDecideRow.holds Try.pinned (OpenSpec.ofChange Rows.fnExactDecideSpec) :=
  OpenClaim.holds_of_wide 10 Try.f10 rfl rfl rfl rfl rfl rfl rfl ⟨rfl, rfl, rfl, rfl, rfl⟩ rfl rfl rfl rfl rfl (by kernel_rfl) Try.func10 (by kernel_rfl)
    (of_decide_eq_true (by kernel_rfl)) (by unfold Func.isWrapper; first | (rw [if_pos (by decide +kernel)]; kernel_rfl) | (rw [if_neg (by decide +kernel)]; exact ⟨rfl, rfl⟩))
    (fun os started H enc _ => lifted os started H enc)
theorem proved : Rows.FnExactDecideSaid := over
end Go.Proofs.Ytmonbofhfaaflaa.fnExactDecide
namespace Go.Proofs.Ytmonbofhfaaflaa
/-- The row, under a short name, for the claim. -/
theorem fnExactDecide_holds : Rows.FnExactDecideSaid := fnExactDecide.proved
end Go.Proofs.Ytmonbofhfaaflaa
