import Derived.Test.YtheckjlldkkceaaRows
import Derived.Test.YtheckjlldkkceaaZbPx32
import Derived.Test.YtheckjlldkkceaaZbPuFnExactTakeBag
import Derived.Test.YtheckjlldkkceaaZbOpens
import Derived.WalkKit
import Derived.ProofKit
import Derived.OpenShut
import Derived.ShutString
import Derived.ChangeOld
import Derived.Below
import Derived.SizedLaws
namespace Go.Proofs.Ytheckjlldkkceaa.fnExactTakeBag
open Go.ChangeShapes Go.WideShapes Go.ChangeAt Go.RowKit
open Go.ChangeMaps (open_string shut_string)
open Go.Proofs.YtheckjlldkkceaaW.PrintWords Go.Proofs.Ytheckjlldkkceaa.Px Go.Proofs.Ytheckjlldkkceaa.Opens
set_option linter.unusedVariables false
theorem own : ownKnob Try.prog.godebug = none := by kernel_rfl
theorem laidOut : laidOutB Try.prog = true := by kernel_rfl
theorem op_t3 : Opn Try.prog 3 (Kd.int .i64) (fun x => (Lit.int .i64 x).wf = true) := op_int Try.underlying3
theorem op_t98 : Opn Try.prog 98 k98 (fun (x : S98) => ((Lit.int .i64 x.f0).wf = true ∧ (Lit.int .i64 x.f1).wf = true)) := op_struct (d := (Kd.pair (Kd.int .i64) (Kd.int .i64))) (wf := fun (y : (Int) × (Int)) => (Lit.int .i64 y.1).wf = true ∧ (Lit.int .i64 y.2).wf = true) Try.underlying98 (by kernel_rfl) (opf_cons (off := 0) (d := (Kd.int .i64)) (r := (Kd.int .i64)) (wf := (fun (x : Int) => (Lit.int .i64 x).wf = true)) (wr := (fun (y : (Int)) => (Lit.int .i64 y).wf = true)) rfl (by kernel_rfl) op_t3 (opf_last (off := 1) (d := (Kd.int .i64)) (wf := (fun (x : Int) => (Lit.int .i64 x).wf = true)) rfl (by kernel_rfl) op_t3)) (fun x : S98 => (x.f0, x.f1)) (fun (y : (Int) × (Int)) => (⟨y.1, y.2⟩ : S98)) (fun _ => rfl)
theorem op_t84 : Opn Try.prog 84 (Kd.slice 98 k98) (fun (x : List (S98)) => (x.length * 16 ≤ 140737488351232 ∧ x.length ≤ maxLen ∧ ∀ e1_ ∈ x, ((Lit.int .i64 e1_.f0).wf = true ∧ (Lit.int .i64 e1_.f1).wf = true))) := op_slice 98 Try.underlying84 op_t98 (by kernel_rfl) 16 (by kernel_rfl)
theorem op_t34 : Opn Try.prog 34 (Kd.slice 84 (Kd.slice 98 k98)) (fun (x : List (List (S98))) => (x.length * 24 ≤ 140737488351232 ∧ x.length ≤ maxLen ∧ ∀ e1_ ∈ x, (e1_.length * 16 ≤ 140737488351232 ∧ e1_.length ≤ maxLen ∧ ∀ e2_ ∈ e1_, ((Lit.int .i64 e2_.f0).wf = true ∧ (Lit.int .i64 e2_.f1).wf = true)))) := op_slice 84 Try.underlying34 op_t84 (by kernel_rfl) 24 (by kernel_rfl)
theorem op_t36 : Opn Try.prog 36 k36 (fun (x : S36) => ((Lit.int .i64 x.f0).wf = true ∧ (x.f1.length * 24 ≤ 140737488351232 ∧ x.f1.length ≤ maxLen ∧ ∀ e1_ ∈ x.f1, (e1_.length * 16 ≤ 140737488351232 ∧ e1_.length ≤ maxLen ∧ ∀ e2_ ∈ e1_, ((Lit.int .i64 e2_.f0).wf = true ∧ (Lit.int .i64 e2_.f1).wf = true))))) := op_struct (d := (Kd.pair (Kd.int .i64) (Kd.slice 84 (Kd.slice 98 k98)))) (wf := fun (y : (Int) × (List (List (S98)))) => (Lit.int .i64 y.1).wf = true ∧ (y.2.length * 24 ≤ 140737488351232 ∧ y.2.length ≤ maxLen ∧ ∀ e1_ ∈ y.2, (e1_.length * 16 ≤ 140737488351232 ∧ e1_.length ≤ maxLen ∧ ∀ e2_ ∈ e1_, ((Lit.int .i64 e2_.f0).wf = true ∧ (Lit.int .i64 e2_.f1).wf = true)))) Try.underlying36 (by kernel_rfl) (opf_cons (off := 0) (d := (Kd.int .i64)) (r := (Kd.slice 84 (Kd.slice 98 k98))) (wf := (fun (x : Int) => (Lit.int .i64 x).wf = true)) (wr := (fun (y : (List (List (S98)))) => (y.length * 24 ≤ 140737488351232 ∧ y.length ≤ maxLen ∧ ∀ e1_ ∈ y, (e1_.length * 16 ≤ 140737488351232 ∧ e1_.length ≤ maxLen ∧ ∀ e2_ ∈ e1_, ((Lit.int .i64 e2_.f0).wf = true ∧ (Lit.int .i64 e2_.f1).wf = true))))) rfl (by kernel_rfl) op_t3 (opf_last (off := 1) (d := (Kd.slice 84 (Kd.slice 98 k98))) (wf := (fun (x : List (List (S98))) => (x.length * 24 ≤ 140737488351232 ∧ x.length ≤ maxLen ∧ ∀ e1_ ∈ x, (e1_.length * 16 ≤ 140737488351232 ∧ e1_.length ≤ maxLen ∧ ∀ e2_ ∈ e1_, ((Lit.int .i64 e2_.f0).wf = true ∧ (Lit.int .i64 e2_.f1).wf = true))))) rfl (by kernel_rfl) op_t34)) (fun x : S36 => (x.f0, x.f1)) (fun (y : (Int) × (List (List (S98)))) => (⟨y.1, y.2⟩ : S36)) (fun _ => rfl)
set_option maxRecDepth 100000 in
theorem lifted (os : Os) (started : os.Started) (H : Type) (enc : TypeId × Value → H) :
    ReturnsInHanded {} Try.checked os 14 .any (Rows.fnExactTakeBagSpec.pre6 enc Try.prog Try.f14 Rows.fnExactTakeBagRow.domain false) (Rows.fnExactTakeBagSpec.post enc Try.prog Try.f14 false true false false) := by
  refine returnsInHanded_of_change_sized (C := Try.checked) own started (by kernel_rfl) Try.func14
    (ChangeSpec.witness6 (enc := enc) (C := Try.checked) false ⟨#[], #[.agg #[.int .i64 0, .slice none 0 0], .int .i64 0], []⟩ 8 (by kernel_rfl) (by kernel_rfl) (by kernel_rfl) (by kernel_rfl)) ?_
  intro W base args ds gs before hval0 hW hcnd hsz0 _
  have hsz : (DataW.weightsEach Try.prog (Try.f14.params.toList ++ Rows.fnExactTakeBagSpec.plain.varTypes Try.prog) (ds ++ gs)).all (· ≤ reachBytes) = true := hsz0
  have hval : ∀ (j : Nat) t v, Try.f14.params[j]? = some t → args[j]? = some v → Value.okWide Try.prog W .any base t v := hval0
  have hW' := hW
  obtain ⟨p, q, hA0, hV, rfl, hfz, hnd⟩ := hW
  have hA : DataW.TrodAll enc Try.prog W 0 (fun _ => true) true Try.f14.params.toList args.toList ds p := hA0
  rw [Try.params14] at hA hval hsz
  obtain ⟨v0, vs0, d0, ds0, p0, q0, hargs, rfl, rfl, h0, r0⟩ := trodAll_cons hA
  obtain ⟨v1, vs1, d1, ds1, p1, q1, rfl, rfl, rfl, h1, r1⟩ := trodAll_cons r0
  obtain ⟨rfl, rfl, rfl⟩ := trodAll_nil r1
  obtain rfl : args = #[v0, v1] := by cases args; simp_all
  obtain ⟨rfl, rfl⟩ := trodVars_none hV
  have k0 := h0
  have lt0 : ∀ x ∈ p0, x.block < W.heap.size := by obtain ⟨m, hm⟩ := k0; exact DataW.trod_lt m _ _ _ hm
  obtain ⟨cs0, rfl, _⟩ := okWide_struct Try.underlying36 (hval 0 36 v0 rfl rfl)
  obtain ⟨x0, y0, w0⟩ : ∃ x, k36.K W x cs0.toList ∧ ((Lit.int .i64 x.f0).wf = true ∧ (x.f1.length * 24 ≤ 140737488351232 ∧ x.f1.length ≤ maxLen ∧ ∀ e1_ ∈ x.f1, (e1_.length * 16 ≤ 140737488351232 ∧ e1_.length ≤ maxLen ∧ ∀ e2_ ∈ e1_, ((Lit.int .i64 e2_.f0).wf = true ∧ (Lit.int .i64 e2_.f1).wf = true)))) := by
    obtain ⟨fu, hf⟩ := h0
    exact (op_t36).op hf (weightsEach_mem (i := 0) rfl rfl hsz)
  obtain ⟨A0_1, c0_1, e0, hc0_1, hr0_1⟩ := k36_open y0
  obtain rfl : cs0 = #[.int .i64 x0.f0, .slice A0_1 x0.f1.length c0_1] := Array.ext' (by simpa using e0)
  obtain ⟨a1, rfl, rfl, rfl, w1⟩ := open_int Try.underlying3 (hval 1 3 v1 rfl rfl) h1
  obtain ⟨k, hP⟩ := Pu.FnExactTakeBag x0.f0 x0.f1 a1 w0.1 w0.2 w1
  clear hA0 hval0 hsz0 hsz
  refine (laws_FnExactTakeBag.calls k _ _ _ _ _ true W hr0_1 hc0_1 ⟨rfl⟩ hP).mono fun e W' ⟨he, bel0⟩ => ?_
  have bel : Below W.heap.size W W' := bel0
  subst he
  exact ⟨_, rfl, _, _, _, [], _, [], hW', trodAll_mk1 (shut_bool Try.underlying4 _), (trodAll_cons_mk (Below.trod laidOut (by kernel_rfl) (of_decide_eq_true (by kernel_rfl)) k0 bel lt0) (trodAll_cons_mk (shut_int Try.underlying3 w1) trodAll_mk0)), rfl, bel.frame _, fun h => by cases h⟩
theorem over : Rows.fnExactTakeBagRow.holds Try.pinned (OpenSpec.ofChange Rows.fnExactTakeBagSpec) :=
  OpenClaim.holds_of_wide 14 Try.f14 rfl rfl rfl rfl rfl rfl rfl ⟨rfl, rfl, rfl, rfl, rfl⟩ rfl rfl rfl rfl rfl (by kernel_rfl) Try.func14 (by kernel_rfl)
    (of_decide_eq_true (by kernel_rfl)) (by unfold Func.isWrapper; first | (rw [if_pos (by decide +kernel)]; kernel_rfl) | (rw [if_neg (by decide +kernel)]; exact ⟨rfl, rfl⟩))
    (fun os started H enc _ => lifted os started H enc)
theorem proved : Rows.FnExactTakeBagSaid := over
end Go.Proofs.Ytheckjlldkkceaa.fnExactTakeBag
namespace Go.Proofs.Ytheckjlldkkceaa
theorem fnExactTakeBag_holds : Rows.FnExactTakeBagSaid := fnExactTakeBag.proved
end Go.Proofs.Ytheckjlldkkceaa
