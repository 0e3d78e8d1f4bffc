import Derived.Test.YtheckjlldkkceaaRows
import Derived.Test.YtheckjlldkkceaaZsPx25
import Derived.Test.YtheckjlldkkceaaZsPuFnStoreTakes
import Derived.Test.YtheckjlldkkceaaZsOpens
import Derived.WalkKit
import Derived.ProofKit
import Derived.OpenShut
import Derived.ShutString
import Derived.ChangeOld
import Derived.Below
import Derived.SizedLaws
namespace Go.Proofs.Ytheckjlldkkceaa.fnStoreTakes
open Go.ChangeShapes Go.WideShapes Go.ChangeAt Go.RowKit
open Go.ChangeMaps (open_string shut_string)
open Go.Proofs.YtheckjlldkkceaaW.PrintWords Go.Proofs.Ytheckjlldkkceaa.Px Go.Proofs.Ytheckjlldkkceaa.Opens
set_option linter.unusedVariables false
theorem own : ownKnob Try.prog.godebug = none := by kernel_rfl
theorem laidOut : laidOutB Try.prog = true := by kernel_rfl
theorem op_t3 : Opn Try.prog 3 (Kd.int .i64) (fun x => (Lit.int .i64 x).wf = true) := op_int Try.underlying3
theorem op_t30 : Opn Try.prog 30 k30 (fun (x : S30) => ((Lit.int .i64 x.f0).wf = true ∧ (Lit.int .i64 x.f1).wf = true)) := op_struct (d := (Kd.pair (Kd.int .i64) (Kd.int .i64))) (wf := fun (y : (Int) × (Int)) => (Lit.int .i64 y.1).wf = true ∧ (Lit.int .i64 y.2).wf = true) Try.underlying30 (by kernel_rfl) (opf_cons (off := 0) (d := (Kd.int .i64)) (r := (Kd.int .i64)) (wf := (fun (x : Int) => (Lit.int .i64 x).wf = true)) (wr := (fun (y : (Int)) => (Lit.int .i64 y).wf = true)) rfl (by kernel_rfl) op_t3 (opf_last (off := 1) (d := (Kd.int .i64)) (wf := (fun (x : Int) => (Lit.int .i64 x).wf = true)) rfl (by kernel_rfl) op_t3)) (fun x : S30 => (x.f0, x.f1)) (fun (y : (Int) × (Int)) => (⟨y.1, y.2⟩ : S30)) (fun _ => rfl)
theorem op_t28 : Opn Try.prog 28 (Kd.slice 30 k30) (fun (x : List (S30)) => (x.length * 16 ≤ 140737488351232 ∧ x.length ≤ maxLen ∧ ∀ e1_ ∈ x, ((Lit.int .i64 e1_.f0).wf = true ∧ (Lit.int .i64 e1_.f1).wf = true))) := op_slice 30 Try.underlying28 op_t30 (by kernel_rfl) 16 (by kernel_rfl)
theorem op_t22 : Opn Try.prog 22 (Kd.slice 28 (Kd.slice 30 k30)) (fun (x : List (List (S30))) => (x.length * 24 ≤ 140737488351232 ∧ x.length ≤ maxLen ∧ ∀ e1_ ∈ x, (e1_.length * 16 ≤ 140737488351232 ∧ e1_.length ≤ maxLen ∧ ∀ e2_ ∈ e1_, ((Lit.int .i64 e2_.f0).wf = true ∧ (Lit.int .i64 e2_.f1).wf = true)))) := op_slice 28 Try.underlying22 op_t28 (by kernel_rfl) 24 (by kernel_rfl)
theorem op_t24 : Opn Try.prog 24 k24 (fun (x : S24) => ((Lit.int .i64 x.f0).wf = true ∧ (x.f1.length * 24 ≤ 140737488351232 ∧ x.f1.length ≤ maxLen ∧ ∀ e1_ ∈ x.f1, (e1_.length * 16 ≤ 140737488351232 ∧ e1_.length ≤ maxLen ∧ ∀ e2_ ∈ e1_, ((Lit.int .i64 e2_.f0).wf = true ∧ (Lit.int .i64 e2_.f1).wf = true))))) := op_struct (d := (Kd.pair (Kd.int .i64) (Kd.slice 28 (Kd.slice 30 k30)))) (wf := fun (y : (Int) × (List (List (S30)))) => (Lit.int .i64 y.1).wf = true ∧ (y.2.length * 24 ≤ 140737488351232 ∧ y.2.length ≤ maxLen ∧ ∀ e1_ ∈ y.2, (e1_.length * 16 ≤ 140737488351232 ∧ e1_.length ≤ maxLen ∧ ∀ e2_ ∈ e1_, ((Lit.int .i64 e2_.f0).wf = true ∧ (Lit.int .i64 e2_.f1).wf = true)))) Try.underlying24 (by kernel_rfl) (opf_cons (off := 0) (d := (Kd.int .i64)) (r := (Kd.slice 28 (Kd.slice 30 k30))) (wf := (fun (x : Int) => (Lit.int .i64 x).wf = true)) (wr := (fun (y : (List (List (S30)))) => (y.length * 24 ≤ 140737488351232 ∧ y.length ≤ maxLen ∧ ∀ e1_ ∈ y, (e1_.length * 16 ≤ 140737488351232 ∧ e1_.length ≤ maxLen ∧ ∀ e2_ ∈ e1_, ((Lit.int .i64 e2_.f0).wf = true ∧ (Lit.int .i64 e2_.f1).wf = true))))) rfl (by kernel_rfl) op_t3 (opf_last (off := 1) (d := (Kd.slice 28 (Kd.slice 30 k30))) (wf := (fun (x : List (List (S30))) => (x.length * 24 ≤ 140737488351232 ∧ x.length ≤ maxLen ∧ ∀ e1_ ∈ x, (e1_.length * 16 ≤ 140737488351232 ∧ e1_.length ≤ maxLen ∧ ∀ e2_ ∈ e1_, ((Lit.int .i64 e2_.f0).wf = true ∧ (Lit.int .i64 e2_.f1).wf = true))))) rfl (by kernel_rfl) op_t22)) (fun x : S24 => (x.f0, x.f1)) (fun (y : (Int) × (List (List (S30)))) => (⟨y.1, y.2⟩ : S24)) (fun _ => rfl)
set_option maxRecDepth 100000 in
theorem lifted (os : Os) (started : os.Started) (H : Type) (enc : TypeId × Value → H) :
    ReturnsInHanded {} Try.checked os 11 .any (Rows.fnStoreTakesSpec.pre6 enc Try.prog Try.f11 Rows.fnStoreTakesRow.domain false) (Rows.fnStoreTakesSpec.post enc Try.prog Try.f11 false true false false) := by
  refine returnsInHanded_of_change_sized (C := Try.checked) own started (by kernel_rfl) Try.func11
    (ChangeSpec.witness6 (enc := enc) (C := Try.checked) false ⟨#[], #[.agg #[.int .i64 0, .slice none 0 0]], []⟩ 8 (by kernel_rfl) (by kernel_rfl) (by kernel_rfl) (by kernel_rfl)) ?_
  intro W base args ds gs before hval0 hW hcnd hsz0 _
  have hsz : (DataW.weightsEach Try.prog (Try.f11.params.toList ++ Rows.fnStoreTakesSpec.plain.varTypes Try.prog) (ds ++ gs)).all (· ≤ reachBytes) = true := hsz0
  have hval : ∀ (j : Nat) t v, Try.f11.params[j]? = some t → args[j]? = some v → Value.okWide Try.prog W .any base t v := hval0
  have hW' := hW
  obtain ⟨p, q, hA0, hV, rfl, hfz, hnd⟩ := hW
  have hA : DataW.TrodAll enc Try.prog W 0 (fun _ => true) true Try.f11.params.toList args.toList ds p := hA0
  rw [Try.params11] at hA hval hsz
  obtain ⟨v0, vs0, d0, ds0, p0, q0, hargs, rfl, rfl, h0, r0⟩ := trodAll_cons hA
  obtain ⟨rfl, rfl, rfl⟩ := trodAll_nil r0
  obtain rfl : args = #[v0] := by cases args; simp_all
  obtain ⟨rfl, rfl⟩ := trodVars_none hV
  have k0 := h0
  have lt0 : ∀ x ∈ p0, x.block < W.heap.size := by obtain ⟨m, hm⟩ := k0; exact DataW.trod_lt m _ _ _ hm
  obtain ⟨cs0, rfl, _⟩ := okWide_struct Try.underlying24 (hval 0 24 v0 rfl rfl)
  obtain ⟨x0, y0, w0⟩ : ∃ x, k24.K W x cs0.toList ∧ ((Lit.int .i64 x.f0).wf = true ∧ (x.f1.length * 24 ≤ 140737488351232 ∧ x.f1.length ≤ maxLen ∧ ∀ e1_ ∈ x.f1, (e1_.length * 16 ≤ 140737488351232 ∧ e1_.length ≤ maxLen ∧ ∀ e2_ ∈ e1_, ((Lit.int .i64 e2_.f0).wf = true ∧ (Lit.int .i64 e2_.f1).wf = true)))) := by
    obtain ⟨fu, hf⟩ := h0
    exact (op_t24).op hf (weightsEach_mem (i := 0) rfl rfl hsz)
  obtain ⟨A0_1, c0_1, e0, hc0_1, hr0_1⟩ := k24_open y0
  obtain rfl : cs0 = #[.int .i64 x0.f0, .slice A0_1 x0.f1.length c0_1] := Array.ext' (by simpa using e0)
  obtain ⟨k, hP⟩ := Pu.FnStoreTakes x0.f0 x0.f1 w0.1 w0.2
  clear hA0 hval0 hsz0 hsz
  refine (laws_FnStoreTakes.calls k _ _ _ _ true W hr0_1 hc0_1 ⟨rfl⟩ hP).mono fun e W' ⟨he, bel0⟩ => ?_
  have bel : Below W.heap.size W W' := bel0
  subst he
  exact ⟨_, rfl, _, _, _, [], _, [], hW', trodAll_mk1 (shut_bool Try.underlying4 _), (trodAll_cons_mk (Below.trod laidOut (by kernel_rfl) (of_decide_eq_true (by kernel_rfl)) k0 bel lt0) trodAll_mk0), rfl, bel.frame _, fun h => by cases h⟩
theorem over : Rows.fnStoreTakesRow.holds Try.pinned (OpenSpec.ofChange Rows.fnStoreTakesSpec) :=
  OpenClaim.holds_of_wide 11 Try.f11 rfl rfl rfl rfl rfl rfl rfl ⟨rfl, rfl, rfl, rfl, rfl⟩ rfl rfl rfl rfl rfl (by kernel_rfl) Try.func11 (by kernel_rfl)
    (of_decide_eq_true (by kernel_rfl)) (by unfold Func.isWrapper; first | (rw [if_pos (by decide +kernel)]; kernel_rfl) | (rw [if_neg (by decide +kernel)]; exact ⟨rfl, rfl⟩))
    (fun os started H enc _ => lifted os started H enc)
theorem proved : Rows.FnStoreTakesSaid := over
end Go.Proofs.Ytheckjlldkkceaa.fnStoreTakes
namespace Go.Proofs.Ytheckjlldkkceaa
theorem fnStoreTakes_holds : Rows.FnStoreTakesSaid := fnStoreTakes.proved
end Go.Proofs.Ytheckjlldkkceaa
