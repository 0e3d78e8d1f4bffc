import Derived.Test.YtdmbfmfdijgdkaaRows
import Derived.Test.YtdmbfmfdijgdkaaZuPx28
import Derived.Test.YtdmbfmfdijgdkaaZuPuFnExactSure
import Derived.Test.YtdmbfmfdijgdkaaZuOpens
import Derived.WalkKit
import Derived.ProofKit
import Derived.OpenShut
import Derived.ShutString
import Derived.ChangeOld
import Derived.Below
import Derived.SizedLaws
namespace Go.Proofs.Ytdmbfmfdijgdkaa.fnExactSure
open Go.ChangeShapes Go.WideShapes Go.ChangeAt Go.RowKit
open Go.ChangeMaps (open_string shut_string)
open Go.Proofs.YtdmbfmfdijgdkaaW.PrintWords Go.Proofs.Ytdmbfmfdijgdkaa.Px Go.Proofs.Ytdmbfmfdijgdkaa.Opens
set_option linter.unusedVariables false
theorem own : ownKnob Try.prog.godebug = none := by kernel_rfl
theorem laidOut : laidOutB Try.prog = true := by kernel_rfl
theorem op_t3 : Opn Try.prog 3 (Kd.int .i64) (fun x => (Lit.int .i64 x).wf = true) := op_int Try.underlying3
theorem op_t98 : Opn Try.prog 98 k98 (fun (x : S98) => ((Lit.int .i64 x.f0).wf = true ∧ (Lit.int .i64 x.f1).wf = true ∧ (Lit.int .i64 x.f2).wf = true)) := op_struct (d := (Kd.pair (Kd.int .i64) (Kd.pair (Kd.int .i64) (Kd.int .i64)))) (wf := fun (y : (Int) × (Int) × (Int)) => (Lit.int .i64 y.1).wf = true ∧ (Lit.int .i64 y.2.1).wf = true ∧ (Lit.int .i64 y.2.2).wf = true) Try.underlying98 (by kernel_rfl) (opf_cons (off := 0) (d := (Kd.int .i64)) (r := (Kd.pair (Kd.int .i64) (Kd.int .i64))) (wf := (fun (x : Int) => (Lit.int .i64 x).wf = true)) (wr := (fun (y : (Int) × (Int)) => (Lit.int .i64 y.1).wf = true ∧ (Lit.int .i64 y.2).wf = true)) rfl (by kernel_rfl) op_t3 (opf_cons (off := 1) (d := (Kd.int .i64)) (r := (Kd.int .i64)) (wf := (fun (x : Int) => (Lit.int .i64 x).wf = true)) (wr := (fun (y : (Int)) => (Lit.int .i64 y).wf = true)) rfl (by kernel_rfl) op_t3 (opf_last (off := 2) (d := (Kd.int .i64)) (wf := (fun (x : Int) => (Lit.int .i64 x).wf = true)) rfl (by kernel_rfl) op_t3))) (fun x : S98 => (x.f0, x.f1, x.f2)) (fun (y : (Int) × (Int) × (Int)) => (⟨y.1, y.2.1, y.2.2⟩ : S98)) (fun _ => rfl)
theorem op_t54 : Opn Try.prog 54 (Kd.slice 98 k98) (fun (x : List (S98)) => (x.length * 24 ≤ 140737488351232 ∧ x.length ≤ maxLen ∧ ∀ e1_ ∈ x, ((Lit.int .i64 e1_.f0).wf = true ∧ (Lit.int .i64 e1_.f1).wf = true ∧ (Lit.int .i64 e1_.f2).wf = true))) := op_slice 98 Try.underlying54 op_t98 (by kernel_rfl) 24 (by kernel_rfl)
theorem op_t100 : Opn Try.prog 100 k100 (fun (x : S100) => ((Lit.int .i64 x.f0).wf = true ∧ (Lit.int .i64 x.f1).wf = true)) := op_struct (d := (Kd.pair (Kd.int .i64) (Kd.int .i64))) (wf := fun (y : (Int) × (Int)) => (Lit.int .i64 y.1).wf = true ∧ (Lit.int .i64 y.2).wf = true) Try.underlying100 (by kernel_rfl) (opf_cons (off := 0) (d := (Kd.int .i64)) (r := (Kd.int .i64)) (wf := (fun (x : Int) => (Lit.int .i64 x).wf = true)) (wr := (fun (y : (Int)) => (Lit.int .i64 y).wf = true)) rfl (by kernel_rfl) op_t3 (opf_last (off := 1) (d := (Kd.int .i64)) (wf := (fun (x : Int) => (Lit.int .i64 x).wf = true)) rfl (by kernel_rfl) op_t3)) (fun x : S100 => (x.f0, x.f1)) (fun (y : (Int) × (Int)) => (⟨y.1, y.2⟩ : S100)) (fun _ => rfl)
theorem op_t55 : Opn Try.prog 55 (Kd.slice 100 k100) (fun (x : List (S100)) => (x.length * 16 ≤ 140737488351232 ∧ x.length ≤ maxLen ∧ ∀ e1_ ∈ x, ((Lit.int .i64 e1_.f0).wf = true ∧ (Lit.int .i64 e1_.f1).wf = true))) := op_slice 100 Try.underlying55 op_t100 (by kernel_rfl) 16 (by kernel_rfl)
set_option maxRecDepth 100000 in
theorem lifted (os : Os) (started : os.Started) (H : Type) (enc : TypeId × Value → H) :
    ReturnsInHanded {} Try.checked os 11 .any (Rows.fnExactSureSpec.pre6 enc Try.prog Try.f11 Rows.fnExactSureRow.domain false) (Rows.fnExactSureSpec.post enc Try.prog Try.f11 false true false false) := by
  refine returnsInHanded_of_change_sized (C := Try.checked) own started (by kernel_rfl) Try.func11
    (ChangeSpec.witness6 (enc := enc) (C := Try.checked) false ⟨#[], #[.slice none 0 0, .slice none 0 0], []⟩ 8 (by kernel_rfl) (by kernel_rfl) (by kernel_rfl) (by kernel_rfl)) ?_
  intro W base args ds gs before hval0 hW hcnd hsz0 _
  have hsz : (DataW.weightsEach Try.prog (Try.f11.params.toList ++ Rows.fnExactSureSpec.plain.varTypes Try.prog) (ds ++ gs)).all (· ≤ reachBytes) = true := hsz0
  have hval : ∀ (j : Nat) t v, Try.f11.params[j]? = some t → args[j]? = some v → Value.okWide Try.prog W .any base t v := hval0
  have hW' := hW
  obtain ⟨p, q, hA0, hV, rfl, hfz, hnd⟩ := hW
  have hA : DataW.TrodAll enc Try.prog W 0 (fun _ => true) true Try.f11.params.toList args.toList ds p := hA0
  rw [Try.params11] at hA hval hsz
  obtain ⟨v0, vs0, d0, ds0, p0, q0, hargs, rfl, rfl, h0, r0⟩ := trodAll_cons hA
  obtain ⟨v1, vs1, d1, ds1, p1, q1, rfl, rfl, rfl, h1, r1⟩ := trodAll_cons r0
  obtain ⟨rfl, rfl, rfl⟩ := trodAll_nil r1
  obtain rfl : args = #[v0, v1] := by cases args; simp_all
  obtain ⟨rfl, rfl⟩ := trodVars_none hV
  have k0 := h0
  have lt0 : ∀ x ∈ p0, x.block < W.heap.size := by obtain ⟨m, hm⟩ := k0; exact DataW.trod_lt m _ _ _ hm
  obtain ⟨A0, len0, c0, rfl⟩ := okWide_slice Try.underlying54 (hval 0 54 v0 rfl rfl)
  obtain ⟨l0, y0, w0⟩ : ∃ x, (Kd.slice 98 k98).K W x [.slice A0 len0 c0] ∧ (x.length * 24 ≤ 140737488351232 ∧ x.length ≤ maxLen ∧ ∀ e1_ ∈ x, ((Lit.int .i64 e1_.f0).wf = true ∧ (Lit.int .i64 e1_.f1).wf = true ∧ (Lit.int .i64 e1_.f2).wf = true)) := by
    obtain ⟨fu, hf⟩ := h0
    exact (op_t54).op hf (weightsEach_mem (i := 0) rfl rfl hsz)
  obtain ⟨_, _, e0, hc0, hr0⟩ := y0
  obtain ⟨rfl, rfl, rfl⟩ : A0 = _ ∧ len0 = _ ∧ c0 = _ := by simpa using e0
  have k1 := h1
  have lt1 : ∀ x ∈ p1, x.block < W.heap.size := by obtain ⟨m, hm⟩ := k1; exact DataW.trod_lt m _ _ _ hm
  obtain ⟨A1, len1, c1, rfl⟩ := okWide_slice Try.underlying55 (hval 1 55 v1 rfl rfl)
  obtain ⟨l1, y1, w1⟩ : ∃ x, (Kd.slice 100 k100).K W x [.slice A1 len1 c1] ∧ (x.length * 16 ≤ 140737488351232 ∧ x.length ≤ maxLen ∧ ∀ e1_ ∈ x, ((Lit.int .i64 e1_.f0).wf = true ∧ (Lit.int .i64 e1_.f1).wf = true)) := by
    obtain ⟨fu, hf⟩ := h1
    exact (op_t55).op hf (weightsEach_mem (i := 1) rfl rfl hsz)
  obtain ⟨_, _, e1, hc1, hr1⟩ := y1
  obtain ⟨rfl, rfl, rfl⟩ : A1 = _ ∧ len1 = _ ∧ c1 = _ := by simpa using e1
  obtain ⟨k, hP⟩ := Pu.FnExactSure l0 l1 w0 w1
  clear hA0 hval0 hsz0 hsz
  refine (laws_FnExactSure.calls k _ _ _ _ _ _ true W hr0 hc0 hr1 hc1 ⟨rfl⟩ hP).mono fun e W' ⟨he, bel0⟩ => ?_
  have bel : Below W.heap.size W W' := bel0
  subst he
  exact ⟨_, rfl, _, _, _, [], _, [], hW', trodAll_mk1 (shut_bool Try.underlying4 _), (trodAll_cons_mk (Below.trod laidOut (by kernel_rfl) (of_decide_eq_true (by kernel_rfl)) k0 bel lt0) (trodAll_cons_mk (Below.trod laidOut (by kernel_rfl) (of_decide_eq_true (by kernel_rfl)) k1 bel lt1) trodAll_mk0)), rfl, bel.frame _, fun h => by cases h⟩
theorem over : Rows.fnExactSureRow.holds Try.pinned (OpenSpec.ofChange Rows.fnExactSureSpec) :=
  OpenClaim.holds_of_wide 11 Try.f11 rfl rfl rfl rfl rfl rfl rfl ⟨rfl, rfl, rfl, rfl, rfl⟩ rfl rfl rfl rfl rfl (by kernel_rfl) Try.func11 (by kernel_rfl)
    (of_decide_eq_true (by kernel_rfl)) (by unfold Func.isWrapper; first | (rw [if_pos (by decide +kernel)]; kernel_rfl) | (rw [if_neg (by decide +kernel)]; exact ⟨rfl, rfl⟩))
    (fun os started H enc _ => lifted os started H enc)
theorem proved : Rows.FnExactSureSaid := over
end Go.Proofs.Ytdmbfmfdijgdkaa.fnExactSure
namespace Go.Proofs.Ytdmbfmfdijgdkaa
theorem fnExactSure_holds : Rows.FnExactSureSaid := fnExactSure.proved
end Go.Proofs.Ytdmbfmfdijgdkaa
