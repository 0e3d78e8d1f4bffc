import Derived.Test.YtmjhbdmicejppaaRows
import Derived.Test.YtmjhbdmicejppaaZsPx9
import Derived.Test.YtmjhbdmicejppaaZsPuFnLoopTakes
import Derived.Test.YtmjhbdmicejppaaZsOpens
import Derived.WalkKit
import Derived.ProofKit
import Derived.OpenShut
import Derived.ShutString
import Derived.ChangeOld
import Derived.Below
import Derived.SizedLaws
namespace Go.Proofs.Ytmjhbdmicejppaa.fnLoopTakes
open Go.ChangeShapes Go.WideShapes Go.ChangeAt Go.RowKit
open Go.ChangeMaps (open_string shut_string)
open Go.Proofs.YtmjhbdmicejppaaW.PrintWords Go.Proofs.Ytmjhbdmicejppaa.Px Go.Proofs.Ytmjhbdmicejppaa.Opens
set_option linter.unusedVariables false
theorem own : ownKnob Try.prog.godebug = none := by kernel_rfl
theorem laidOut : laidOutB Try.prog = true := by kernel_rfl
theorem op_t5 : Opn Try.prog 5 (Kd.int .u8) (fun x => (Lit.int .u8 x).wf = true) := op_int Try.underlying5
theorem op_t22 : Opn Try.prog 22 (Kd.slice 5 (Kd.int .u8)) (fun (x : List Int) => (x.length * 1 ≤ 140737488351232 ∧ x.length ≤ maxLen ∧ ∀ e1_ ∈ x, (Lit.int .u8 e1_).wf = true)) := op_slice 5 Try.underlying22 op_t5 (by kernel_rfl) 1 (by kernel_rfl)
set_option maxRecDepth 100000 in
theorem lifted (os : Os) (started : os.Started) (H : Type) (enc : TypeId × Value → H) :
    ReturnsInHanded {} Try.checked os 12 .any (Rows.fnLoopTakesSpec.pre6 enc Try.prog Try.f12 Rows.fnLoopTakesRow.domain false) (Rows.fnLoopTakesSpec.post enc Try.prog Try.f12 false true false false) := by
  refine returnsInHanded_of_change_sized (C := Try.checked) own started (by kernel_rfl) Try.func12
    (ChangeSpec.witness6 (enc := enc) (C := Try.checked) false ⟨#[], #[.slice none 0 0], []⟩ 8 (by kernel_rfl) (by kernel_rfl) (by kernel_rfl) (by kernel_rfl)) ?_
  intro W base args ds gs before hval0 hW hcnd hsz0 _
  have hsz : (DataW.weightsEach Try.prog (Try.f12.params.toList ++ Rows.fnLoopTakesSpec.plain.varTypes Try.prog) (ds ++ gs)).all (· ≤ reachBytes) = true := hsz0
  have hval : ∀ (j : Nat) t v, Try.f12.params[j]? = some t → args[j]? = some v → Value.okWide Try.prog W .any base t v := hval0
  have hW' := hW
  obtain ⟨p, q, hA0, hV, rfl, hfz, hnd⟩ := hW
  have hA : DataW.TrodAll enc Try.prog W 0 (fun _ => true) true Try.f12.params.toList args.toList ds p := hA0
  rw [Try.params12] at hA hval hsz
  obtain ⟨v0, vs0, d0, ds0, p0, q0, hargs, rfl, rfl, h0, r0⟩ := trodAll_cons hA
  obtain ⟨rfl, rfl, rfl⟩ := trodAll_nil r0
  obtain rfl : args = #[v0] := by cases args; simp_all
  obtain ⟨rfl, rfl⟩ := trodVars_none hV
  have k0 := h0
  have lt0 : ∀ x ∈ p0, x.block < W.heap.size := by obtain ⟨m, hm⟩ := k0; exact DataW.trod_lt m _ _ _ hm
  obtain ⟨A0, len0, c0, rfl⟩ := okWide_slice Try.underlying22 (hval 0 22 v0 rfl rfl)
  obtain ⟨l0, y0, w0⟩ : ∃ x, (Kd.slice 5 (Kd.int .u8)).K W x [.slice A0 len0 c0] ∧ (x.length * 1 ≤ 140737488351232 ∧ x.length ≤ maxLen ∧ ∀ e1_ ∈ x, (Lit.int .u8 e1_).wf = true) := by
    obtain ⟨fu, hf⟩ := h0
    exact (op_t22).op hf (weightsEach_mem (i := 0) rfl rfl hsz)
  obtain ⟨_, _, e0, hc0, hr0⟩ := y0
  obtain ⟨rfl, rfl, rfl⟩ : A0 = _ ∧ len0 = _ ∧ c0 = _ := by simpa using e0
  obtain ⟨k, hP⟩ := Pu.FnLoopTakes l0 w0
  clear hA0 hval0 hsz0 hsz
  refine (laws_FnLoopTakes.calls k _ _ _ W hr0 hc0 hP).mono fun e W' ⟨he, bel0⟩ => ?_
  have bel : Below W.heap.size W W' := bel0
  subst he
  exact ⟨_, rfl, _, _, _, [], _, [], hW', trodAll_mk1 (shut_bool Try.underlying4 _), (trodAll_cons_mk (Below.trod laidOut (by kernel_rfl) (of_decide_eq_true (by kernel_rfl)) k0 bel lt0) trodAll_mk0), rfl, bel.frame _, fun h => by cases h⟩
theorem over : Rows.fnLoopTakesRow.holds Try.pinned (OpenSpec.ofChange Rows.fnLoopTakesSpec) :=
  OpenClaim.holds_of_wide 12 Try.f12 rfl rfl rfl rfl rfl rfl rfl ⟨rfl, rfl, rfl, rfl, rfl⟩ rfl rfl rfl rfl rfl (by kernel_rfl) Try.func12 (by kernel_rfl)
    (of_decide_eq_true (by kernel_rfl)) (by unfold Func.isWrapper; first | (rw [if_pos (by decide +kernel)]; kernel_rfl) | (rw [if_neg (by decide +kernel)]; exact ⟨rfl, rfl⟩))
    (fun os started H enc _ => lifted os started H enc)
theorem proved : Rows.FnLoopTakesSaid := over
end Go.Proofs.Ytmjhbdmicejppaa.fnLoopTakes
namespace Go.Proofs.Ytmjhbdmicejppaa
theorem fnLoopTakes_holds : Rows.FnLoopTakesSaid := fnLoopTakes.proved
end Go.Proofs.Ytmjhbdmicejppaa
