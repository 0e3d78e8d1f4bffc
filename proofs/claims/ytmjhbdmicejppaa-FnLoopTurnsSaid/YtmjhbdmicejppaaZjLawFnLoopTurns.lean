import Derived.Test.YtmjhbdmicejppaaRows
import Derived.Test.YtmjhbdmicejppaaZjPx22
import Derived.Test.YtmjhbdmicejppaaZjPuFnLoopTurns
import Derived.Test.YtmjhbdmicejppaaZjOpens
import Derived.WalkKit
import Derived.ProofKit
import Derived.OpenShut
import Derived.ShutString
import Derived.ChangeOld
import Derived.Below
import Derived.SizedLaws
namespace Go.Proofs.Ytmjhbdmicejppaa.fnLoopTurns
open Go.ChangeShapes Go.WideShapes Go.ChangeAt Go.RowKit
open Go.ChangeMaps (open_string shut_string)
open Go.Proofs.YtmjhbdmicejppaaW.PrintWords Go.Proofs.Ytmjhbdmicejppaa.Px Go.Proofs.Ytmjhbdmicejppaa.Opens
set_option linter.unusedVariables false
theorem own : ownKnob Try.prog.godebug = none := by kernel_rfl
theorem laidOut : laidOutB Try.prog = true := by kernel_rfl
theorem op_t3 : Opn Try.prog 3 (Kd.int .i64) (fun x => (Lit.int .i64 x).wf = true) := op_int Try.underlying3
theorem op_t24 : Opn Try.prog 24 (Kd.slice 3 (Kd.int .i64)) (fun (x : List Int) => (x.length * 8 ≤ 140737488351232 ∧ x.length ≤ maxLen ∧ ∀ e1_ ∈ x, (Lit.int .i64 e1_).wf = true)) := op_slice 3 Try.underlying24 op_t3 (by kernel_rfl) 8 (by kernel_rfl)
theorem op_t69 : Opn Try.prog 69 k69 (fun (x : S69) => ((Lit.int .i64 x.f0).wf = true ∧ (Lit.int .i64 x.f1).wf = true ∧ (x.f2.length * 8 ≤ 140737488351232 ∧ x.f2.length ≤ maxLen ∧ ∀ e1_ ∈ x.f2, (Lit.int .i64 e1_).wf = true))) := op_struct (d := (Kd.pair (Kd.int .i64) (Kd.pair (Kd.int .i64) (Kd.slice 3 (Kd.int .i64))))) (wf := fun (y : (Int) × (Int) × (List Int)) => (Lit.int .i64 y.1).wf = true ∧ (Lit.int .i64 y.2.1).wf = true ∧ (y.2.2.length * 8 ≤ 140737488351232 ∧ y.2.2.length ≤ maxLen ∧ ∀ e1_ ∈ y.2.2, (Lit.int .i64 e1_).wf = true)) Try.underlying69 (by kernel_rfl) (opf_cons (off := 0) (d := (Kd.int .i64)) (r := (Kd.pair (Kd.int .i64) (Kd.slice 3 (Kd.int .i64)))) (wf := (fun (x : Int) => (Lit.int .i64 x).wf = true)) (wr := (fun (y : (Int) × (List Int)) => (Lit.int .i64 y.1).wf = true ∧ (y.2.length * 8 ≤ 140737488351232 ∧ y.2.length ≤ maxLen ∧ ∀ e1_ ∈ y.2, (Lit.int .i64 e1_).wf = true))) rfl (by kernel_rfl) op_t3 (opf_cons (off := 1) (d := (Kd.int .i64)) (r := (Kd.slice 3 (Kd.int .i64))) (wf := (fun (x : Int) => (Lit.int .i64 x).wf = true)) (wr := (fun (y : (List Int)) => (y.length * 8 ≤ 140737488351232 ∧ y.length ≤ maxLen ∧ ∀ e1_ ∈ y, (Lit.int .i64 e1_).wf = true))) rfl (by kernel_rfl) op_t3 (opf_last (off := 2) (d := (Kd.slice 3 (Kd.int .i64))) (wf := (fun (x : List Int) => (x.length * 8 ≤ 140737488351232 ∧ x.length ≤ maxLen ∧ ∀ e1_ ∈ x, (Lit.int .i64 e1_).wf = true))) rfl (by kernel_rfl) op_t24))) (fun x : S69 => (x.f0, x.f1, x.f2)) (fun (y : (Int) × (Int) × (List Int)) => (⟨y.1, y.2.1, y.2.2⟩ : S69)) (fun _ => rfl)
theorem op_t25 : Opn Try.prog 25 (Kd.slice 69 k69) (fun (x : List (S69)) => (x.length * 40 ≤ 140737488351232 ∧ x.length ≤ maxLen ∧ ∀ e1_ ∈ x, ((Lit.int .i64 e1_.f0).wf = true ∧ (Lit.int .i64 e1_.f1).wf = true ∧ (e1_.f2.length * 8 ≤ 140737488351232 ∧ e1_.f2.length ≤ maxLen ∧ ∀ e2_ ∈ e1_.f2, (Lit.int .i64 e2_).wf = true)))) := op_slice 69 Try.underlying25 op_t69 (by kernel_rfl) 40 (by kernel_rfl)
theorem op_t74 : Opn Try.prog 74 k74 (fun (x : S74) => ((Lit.int .i64 x.f0).wf = true ∧ (x.f1.length * 8 ≤ 140737488351232 ∧ x.f1.length ≤ maxLen ∧ ∀ e1_ ∈ x.f1, (Lit.int .i64 e1_).wf = true))) := op_struct (d := (Kd.pair (Kd.int .i64) (Kd.slice 3 (Kd.int .i64)))) (wf := fun (y : (Int) × (List Int)) => (Lit.int .i64 y.1).wf = true ∧ (y.2.length * 8 ≤ 140737488351232 ∧ y.2.length ≤ maxLen ∧ ∀ e1_ ∈ y.2, (Lit.int .i64 e1_).wf = true)) Try.underlying74 (by kernel_rfl) (opf_cons (off := 0) (d := (Kd.int .i64)) (r := (Kd.slice 3 (Kd.int .i64))) (wf := (fun (x : Int) => (Lit.int .i64 x).wf = true)) (wr := (fun (y : (List Int)) => (y.length * 8 ≤ 140737488351232 ∧ y.length ≤ maxLen ∧ ∀ e1_ ∈ y, (Lit.int .i64 e1_).wf = true))) rfl (by kernel_rfl) op_t3 (opf_last (off := 1) (d := (Kd.slice 3 (Kd.int .i64))) (wf := (fun (x : List Int) => (x.length * 8 ≤ 140737488351232 ∧ x.length ≤ maxLen ∧ ∀ e1_ ∈ x, (Lit.int .i64 e1_).wf = true))) rfl (by kernel_rfl) op_t24)) (fun x : S74 => (x.f0, x.f1)) (fun (y : (Int) × (List Int)) => (⟨y.1, y.2⟩ : S74)) (fun _ => rfl)
theorem op_t26 : Opn Try.prog 26 (Kd.slice 74 k74) (fun (x : List (S74)) => (x.length * 32 ≤ 140737488351232 ∧ x.length ≤ maxLen ∧ ∀ e1_ ∈ x, ((Lit.int .i64 e1_.f0).wf = true ∧ (e1_.f1.length * 8 ≤ 140737488351232 ∧ e1_.f1.length ≤ maxLen ∧ ∀ e2_ ∈ e1_.f1, (Lit.int .i64 e2_).wf = true)))) := op_slice 74 Try.underlying26 op_t74 (by kernel_rfl) 32 (by kernel_rfl)
theorem op_t28 : Opn Try.prog 28 k28 (fun (x : S28) => ((x.f0.length * 8 ≤ 140737488351232 ∧ x.f0.length ≤ maxLen ∧ ∀ e1_ ∈ x.f0, (Lit.int .i64 e1_).wf = true) ∧ (Lit.int .i64 x.f1).wf = true ∧ (x.f2.length * 40 ≤ 140737488351232 ∧ x.f2.length ≤ maxLen ∧ ∀ e1_ ∈ x.f2, ((Lit.int .i64 e1_.f0).wf = true ∧ (Lit.int .i64 e1_.f1).wf = true ∧ (e1_.f2.length * 8 ≤ 140737488351232 ∧ e1_.f2.length ≤ maxLen ∧ ∀ e2_ ∈ e1_.f2, (Lit.int .i64 e2_).wf = true))) ∧ (x.f3.length * 32 ≤ 140737488351232 ∧ x.f3.length ≤ maxLen ∧ ∀ e1_ ∈ x.f3, ((Lit.int .i64 e1_.f0).wf = true ∧ (e1_.f1.length * 8 ≤ 140737488351232 ∧ e1_.f1.length ≤ maxLen ∧ ∀ e2_ ∈ e1_.f1, (Lit.int .i64 e2_).wf = true))))) := op_struct (d := (Kd.pair (Kd.slice 3 (Kd.int .i64)) (Kd.pair (Kd.int .i64) (Kd.pair (Kd.slice 69 k69) (Kd.slice 74 k74))))) (wf := fun (y : (List Int) × (Int) × (List (S69)) × (List (S74))) => (y.1.length * 8 ≤ 140737488351232 ∧ y.1.length ≤ maxLen ∧ ∀ e1_ ∈ y.1, (Lit.int .i64 e1_).wf = true) ∧ (Lit.int .i64 y.2.1).wf = true ∧ (y.2.2.1.length * 40 ≤ 140737488351232 ∧ y.2.2.1.length ≤ maxLen ∧ ∀ e1_ ∈ y.2.2.1, ((Lit.int .i64 e1_.f0).wf = true ∧ (Lit.int .i64 e1_.f1).wf = true ∧ (e1_.f2.length * 8 ≤ 140737488351232 ∧ e1_.f2.length ≤ maxLen ∧ ∀ e2_ ∈ e1_.f2, (Lit.int .i64 e2_).wf = true))) ∧ (y.2.2.2.length * 32 ≤ 140737488351232 ∧ y.2.2.2.length ≤ maxLen ∧ ∀ e1_ ∈ y.2.2.2, ((Lit.int .i64 e1_.f0).wf = true ∧ (e1_.f1.length * 8 ≤ 140737488351232 ∧ e1_.f1.length ≤ maxLen ∧ ∀ e2_ ∈ e1_.f1, (Lit.int .i64 e2_).wf = true)))) Try.underlying28 (by kernel_rfl) (opf_cons (off := 0) (d := (Kd.slice 3 (Kd.int .i64))) (r := (Kd.pair (Kd.int .i64) (Kd.pair (Kd.slice 69 k69) (Kd.slice 74 k74)))) (wf := (fun (x : List Int) => (x.length * 8 ≤ 140737488351232 ∧ x.length ≤ maxLen ∧ ∀ e1_ ∈ x, (Lit.int .i64 e1_).wf = true))) (wr := (fun (y : (Int) × (List (S69)) × (List (S74))) => (Lit.int .i64 y.1).wf = true ∧ (y.2.1.length * 40 ≤ 140737488351232 ∧ y.2.1.length ≤ maxLen ∧ ∀ e1_ ∈ y.2.1, ((Lit.int .i64 e1_.f0).wf = true ∧ (Lit.int .i64 e1_.f1).wf = true ∧ (e1_.f2.length * 8 ≤ 140737488351232 ∧ e1_.f2.length ≤ maxLen ∧ ∀ e2_ ∈ e1_.f2, (Lit.int .i64 e2_).wf = true))) ∧ (y.2.2.length * 32 ≤ 140737488351232 ∧ y.2.2.length ≤ maxLen ∧ ∀ e1_ ∈ y.2.2, ((Lit.int .i64 e1_.f0).wf = true ∧ (e1_.f1.length * 8 ≤ 140737488351232 ∧ e1_.f1.length ≤ maxLen ∧ ∀ e2_ ∈ e1_.f1, (Lit.int .i64 e2_).wf = true))))) rfl (by kernel_rfl) op_t24 (opf_cons (off := 1) (d := (Kd.int .i64)) (r := (Kd.pair (Kd.slice 69 k69) (Kd.slice 74 k74))) (wf := (fun (x : Int) => (Lit.int .i64 x).wf = true)) (wr := (fun (y : (List (S69)) × (List (S74))) => (y.1.length * 40 ≤ 140737488351232 ∧ y.1.length ≤ maxLen ∧ ∀ e1_ ∈ y.1, ((Lit.int .i64 e1_.f0).wf = true ∧ (Lit.int .i64 e1_.f1).wf = true ∧ (e1_.f2.length * 8 ≤ 140737488351232 ∧ e1_.f2.length ≤ maxLen ∧ ∀ e2_ ∈ e1_.f2, (Lit.int .i64 e2_).wf = true))) ∧ (y.2.length * 32 ≤ 140737488351232 ∧ y.2.length ≤ maxLen ∧ ∀ e1_ ∈ y.2, ((Lit.int .i64 e1_.f0).wf = true ∧ (e1_.f1.length * 8 ≤ 140737488351232 ∧ e1_.f1.length ≤ maxLen ∧ ∀ e2_ ∈ e1_.f1, (Lit.int .i64 e2_).wf = true))))) rfl (by kernel_rfl) op_t3 (opf_cons (off := 2) (d := (Kd.slice 69 k69)) (r := (Kd.slice 74 k74)) (wf := (fun (x : List (S69)) => (x.length * 40 ≤ 140737488351232 ∧ x.length ≤ maxLen ∧ ∀ e1_ ∈ x, ((Lit.int .i64 e1_.f0).wf = true ∧ (Lit.int .i64 e1_.f1).wf = true ∧ (e1_.f2.length * 8 ≤ 140737488351232 ∧ e1_.f2.length ≤ maxLen ∧ ∀ e2_ ∈ e1_.f2, (Lit.int .i64 e2_).wf = true))))) (wr := (fun (y : (List (S74))) => (y.length * 32 ≤ 140737488351232 ∧ y.length ≤ maxLen ∧ ∀ e1_ ∈ y, ((Lit.int .i64 e1_.f0).wf = true ∧ (e1_.f1.length * 8 ≤ 140737488351232 ∧ e1_.f1.length ≤ maxLen ∧ ∀ e2_ ∈ e1_.f1, (Lit.int .i64 e2_).wf = true))))) rfl (by kernel_rfl) op_t25 (opf_last (off := 3) (d := (Kd.slice 74 k74)) (wf := (fun (x : List (S74)) => (x.length * 32 ≤ 140737488351232 ∧ x.length ≤ maxLen ∧ ∀ e1_ ∈ x, ((Lit.int .i64 e1_.f0).wf = true ∧ (e1_.f1.length * 8 ≤ 140737488351232 ∧ e1_.f1.length ≤ maxLen ∧ ∀ e2_ ∈ e1_.f1, (Lit.int .i64 e2_).wf = true))))) rfl (by kernel_rfl) op_t26)))) (fun x : S28 => (x.f0, x.f1, x.f2, x.f3)) (fun (y : (List Int) × (Int) × (List (S69)) × (List (S74))) => (⟨y.1, y.2.1, y.2.2.1, y.2.2.2⟩ : S28)) (fun _ => rfl)
set_option maxRecDepth 100000 in
theorem lifted (os : Os) (started : os.Started) (H : Type) (enc : TypeId × Value → H) :
    ReturnsInHanded {} Try.checked os 4 .any (Rows.fnLoopTurnsSpec.pre6 enc Try.prog Try.f4 Rows.fnLoopTurnsRow.domain false) (Rows.fnLoopTurnsSpec.post enc Try.prog Try.f4 false true false false) := by
  refine returnsInHanded_of_change_sized (C := Try.checked) own started (by kernel_rfl) Try.func4
    (ChangeSpec.witness6 (enc := enc) (C := Try.checked) false ⟨#[], #[.agg #[.slice none 0 0, .int .i64 0, .slice none 0 0, .slice none 0 0], .int .i64 0, .int .i64 0], []⟩ 8 (by kernel_rfl) (by kernel_rfl) (by kernel_rfl) (by kernel_rfl)) ?_
  intro W base args ds gs before hval0 hW hcnd hsz0 _
  have hsz : (DataW.weightsEach Try.prog (Try.f4.params.toList ++ Rows.fnLoopTurnsSpec.plain.varTypes Try.prog) (ds ++ gs)).all (· ≤ reachBytes) = true := hsz0
  have hval : ∀ (j : Nat) t v, Try.f4.params[j]? = some t → args[j]? = some v → Value.okWide Try.prog W .any base t v := hval0
  have hW' := hW
  obtain ⟨p, q, hA0, hV, rfl, hfz, hnd⟩ := hW
  have hA : DataW.TrodAll enc Try.prog W 0 (fun _ => true) true Try.f4.params.toList args.toList ds p := hA0
  rw [Try.params4] at hA hval hsz
  obtain ⟨v0, vs0, d0, ds0, p0, q0, hargs, rfl, rfl, h0, r0⟩ := trodAll_cons hA
  obtain ⟨v1, vs1, d1, ds1, p1, q1, rfl, rfl, rfl, h1, r1⟩ := trodAll_cons r0
  obtain ⟨v2, vs2, d2, ds2, p2, q2, rfl, rfl, rfl, h2, r2⟩ := trodAll_cons r1
  obtain ⟨rfl, rfl, rfl⟩ := trodAll_nil r2
  obtain rfl : args = #[v0, v1, v2] := by cases args; simp_all
  obtain ⟨rfl, rfl⟩ := trodVars_none hV
  have k0 := h0
  have lt0 : ∀ x ∈ p0, x.block < W.heap.size := by obtain ⟨m, hm⟩ := k0; exact DataW.trod_lt m _ _ _ hm
  obtain ⟨cs0, rfl, _⟩ := okWide_struct Try.underlying28 (hval 0 28 v0 rfl rfl)
  obtain ⟨x0, y0, w0⟩ : ∃ x, k28.K W x cs0.toList ∧ ((x.f0.length * 8 ≤ 140737488351232 ∧ x.f0.length ≤ maxLen ∧ ∀ e1_ ∈ x.f0, (Lit.int .i64 e1_).wf = true) ∧ (Lit.int .i64 x.f1).wf = true ∧ (x.f2.length * 40 ≤ 140737488351232 ∧ x.f2.length ≤ maxLen ∧ ∀ e1_ ∈ x.f2, ((Lit.int .i64 e1_.f0).wf = true ∧ (Lit.int .i64 e1_.f1).wf = true ∧ (e1_.f2.length * 8 ≤ 140737488351232 ∧ e1_.f2.length ≤ maxLen ∧ ∀ e2_ ∈ e1_.f2, (Lit.int .i64 e2_).wf = true))) ∧ (x.f3.length * 32 ≤ 140737488351232 ∧ x.f3.length ≤ maxLen ∧ ∀ e1_ ∈ x.f3, ((Lit.int .i64 e1_.f0).wf = true ∧ (e1_.f1.length * 8 ≤ 140737488351232 ∧ e1_.f1.length ≤ maxLen ∧ ∀ e2_ ∈ e1_.f1, (Lit.int .i64 e2_).wf = true)))) := by
    obtain ⟨fu, hf⟩ := h0
    exact (op_t28).op hf (weightsEach_mem (i := 0) rfl rfl hsz)
  obtain ⟨A0_0, c0_0, A0_2, c0_2, A0_3, c0_3, e0, hc0_0, hr0_0, hc0_2, hr0_2, hc0_3, hr0_3⟩ := k28_open y0
  obtain rfl : cs0 = #[.slice A0_0 x0.f0.length c0_0, .int .i64 x0.f1, .slice A0_2 x0.f2.length c0_2, .slice A0_3 x0.f3.length c0_3] := Array.ext' (by simpa using e0)
  obtain ⟨a1, rfl, rfl, rfl, w1⟩ := open_int Try.underlying3 (hval 1 3 v1 rfl rfl) h1
  obtain ⟨a2, rfl, rfl, rfl, w2⟩ := open_int Try.underlying3 (hval 2 3 v2 rfl rfl) h2
  obtain ⟨k, hP⟩ := Pu.FnLoopTurns x0.f0 x0.f1 x0.f2 x0.f3 a1 a2 w0.1 w0.2.1 w0.2.2.1 w0.2.2.2 w1 w2
  clear hA0 hval0 hsz0 hsz
  refine (laws_FnLoopTurns.calls k _ _ _ _ _ _ _ _ _ _ _ _ true W hr0_0 hc0_0 hr0_2 hc0_2 hr0_3 hc0_3 ⟨rfl⟩ hP).mono fun e W' ⟨he, bel0⟩ => ?_
  have bel : Below W.heap.size W W' := bel0
  subst he
  exact ⟨_, rfl, _, _, _, [], _, [], hW', trodAll_mk1 (shut_bool Try.underlying4 _), (trodAll_cons_mk (Below.trod laidOut (by kernel_rfl) (of_decide_eq_true (by kernel_rfl)) k0 bel lt0) (trodAll_cons_mk (shut_int Try.underlying3 w1) (trodAll_cons_mk (shut_int Try.underlying3 w2) trodAll_mk0))), rfl, bel.frame _, fun h => by cases h⟩
theorem over : Rows.fnLoopTurnsRow.holds Try.pinned (OpenSpec.ofChange Rows.fnLoopTurnsSpec) :=
  OpenClaim.holds_of_wide 4 Try.f4 rfl rfl rfl rfl rfl rfl rfl ⟨rfl, rfl, rfl, rfl, rfl⟩ rfl rfl rfl rfl rfl (by kernel_rfl) Try.func4 (by kernel_rfl)
    (of_decide_eq_true (by kernel_rfl)) (by unfold Func.isWrapper; first | (rw [if_pos (by decide +kernel)]; kernel_rfl) | (rw [if_neg (by decide +kernel)]; exact ⟨rfl, rfl⟩))
    (fun os started H enc _ => lifted os started H enc)
theorem proved : Rows.FnLoopTurnsSaid := over
end Go.Proofs.Ytmjhbdmicejppaa.fnLoopTurns
namespace Go.Proofs.Ytmjhbdmicejppaa
theorem fnLoopTurns_holds : Rows.FnLoopTurnsSaid := fnLoopTurns.proved
end Go.Proofs.Ytmjhbdmicejppaa
