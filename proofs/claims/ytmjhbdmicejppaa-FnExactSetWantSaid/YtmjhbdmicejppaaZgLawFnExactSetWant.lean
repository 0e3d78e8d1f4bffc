import Derived.Test.YtmjhbdmicejppaaRows
import Derived.Test.YtmjhbdmicejppaaZgPx30
import Derived.Test.YtmjhbdmicejppaaZgPuFnExactSetWant
import Derived.Test.YtmjhbdmicejppaaZgOpens
import Derived.WalkKit
import Derived.ProofKit
import Derived.OpenShut
import Derived.ShutString
import Derived.ChangeOld
import Derived.Below
import Derived.SizedLaws
namespace Go.Proofs.Ytmjhbdmicejppaa.fnExactSetWant
open Go.ChangeShapes Go.WideShapes Go.ChangeAt Go.RowKit
open Go.ChangeMaps (open_string shut_string)
open Go.Proofs.YtmjhbdmicejppaaW.PrintWords Go.Proofs.Ytmjhbdmicejppaa.Px Go.Proofs.Ytmjhbdmicejppaa.Opens
set_option linter.unusedVariables false
theorem own : ownKnob Try.prog.godebug = none := by kernel_rfl
theorem laidOut : laidOutB Try.prog = true := by kernel_rfl
theorem op_t3 : Opn Try.prog 3 (Kd.int .i64) (fun x => (Lit.int .i64 x).wf = true) := op_int Try.underlying3
theorem op_t24 : Opn Try.prog 24 (Kd.slice 3 (Kd.int .i64)) (fun (x : List Int) => (x.length * 8 ≤ 140737488351232 ∧ x.length ≤ maxLen ∧ ∀ e1_ ∈ x, (Lit.int .i64 e1_).wf = true)) := op_slice 3 Try.underlying24 op_t3 (by kernel_rfl) 8 (by kernel_rfl)
theorem op_t95 : Opn Try.prog 95 k95 (fun (x : S95) => ((Lit.int .i64 x.f0).wf = true ∧ (Lit.int .i64 x.f1).wf = true ∧ (x.f2.length * 8 ≤ 140737488351232 ∧ x.f2.length ≤ maxLen ∧ ∀ e1_ ∈ x.f2, (Lit.int .i64 e1_).wf = true))) := op_struct (d := (Kd.pair (Kd.int .i64) (Kd.pair (Kd.int .i64) (Kd.slice 3 (Kd.int .i64))))) (wf := fun (y : (Int) × (Int) × (List Int)) => (Lit.int .i64 y.1).wf = true ∧ (Lit.int .i64 y.2.1).wf = true ∧ (y.2.2.length * 8 ≤ 140737488351232 ∧ y.2.2.length ≤ maxLen ∧ ∀ e1_ ∈ y.2.2, (Lit.int .i64 e1_).wf = true)) Try.underlying95 (by kernel_rfl) (opf_cons (off := 0) (d := (Kd.int .i64)) (r := (Kd.pair (Kd.int .i64) (Kd.slice 3 (Kd.int .i64)))) (wf := (fun (x : Int) => (Lit.int .i64 x).wf = true)) (wr := (fun (y : (Int) × (List Int)) => (Lit.int .i64 y.1).wf = true ∧ (y.2.length * 8 ≤ 140737488351232 ∧ y.2.length ≤ maxLen ∧ ∀ e1_ ∈ y.2, (Lit.int .i64 e1_).wf = true))) rfl (by kernel_rfl) op_t3 (opf_cons (off := 1) (d := (Kd.int .i64)) (r := (Kd.slice 3 (Kd.int .i64))) (wf := (fun (x : Int) => (Lit.int .i64 x).wf = true)) (wr := (fun (y : (List Int)) => (y.length * 8 ≤ 140737488351232 ∧ y.length ≤ maxLen ∧ ∀ e1_ ∈ y, (Lit.int .i64 e1_).wf = true))) rfl (by kernel_rfl) op_t3 (opf_last (off := 2) (d := (Kd.slice 3 (Kd.int .i64))) (wf := (fun (x : List Int) => (x.length * 8 ≤ 140737488351232 ∧ x.length ≤ maxLen ∧ ∀ e1_ ∈ x, (Lit.int .i64 e1_).wf = true))) rfl (by kernel_rfl) op_t24))) (fun x : S95 => (x.f0, x.f1, x.f2)) (fun (y : (Int) × (Int) × (List Int)) => (⟨y.1, y.2.1, y.2.2⟩ : S95)) (fun _ => rfl)
theorem op_t40 : Opn Try.prog 40 (Kd.slice 95 k95) (fun (x : List (S95)) => (x.length * 40 ≤ 140737488351232 ∧ x.length ≤ maxLen ∧ ∀ e1_ ∈ x, ((Lit.int .i64 e1_.f0).wf = true ∧ (Lit.int .i64 e1_.f1).wf = true ∧ (e1_.f2.length * 8 ≤ 140737488351232 ∧ e1_.f2.length ≤ maxLen ∧ ∀ e2_ ∈ e1_.f2, (Lit.int .i64 e2_).wf = true)))) := op_slice 95 Try.underlying40 op_t95 (by kernel_rfl) 40 (by kernel_rfl)
theorem op_t97 : Opn Try.prog 97 k97 (fun (x : S97) => ((Lit.int .i64 x.f0).wf = true ∧ (x.f1.length * 8 ≤ 140737488351232 ∧ x.f1.length ≤ maxLen ∧ ∀ e1_ ∈ x.f1, (Lit.int .i64 e1_).wf = true))) := op_struct (d := (Kd.pair (Kd.int .i64) (Kd.slice 3 (Kd.int .i64)))) (wf := fun (y : (Int) × (List Int)) => (Lit.int .i64 y.1).wf = true ∧ (y.2.length * 8 ≤ 140737488351232 ∧ y.2.length ≤ maxLen ∧ ∀ e1_ ∈ y.2, (Lit.int .i64 e1_).wf = true)) Try.underlying97 (by kernel_rfl) (opf_cons (off := 0) (d := (Kd.int .i64)) (r := (Kd.slice 3 (Kd.int .i64))) (wf := (fun (x : Int) => (Lit.int .i64 x).wf = true)) (wr := (fun (y : (List Int)) => (y.length * 8 ≤ 140737488351232 ∧ y.length ≤ maxLen ∧ ∀ e1_ ∈ y, (Lit.int .i64 e1_).wf = true))) rfl (by kernel_rfl) op_t3 (opf_last (off := 1) (d := (Kd.slice 3 (Kd.int .i64))) (wf := (fun (x : List Int) => (x.length * 8 ≤ 140737488351232 ∧ x.length ≤ maxLen ∧ ∀ e1_ ∈ x, (Lit.int .i64 e1_).wf = true))) rfl (by kernel_rfl) op_t24)) (fun x : S97 => (x.f0, x.f1)) (fun (y : (Int) × (List Int)) => (⟨y.1, y.2⟩ : S97)) (fun _ => rfl)
theorem op_t41 : Opn Try.prog 41 (Kd.slice 97 k97) (fun (x : List (S97)) => (x.length * 32 ≤ 140737488351232 ∧ x.length ≤ maxLen ∧ ∀ e1_ ∈ x, ((Lit.int .i64 e1_.f0).wf = true ∧ (e1_.f1.length * 8 ≤ 140737488351232 ∧ e1_.f1.length ≤ maxLen ∧ ∀ e2_ ∈ e1_.f1, (Lit.int .i64 e2_).wf = true)))) := op_slice 97 Try.underlying41 op_t97 (by kernel_rfl) 32 (by kernel_rfl)
theorem op_t43 : Opn Try.prog 43 k43 (fun (x : S43) => ((x.f0.length * 8 ≤ 140737488351232 ∧ x.f0.length ≤ maxLen ∧ ∀ e1_ ∈ x.f0, (Lit.int .i64 e1_).wf = true) ∧ (Lit.int .i64 x.f1).wf = true ∧ (x.f2.length * 40 ≤ 140737488351232 ∧ x.f2.length ≤ maxLen ∧ ∀ e1_ ∈ x.f2, ((Lit.int .i64 e1_.f0).wf = true ∧ (Lit.int .i64 e1_.f1).wf = true ∧ (e1_.f2.length * 8 ≤ 140737488351232 ∧ e1_.f2.length ≤ maxLen ∧ ∀ e2_ ∈ e1_.f2, (Lit.int .i64 e2_).wf = true))) ∧ (x.f3.length * 32 ≤ 140737488351232 ∧ x.f3.length ≤ maxLen ∧ ∀ e1_ ∈ x.f3, ((Lit.int .i64 e1_.f0).wf = true ∧ (e1_.f1.length * 8 ≤ 140737488351232 ∧ e1_.f1.length ≤ maxLen ∧ ∀ e2_ ∈ e1_.f1, (Lit.int .i64 e2_).wf = true))))) := op_struct (d := (Kd.pair (Kd.slice 3 (Kd.int .i64)) (Kd.pair (Kd.int .i64) (Kd.pair (Kd.slice 95 k95) (Kd.slice 97 k97))))) (wf := fun (y : (List Int) × (Int) × (List (S95)) × (List (S97))) => (y.1.length * 8 ≤ 140737488351232 ∧ y.1.length ≤ maxLen ∧ ∀ e1_ ∈ y.1, (Lit.int .i64 e1_).wf = true) ∧ (Lit.int .i64 y.2.1).wf = true ∧ (y.2.2.1.length * 40 ≤ 140737488351232 ∧ y.2.2.1.length ≤ maxLen ∧ ∀ e1_ ∈ y.2.2.1, ((Lit.int .i64 e1_.f0).wf = true ∧ (Lit.int .i64 e1_.f1).wf = true ∧ (e1_.f2.length * 8 ≤ 140737488351232 ∧ e1_.f2.length ≤ maxLen ∧ ∀ e2_ ∈ e1_.f2, (Lit.int .i64 e2_).wf = true))) ∧ (y.2.2.2.length * 32 ≤ 140737488351232 ∧ y.2.2.2.length ≤ maxLen ∧ ∀ e1_ ∈ y.2.2.2, ((Lit.int .i64 e1_.f0).wf = true ∧ (e1_.f1.length * 8 ≤ 140737488351232 ∧ e1_.f1.length ≤ maxLen ∧ ∀ e2_ ∈ e1_.f1, (Lit.int .i64 e2_).wf = true)))) Try.underlying43 (by kernel_rfl) (opf_cons (off := 0) (d := (Kd.slice 3 (Kd.int .i64))) (r := (Kd.pair (Kd.int .i64) (Kd.pair (Kd.slice 95 k95) (Kd.slice 97 k97)))) (wf := (fun (x : List Int) => (x.length * 8 ≤ 140737488351232 ∧ x.length ≤ maxLen ∧ ∀ e1_ ∈ x, (Lit.int .i64 e1_).wf = true))) (wr := (fun (y : (Int) × (List (S95)) × (List (S97))) => (Lit.int .i64 y.1).wf = true ∧ (y.2.1.length * 40 ≤ 140737488351232 ∧ y.2.1.length ≤ maxLen ∧ ∀ e1_ ∈ y.2.1, ((Lit.int .i64 e1_.f0).wf = true ∧ (Lit.int .i64 e1_.f1).wf = true ∧ (e1_.f2.length * 8 ≤ 140737488351232 ∧ e1_.f2.length ≤ maxLen ∧ ∀ e2_ ∈ e1_.f2, (Lit.int .i64 e2_).wf = true))) ∧ (y.2.2.length * 32 ≤ 140737488351232 ∧ y.2.2.length ≤ maxLen ∧ ∀ e1_ ∈ y.2.2, ((Lit.int .i64 e1_.f0).wf = true ∧ (e1_.f1.length * 8 ≤ 140737488351232 ∧ e1_.f1.length ≤ maxLen ∧ ∀ e2_ ∈ e1_.f1, (Lit.int .i64 e2_).wf = true))))) rfl (by kernel_rfl) op_t24 (opf_cons (off := 1) (d := (Kd.int .i64)) (r := (Kd.pair (Kd.slice 95 k95) (Kd.slice 97 k97))) (wf := (fun (x : Int) => (Lit.int .i64 x).wf = true)) (wr := (fun (y : (List (S95)) × (List (S97))) => (y.1.length * 40 ≤ 140737488351232 ∧ y.1.length ≤ maxLen ∧ ∀ e1_ ∈ y.1, ((Lit.int .i64 e1_.f0).wf = true ∧ (Lit.int .i64 e1_.f1).wf = true ∧ (e1_.f2.length * 8 ≤ 140737488351232 ∧ e1_.f2.length ≤ maxLen ∧ ∀ e2_ ∈ e1_.f2, (Lit.int .i64 e2_).wf = true))) ∧ (y.2.length * 32 ≤ 140737488351232 ∧ y.2.length ≤ maxLen ∧ ∀ e1_ ∈ y.2, ((Lit.int .i64 e1_.f0).wf = true ∧ (e1_.f1.length * 8 ≤ 140737488351232 ∧ e1_.f1.length ≤ maxLen ∧ ∀ e2_ ∈ e1_.f1, (Lit.int .i64 e2_).wf = true))))) rfl (by kernel_rfl) op_t3 (opf_cons (off := 2) (d := (Kd.slice 95 k95)) (r := (Kd.slice 97 k97)) (wf := (fun (x : List (S95)) => (x.length * 40 ≤ 140737488351232 ∧ x.length ≤ maxLen ∧ ∀ e1_ ∈ x, ((Lit.int .i64 e1_.f0).wf = true ∧ (Lit.int .i64 e1_.f1).wf = true ∧ (e1_.f2.length * 8 ≤ 140737488351232 ∧ e1_.f2.length ≤ maxLen ∧ ∀ e2_ ∈ e1_.f2, (Lit.int .i64 e2_).wf = true))))) (wr := (fun (y : (List (S97))) => (y.length * 32 ≤ 140737488351232 ∧ y.length ≤ maxLen ∧ ∀ e1_ ∈ y, ((Lit.int .i64 e1_.f0).wf = true ∧ (e1_.f1.length * 8 ≤ 140737488351232 ∧ e1_.f1.length ≤ maxLen ∧ ∀ e2_ ∈ e1_.f1, (Lit.int .i64 e2_).wf = true))))) rfl (by kernel_rfl) op_t40 (opf_last (off := 3) (d := (Kd.slice 97 k97)) (wf := (fun (x : List (S97)) => (x.length * 32 ≤ 140737488351232 ∧ x.length ≤ maxLen ∧ ∀ e1_ ∈ x, ((Lit.int .i64 e1_.f0).wf = true ∧ (e1_.f1.length * 8 ≤ 140737488351232 ∧ e1_.f1.length ≤ maxLen ∧ ∀ e2_ ∈ e1_.f1, (Lit.int .i64 e2_).wf = true))))) rfl (by kernel_rfl) op_t41)))) (fun x : S43 => (x.f0, x.f1, x.f2, x.f3)) (fun (y : (List Int) × (Int) × (List (S95)) × (List (S97))) => (⟨y.1, y.2.1, y.2.2.1, y.2.2.2⟩ : S43)) (fun _ => rfl)
set_option maxRecDepth 100000 in
theorem lifted (os : Os) (started : os.Started) (H : Type) (enc : TypeId × Value → H) :
    ReturnsInHanded {} Try.checked os 10 .any (Rows.fnExactSetWantSpec.pre6 enc Try.prog Try.f10 Rows.fnExactSetWantRow.domain false) (Rows.fnExactSetWantSpec.post enc Try.prog Try.f10 false true false false) := by
  refine returnsInHanded_of_change_sized (C := Try.checked) own started (by kernel_rfl) Try.func10
    (ChangeSpec.witness6 (enc := enc) (C := Try.checked) false ⟨#[], #[.agg #[.slice none 0 0, .int .i64 0, .slice none 0 0, .slice none 0 0], .int .i64 0, .slice none 0 0], []⟩ 8 (by kernel_rfl) (by kernel_rfl) (by kernel_rfl) (by kernel_rfl)) ?_
  intro W base args ds gs before hval0 hW hcnd hsz0 _
  have hsz : (DataW.weightsEach Try.prog (Try.f10.params.toList ++ Rows.fnExactSetWantSpec.plain.varTypes Try.prog) (ds ++ gs)).all (· ≤ reachBytes) = true := hsz0
  have hval : ∀ (j : Nat) t v, Try.f10.params[j]? = some t → args[j]? = some v → Value.okWide Try.prog W .any base t v := hval0
  have hW' := hW
  obtain ⟨p, q, hA0, hV, rfl, hfz, hnd⟩ := hW
  have hA : DataW.TrodAll enc Try.prog W 0 (fun _ => true) true Try.f10.params.toList args.toList ds p := hA0
  rw [Try.params10] at hA hval hsz
  obtain ⟨v0, vs0, d0, ds0, p0, q0, hargs, rfl, rfl, h0, r0⟩ := trodAll_cons hA
  obtain ⟨v1, vs1, d1, ds1, p1, q1, rfl, rfl, rfl, h1, r1⟩ := trodAll_cons r0
  obtain ⟨v2, vs2, d2, ds2, p2, q2, rfl, rfl, rfl, h2, r2⟩ := trodAll_cons r1
  obtain ⟨rfl, rfl, rfl⟩ := trodAll_nil r2
  obtain rfl : args = #[v0, v1, v2] := by cases args; simp_all
  obtain ⟨rfl, rfl⟩ := trodVars_none hV
  have k0 := h0
  have lt0 : ∀ x ∈ p0, x.block < W.heap.size := by obtain ⟨m, hm⟩ := k0; exact DataW.trod_lt m _ _ _ hm
  obtain ⟨cs0, rfl, _⟩ := okWide_struct Try.underlying43 (hval 0 43 v0 rfl rfl)
  obtain ⟨x0, y0, w0⟩ : ∃ x, k43.K W x cs0.toList ∧ ((x.f0.length * 8 ≤ 140737488351232 ∧ x.f0.length ≤ maxLen ∧ ∀ e1_ ∈ x.f0, (Lit.int .i64 e1_).wf = true) ∧ (Lit.int .i64 x.f1).wf = true ∧ (x.f2.length * 40 ≤ 140737488351232 ∧ x.f2.length ≤ maxLen ∧ ∀ e1_ ∈ x.f2, ((Lit.int .i64 e1_.f0).wf = true ∧ (Lit.int .i64 e1_.f1).wf = true ∧ (e1_.f2.length * 8 ≤ 140737488351232 ∧ e1_.f2.length ≤ maxLen ∧ ∀ e2_ ∈ e1_.f2, (Lit.int .i64 e2_).wf = true))) ∧ (x.f3.length * 32 ≤ 140737488351232 ∧ x.f3.length ≤ maxLen ∧ ∀ e1_ ∈ x.f3, ((Lit.int .i64 e1_.f0).wf = true ∧ (e1_.f1.length * 8 ≤ 140737488351232 ∧ e1_.f1.length ≤ maxLen ∧ ∀ e2_ ∈ e1_.f1, (Lit.int .i64 e2_).wf = true)))) := by
    obtain ⟨fu, hf⟩ := h0
    exact (op_t43).op hf (weightsEach_mem (i := 0) rfl rfl hsz)
  obtain ⟨A0_0, c0_0, A0_2, c0_2, A0_3, c0_3, e0, hc0_0, hr0_0, hc0_2, hr0_2, hc0_3, hr0_3⟩ := k43_open y0
  obtain rfl : cs0 = #[.slice A0_0 x0.f0.length c0_0, .int .i64 x0.f1, .slice A0_2 x0.f2.length c0_2, .slice A0_3 x0.f3.length c0_3] := Array.ext' (by simpa using e0)
  obtain ⟨a1, rfl, rfl, rfl, w1⟩ := open_int Try.underlying3 (hval 1 3 v1 rfl rfl) h1
  have k2 := h2
  have lt2 : ∀ x ∈ p2, x.block < W.heap.size := by obtain ⟨m, hm⟩ := k2; exact DataW.trod_lt m _ _ _ hm
  obtain ⟨A2, len2, c2, rfl⟩ := okWide_slice Try.underlying24 (hval 2 24 v2 rfl rfl)
  obtain ⟨l2, y2, w2⟩ : ∃ x, (Kd.slice 3 (Kd.int .i64)).K W x [.slice A2 len2 c2] ∧ (x.length * 8 ≤ 140737488351232 ∧ x.length ≤ maxLen ∧ ∀ e1_ ∈ x, (Lit.int .i64 e1_).wf = true) := by
    obtain ⟨fu, hf⟩ := h2
    exact (op_t24).op hf (weightsEach_mem (i := 2) rfl rfl hsz)
  obtain ⟨_, _, e2, hc2, hr2⟩ := y2
  obtain ⟨rfl, rfl, rfl⟩ : A2 = _ ∧ len2 = _ ∧ c2 = _ := by simpa using e2
  obtain ⟨k, hP⟩ := Pu.FnExactSetWant x0.f0 x0.f1 x0.f2 x0.f3 a1 l2 w0.1 w0.2.1 w0.2.2.1 w0.2.2.2 w1 w2
  clear hA0 hval0 hsz0 hsz
  refine (laws_FnExactSetWant.calls k _ _ _ _ _ _ _ _ _ _ _ _ _ _ true W hr0_0 hc0_0 hr0_2 hc0_2 hr0_3 hc0_3 hr2 hc2 ⟨rfl⟩ hP).mono fun e W' ⟨he, bel0⟩ => ?_
  have bel : Below W.heap.size W W' := bel0
  subst he
  exact ⟨_, rfl, _, _, _, [], _, [], hW', trodAll_mk1 (shut_bool Try.underlying4 _), (trodAll_cons_mk (Below.trod laidOut (by kernel_rfl) (of_decide_eq_true (by kernel_rfl)) k0 bel lt0) (trodAll_cons_mk (shut_int Try.underlying3 w1) (trodAll_cons_mk (Below.trod laidOut (by kernel_rfl) (of_decide_eq_true (by kernel_rfl)) k2 bel lt2) trodAll_mk0))), rfl, bel.frame _, fun h => by cases h⟩
theorem over : Rows.fnExactSetWantRow.holds Try.pinned (OpenSpec.ofChange Rows.fnExactSetWantSpec) :=
  OpenClaim.holds_of_wide 10 Try.f10 rfl rfl rfl rfl rfl rfl rfl ⟨rfl, rfl, rfl, rfl, rfl⟩ rfl rfl rfl rfl rfl (by kernel_rfl) Try.func10 (by kernel_rfl)
    (of_decide_eq_true (by kernel_rfl)) (by unfold Func.isWrapper; first | (rw [if_pos (by decide +kernel)]; kernel_rfl) | (rw [if_neg (by decide +kernel)]; exact ⟨rfl, rfl⟩))
    (fun os started H enc _ => lifted os started H enc)
theorem proved : Rows.FnExactSetWantSaid := over
end Go.Proofs.Ytmjhbdmicejppaa.fnExactSetWant
namespace Go.Proofs.Ytmjhbdmicejppaa
theorem fnExactSetWant_holds : Rows.FnExactSetWantSaid := fnExactSetWant.proved
end Go.Proofs.Ytmjhbdmicejppaa
