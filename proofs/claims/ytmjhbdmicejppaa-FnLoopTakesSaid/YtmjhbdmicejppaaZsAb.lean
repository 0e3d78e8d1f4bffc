import Derived.Test.YtmjhbdmicejppaaZsLi
import Derived.Test.YtmjhbdmicejppaaZsPx1
namespace Go.Proofs.Ytmjhbdmicejppaa.Pu
open Go.RowKit Go.Proofs.Ytmjhbdmicejppaa.Px Go.Proofs.YtmjhbdmicejppaaW.PrintWords Go.Proofs.YtmjhbdmicejppaaW.PrintLast Go.Proofs.YtmjhbdmicejppaaW.PrintMore
set_option linter.unusedVariables false
theorem aboardC_l (t : List Int) (a : Int) (c : List S69) (w : List S74) (hc : c.length ≤ 1048576) (hf : (c.flatMap (fun x => x.f2)).length ≤ 1048576) : ∀ (d i : Nat), i + d = c.length → ∀ x : Nat, x + ((c.drop i).flatMap (fun x => x.f2)).length ≤ 4194304 → Ev (fun k => laws_aboard.l1 k (x : Int) (i : Int) t a c w) ((x : Int) + (((c.drop i).flatMap (fun x => x.f2)).length : Int)) := by
  intro d
  induction d with
  | zero =>
    intro i hi x hx
    rw [List.drop_of_length_le (by omega)]
    refine Ev.step (f := fun _ => some ((x : Int) + ((([] : List S69).flatMap (fun x => x.f2)).length : Int))) (fun k => ?_) (Ev.now _)
    simp only [laws_aboard.l1]
    rw [if_neg (by omega)]
    simp
  | succ d ih =>
    intro i hi x hx
    have hlt : i < c.length := by omega
    rw [List.drop_eq_getElem_cons hlt, List.flatMap_cons, List.length_append] at hx ⊢
    have h := ih (i + 1) (by omega) (x + c[i].f2.length) (by omega)
    rw [show ((x : Int) + ((c[i].f2.length + ((c.drop (i + 1)).flatMap (fun x => x.f2)).length : Nat) : Int)) = ((x + c[i].f2.length : Nat) : Int) + (((c.drop (i + 1)).flatMap (fun x => x.f2)).length : Int) by omega]
    refine Ev.step (fun k => ?_) h
    simp only [laws_aboard.l1, rd69_nat c i hlt]
    rw [if_pos (by omega), if_pos (by omega), wrap_in (x := (i : Int) + 1) (by omega) (by omega), wrap_in (x := (x : Int) + (c[i].f2.length : Int)) (by omega) (by omega)]
    rfl
theorem aboardT_l (t : List Int) (a : Int) (c : List S69) (w : List S74) (ht : t.length ≤ 1048576) (hc : c.length ≤ 1048576) (hf : (c.flatMap (fun x => x.f2)).length ≤ 1048576) : ∀ (d i : Nat), i + d = t.length → ∀ x : Nat, x ≤ i → Ev (fun k => laws_aboard.l0 k (x : Int) (i : Int) t a c w) ((x : Int) + (((t.drop i).filter (fun x => !decide (x = 0))).length : Int) + ((c.flatMap (fun x => x.f2)).length : Int)) := by
  intro d
  induction d with
  | zero =>
    intro i hi x hx
    rw [List.drop_of_length_le (by omega)]
    have h := aboardC_l t a c w hc hf c.length 0 (by omega) x (by rw [List.drop_zero]; omega)
    rw [List.drop_zero] at h
    simp only [List.filter_nil, List.length_nil]
    rw [show (x : Int) + ((0 : Nat) : Int) + ((c.flatMap (fun x => x.f2)).length : Int) = (x : Int) + ((c.flatMap (fun x => x.f2)).length : Int) by omega]
    refine Ev.step (fun k => ?_) h
    simp only [laws_aboard.l0]
    rw [if_neg (by omega)]
    rfl
  | succ d ih =>
    intro i hi x hx
    have hlt : i < t.length := by omega
    have er : rd t (i : Int) = t[i] := by simp [rd, hlt]
    rw [List.drop_eq_getElem_cons hlt, List.filter_cons]
    by_cases h0 : t[i] = 0
    · rw [if_neg (by simp [h0])]
      refine Ev.step (fun k => ?_) (ih (i + 1) (by omega) x (by omega))
      simp only [laws_aboard.l0, er]
      rw [if_pos (by omega), if_pos (by omega), if_pos h0, wrap_in (x := (i : Int) + 1) (by omega) (by omega)]
      rfl
    · rw [if_pos (by simp [h0]), List.length_cons]
      have h := ih (i + 1) (by omega) (x + 1) (by omega)
      rw [show ((x + 1 : Nat) : Int) + (((t.drop (i + 1)).filter (fun x => !decide (x = 0))).length : Int) + ((c.flatMap (fun x => x.f2)).length : Int) = (x : Int) + ((((t.drop (i + 1)).filter (fun x => !decide (x = 0))).length + 1 : Nat) : Int) + ((c.flatMap (fun x => x.f2)).length : Int) by omega] at h
      refine Ev.step (fun k => ?_) h
      simp only [laws_aboard.l0, er]
      rw [if_pos (by omega), if_pos (by omega), if_neg h0, wrap_in (x := (i : Int) + 1) (by omega) (by omega), wrap_in (x := (x : Int) + 1) (by omega) (by omega)]
      rfl
theorem aboard_ev (t : List Int) (a : Int) (c : List S69) (w : List S74) (ht : t.length ≤ 1048576) (hc : c.length ≤ 1048576) (hf : (c.flatMap (fun x => x.f2)).length ≤ 1048576) : Ev (fun k => laws_aboard.f k t a c w) ((bagsL t c).length : Int) := by
  have h := aboardT_l t a c w ht hc hf t.length 0 (by omega) 0 (by omega)
  rw [List.drop_zero] at h
  unfold bagsL
  rw [List.length_append]
  refine Lt.ev (Lt.of h) fun k e => ?_
  have e' : laws_aboard.l0 k 0 0 t a c w = some (((0 : Nat) : Int) + ((t.filter (fun x => !decide (x = 0))).length : Int) + ((c.flatMap (fun x => x.f2)).length : Int)) := e
  simp only [laws_aboard.f, e']
  congr 1
  omega
end Go.Proofs.Ytmjhbdmicejppaa.Pu
