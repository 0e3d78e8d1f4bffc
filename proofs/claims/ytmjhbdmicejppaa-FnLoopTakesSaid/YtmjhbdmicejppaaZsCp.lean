import Derived.Test.YtmjhbdmicejppaaZsTa
import Derived.Test.YtmjhbdmicejppaaZsMo
import Derived.Test.YtmjhbdmicejppaaZsPx1
import Derived.Test.YtmjhbdmicejppaaZsPx3
import Derived.Test.YtmjhbdmicejppaaZsPx4
namespace Go.Proofs.Ytmjhbdmicejppaa.Pu
open Go.RowKit Go.Proofs.Ytmjhbdmicejppaa.Px Go.Proofs.YtmjhbdmicejppaaW.PrintWords Go.Proofs.YtmjhbdmicejppaaW.PrintLast Go.Proofs.YtmjhbdmicejppaaW.PrintMore
set_option linter.unusedVariables false
section
variable (T : Int) (tr : List Int) (ch : List S69) (wa : List S74) (ht : tr.length ≤ 1048576) (hc : ch.length ≤ 1048576) (hcb : ∀ x ∈ ch, x.f2.length ≤ 1048576) (hw : wa.length ≤ 1048576) (hwb : ∀ x ∈ wa, x.f1.length ≤ 1048576)
include hw hwb
theorem icopy_l1 : ∀ (d i : Nat), i + d = wa.length → Ev (fun k => impl_copyLoop.l1 k wa (wa.length : Int) (i : Int) tr T ch (wa.take i)) (tr, T, ch, wa) := by
  intro d
  induction d with
  | zero =>
    intro i hi
    refine Ev.step (f := fun _ => some (tr, T, ch, wa)) (fun k => ?_) (Ev.now _)
    simp only [impl_copyLoop.l1]
    rw [if_neg (by omega), List.take_of_length_le (by omega)]
  | succ d ih =>
    intro i hi
    have hlt : i < wa.length := by omega
    have hb := hwb _ (List.getElem_mem hlt)
    refine Ev.step (fun k => ?_) (ih (i + 1) (by omega))
    simp only [impl_copyLoop.l1, slices_Clone_int_int.f, rd74_nat wa i hlt]
    rw [if_pos (by omega), if_pos (by omega), if_pos (by omega), if_pos (by omega), Option.bind_some, if_pos (by rw [List.length_take]; omega), wrap_in (x := (i : Int) + 1) (by omega) (by omega), List.take_succ_eq_append_getElem hlt]
    rfl
theorem scopy_l1 : ∀ (d i : Nat), i + d = wa.length → Ev (fun k => spec_l05Copy.l1 k (wa.take i) (i : Int) tr T ch wa) (tr, T, ch, wa) := by
  intro d
  induction d with
  | zero =>
    intro i hi
    refine Ev.step (f := fun _ => some (tr, T, ch, wa)) (fun k => ?_) (Ev.now _)
    simp only [spec_l05Copy.l1]
    rw [if_neg (by omega), List.take_of_length_le (by omega)]
  | succ d ih =>
    intro i hi
    have hlt : i < wa.length := by omega
    have hb := hwb _ (List.getElem_mem hlt)
    refine Ev.step (fun k => ?_) (ih (i + 1) (by omega))
    simp only [spec_l05Copy.l1, rd74_nat wa i hlt, Option.bind_some, List.nil_append, List.length_nil]
    rw [if_pos (by omega), if_pos (by omega), if_pos (by omega), if_pos (by rw [List.length_take]; omega), wrap_in (x := (i : Int) + 1) (by omega) (by omega), List.take_succ_eq_append_getElem hlt]
    rfl
include hc hcb
theorem icopy_l0 (t0 : List Int) (a0 : Int) : ∀ (d i : Nat), i + d = ch.length → Ev (fun k => impl_copyLoop.l0 k ch (ch.length : Int) (i : Int) t0 a0 ch wa tr T (ch.take i)) (tr, T, ch, wa) := by
  intro d
  induction d with
  | zero =>
    intro i hi
    refine Ev.step (fun k => ?_) (icopy_l1 T tr ch wa hw hwb wa.length 0 (by omega))
    simp only [impl_copyLoop.l0]
    rw [if_neg (by omega), List.take_of_length_le (by omega)]
    rfl
  | succ d ih =>
    intro i hi
    have hlt : i < ch.length := by omega
    have hb := hcb _ (List.getElem_mem hlt)
    refine Ev.step (fun k => ?_) (ih (i + 1) (by omega))
    simp only [impl_copyLoop.l0, slices_Clone_int_int.f, rd69_nat ch i hlt]
    rw [if_pos (by omega), if_pos (by omega), if_pos (by omega), if_pos (by omega), Option.bind_some, if_pos (by rw [List.length_take]; omega), wrap_in (x := (i : Int) + 1) (by omega) (by omega), List.take_succ_eq_append_getElem hlt]
    rfl
theorem scopy_l0 : ∀ (d i : Nat), i + d = ch.length → Ev (fun k => spec_l05Copy.l0 k (ch.take i) (i : Int) tr T ch wa) (tr, T, ch, wa) := by
  intro d
  induction d with
  | zero =>
    intro i hi
    refine Ev.step (fun k => ?_) (scopy_l1 T tr ch wa hw hwb wa.length 0 (by omega))
    simp only [spec_l05Copy.l0]
    rw [if_neg (by omega), List.take_of_length_le (by omega)]
    rfl
  | succ d ih =>
    intro i hi
    have hlt : i < ch.length := by omega
    have hb := hcb _ (List.getElem_mem hlt)
    refine Ev.step (fun k => ?_) (ih (i + 1) (by omega))
    simp only [spec_l05Copy.l0, rd69_nat ch i hlt, Option.bind_some, List.nil_append, List.length_nil]
    rw [if_pos (by omega), if_pos (by omega), if_pos (by omega), if_pos (by rw [List.length_take]; omega), wrap_in (x := (i : Int) + 1) (by omega) (by omega), List.take_succ_eq_append_getElem hlt]
    rfl
include ht
theorem icopy_ev : Ev (fun k => impl_copyLoop.f k tr T ch wa) (tr, T, ch, wa) := by
  refine Lt.ev (Lt.of (icopy_l0 T tr ch wa hc hcb hw hwb tr T ch.length 0 (by omega))) fun k e => ?_
  simp only [impl_copyLoop.f, slices_Clone_int_int.f]
  rw [if_pos (by omega)]
  exact e
theorem scopy_ev : Ev (fun k => spec_l05Copy.f k tr T ch wa) (tr, T, ch, wa) := by
  refine Lt.ev (Lt.of (scopy_l0 T tr ch wa hc hcb hw hwb ch.length 0 (by omega))) fun k e => ?_
  simp only [spec_l05Copy.f, Option.bind_some, List.nil_append, List.length_nil]
  rw [if_pos (by omega)]
  exact e
end
end Go.Proofs.Ytmjhbdmicejppaa.Pu
