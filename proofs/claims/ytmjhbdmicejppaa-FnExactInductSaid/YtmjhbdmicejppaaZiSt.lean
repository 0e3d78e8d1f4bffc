import Derived.Test.YtmjhbdmicejppaaZiCp
import Derived.Test.YtmjhbdmicejppaaZiPx3
import Derived.Test.YtmjhbdmicejppaaZiPx6
import Derived.Test.YtmjhbdmicejppaaZiPx0
import Derived.Test.YtmjhbdmicejppaaZiPx1
namespace Go.Proofs.Ytmjhbdmicejppaa.Pu
open Go.RowKit Go.Proofs.Ytmjhbdmicejppaa.Px Go.Proofs.YtmjhbdmicejppaaW.PrintWords Go.Proofs.YtmjhbdmicejppaaW.PrintLast Go.Proofs.YtmjhbdmicejppaaW.PrintMore
set_option linter.unusedVariables false
theorem index_l (l : List Int) (b : Int) (hn : l.length ≤ 1048576) : ∀ (d i : Nat), i + d = l.length → ∃ r, Ev (fun k => slices_Index_int_int.l0 k l b (l.length : Int) (i : Int)) r ∧ (r ≥ 0 ↔ b ∈ l.drop i) := by
  intro d
  induction d with
  | zero =>
    intro i hi
    refine ⟨-1, Ev.step (f := fun _ => some (-1)) (fun k => ?_) (Ev.now _), ?_⟩
    · simp only [slices_Index_int_int.l0]
      rw [if_neg (by omega)]
    · rw [List.drop_of_length_le (by omega)]
      simp
  | succ d ih =>
    intro i hi
    have hlt : i < l.length := by omega
    have er : rd l (i : Int) = l[i] := by simp [rd, hlt]
    rw [List.drop_eq_getElem_cons hlt]
    by_cases e : b = l[i]
    · refine ⟨(i : Int), Ev.step (f := fun _ => some (i : Int)) (fun k => ?_) (Ev.now _), ?_⟩
      · simp only [slices_Index_int_int.l0, er]
        rw [if_pos (by omega), if_pos (by omega), if_pos (by omega), if_pos e]
      · exact ⟨fun _ => by rw [e]; exact List.mem_cons_self, fun _ => by omega⟩
    · obtain ⟨r, hr, hb⟩ := ih (i + 1) (by omega)
      refine ⟨r, Ev.step (fun k => ?_) hr, ?_⟩
      · simp only [slices_Index_int_int.l0, er]
        rw [if_pos (by omega), if_pos (by omega), if_pos (by omega), if_neg e, wrap_in (x := (i : Int) + 1) (by omega) (by omega)]
        rfl
      · rw [hb, List.mem_cons]
        exact ⟨Or.inr, fun h => h.elim (fun h => absurd h e) id⟩
theorem contains_ev (l : List Int) (b : Int) (hn : l.length ≤ 1048576) : Ev (fun k => slices_Contains_int_int.f k l b) (decide (b ∈ l)) := by
  obtain ⟨r, hr, hb⟩ := index_l l b hn l.length 0 (by omega)
  refine Lt.ev (Lt.of hr) fun k e => ?_
  have e' : slices_Index_int_int.l0 k l b (l.length : Int) 0 = some r := e
  simp only [slices_Contains_int_int.f, slices_Index_int_int.f, e', Option.bind_some]
  rw [List.drop_zero] at hb
  rw [decide_eq_decide.2 hb]
structure Vl (n : Nat) (tr : List Int) (T : Int) (ch : List S69) (wa : List S74) : Prop where
  len : tr.length = n
  n2 : 2 ≤ n
  n60 : n ≤ 60
  t0 : 0 ≤ T
  t1 : T < n
  c8 : ch.length ≤ 8
  chs : ∀ x ∈ ch, 0 ≤ x.f0 ∧ x.f0 < n ∧ x.f1 ≤ 40 ∧ (x.f2.length : Int) ≤ x.f1
  w60 : wa.length ≤ 60
  was : ∀ x ∈ wa, x.f1.length ≤ 1048576
end Go.Proofs.Ytmjhbdmicejppaa.Pu
