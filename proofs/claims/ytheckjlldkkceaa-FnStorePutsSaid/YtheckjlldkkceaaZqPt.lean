import Derived.Test.YtheckjlldkkceaaZqHp
import Derived.Test.YtheckjlldkkceaaZqSb
import Derived.Test.YtheckjlldkkceaaZqPx0
import Derived.Test.YtheckjlldkkceaaZqPx3
import Derived.Test.YtheckjlldkkceaaZqPx25
namespace Go.Proofs.Ytheckjlldkkceaa.Pu
open Go.RowKit Go.Proofs.Ytheckjlldkkceaa.Px Go.Proofs.YtheckjlldkkceaaW.PrintWords Go.Proofs.YtheckjlldkkceaaW.PrintLast Go.Proofs.YtheckjlldkkceaaW.PrintMore
set_option linter.unusedVariables false
theorem index_l (l : List Int) (b : Int) (hn : l.length ≤ 1048576) : ∀ (d i : Nat), i + d = l.length → ∃ r, Ev (fun k => slices_Index_int_int.l0 k l b (l.length : Int) (i : Int)) r ∧ (r ≥ 0 ↔ b ∈ l.drop i) := by
  intro d
  induction d with
  | zero =>
    intro i hi
    refine ⟨-1, Ev.step (f := fun _ => some (-1)) (fun k => ?_) (Ev.now _), ?_⟩
    · simp only [slices_Index_int_int.l0]
      rw [if_neg (by omega)]
    · rw [List.drop_of_length_le (by omega)]
      simp
  | succ d ih =>
    intro i hi
    have hlt : i < l.length := by omega
    rw [List.drop_eq_getElem_cons hlt]
    by_cases e : b = l[i]
    · refine ⟨(i : Int), Ev.step (f := fun _ => some (i : Int)) (fun k => ?_) (Ev.now _), ?_⟩
      · simp only [slices_Index_int_int.l0, rd_nat l i hlt]
        rw [if_pos (by omega), if_pos (by omega), if_pos (by omega), if_pos e]
      · exact ⟨fun _ => by rw [e]; exact List.mem_cons_self, fun _ => by omega⟩
    · obtain ⟨r, hr, hb⟩ := ih (i + 1) (by omega)
      refine ⟨r, Ev.step (fun k => ?_) hr, ?_⟩
      · simp only [slices_Index_int_int.l0, rd_nat l i hlt]
        rw [if_pos (by omega), if_pos (by omega), if_pos (by omega), if_neg e, wrap_in (x := (i : Int) + 1) (by omega) (by omega)]
        rfl
      · rw [hb, List.mem_cons]
        exact ⟨Or.inr, fun h => h.elim (fun h => absurd h e) id⟩
theorem contains_ev (l : List Int) (b : Int) (hn : l.length ≤ 1048576) : Ev (fun k => slices_Contains_int_int.f k l b) (decide (b ∈ l)) := by
  obtain ⟨r, hr, hb⟩ := index_l l b hn l.length 0 (by omega)
  refine Lt.ev (Lt.of hr) fun k e => ?_
  have e' : slices_Index_int_int.l0 k l b (l.length : Int) 0 = some r := e
  simp only [slices_Contains_int_int.f, slices_Index_int_int.f, e', Option.bind_some]
  rw [List.drop_zero] at hb
  rw [decide_eq_decide.2 hb]
theorem fnd_bags (l : List (List S30)) (b : Int) : (0 ≤ fnd l b) ↔ b ∈ bags l := by
  have h := Opens.idxB_any (hasB b) l
  have h2 : (0 ≤ fnd l b) ↔ l.any (hasB b) = true := by
    rw [← h]
    unfold fnd
    exact ⟨fun h => decide_eq_true h, fun h => of_decide_eq_true h⟩
  rw [h2, List.any_eq_true]
  unfold bags hasB
  rw [List.mem_map]
  constructor
  · rintro ⟨m, hm, hy⟩
    rw [List.any_eq_true] at hy
    obtain ⟨y, hy, e⟩ := hy
    exact ⟨y, List.mem_flatten.2 ⟨m, hm, hy⟩, by simpa using e⟩
  · rintro ⟨y, hy, e⟩
    obtain ⟨m, hm, hy⟩ := List.mem_flatten.1 hy
    exact ⟨m, hm, List.any_eq_true.2 ⟨y, hy, by simpa using e⟩⟩
theorem flat_set_len (l : List (List S30)) (i : Nat) (m : List S30) (hi : i < l.length) : (l.set i m).flatten.length + l[i].length = l.flatten.length + m.length := by
  have e1 : l = l.take i ++ l[i] :: l.drop (i + 1) := by rw [← List.drop_eq_getElem_cons hi, List.take_append_drop]
  have e2 : l.set i m = l.take i ++ m :: l.drop (i + 1) := by rw [List.set_eq_take_append_cons_drop, if_pos hi]
  rw [e2]
  have e3 := congrArg (fun z => z.flatten.length) e1
  simp only [List.flatten_append, List.flatten_cons, List.length_append] at e3 ⊢
  omega
def PutAs (a : Int) (l : List (List S30)) (b t : Int) (l' : List (List S30)) (j : Int) (ok : Bool) : Prop :=
  (ok = true → ∃ (p : Nat) (hp : p < l.length), stOk a l = true ∧ 0 ≤ t ∧ t ≤ 100000 ∧ laneFor a l t (-1) = (p : Int) ∧ (l[p].length : Int) < a ∧ 1 ≤ b ∧ b ∉ bags l ∧ l' = l.set p (l[p] ++ [⟨b, t⟩])) ∧ (ok = false → l' = l ∧ j = -1)
theorem put_both (a : Int) (l : List (List S30)) (b t : Int) (hl : l.length ≤ 1048576) (hf : l.flatten.length ≤ 1048576) (hm' : ∀ x ∈ l, x.length ≤ 1048576) : ∃ (l' : List (List S30)) (j : Int) (ok : Bool),
    Ev (fun k => impl_PutBag.f k a l b t) (a, l', j, ok) ∧ Ev (fun k => spec_PutBag.f k a l b t) (a, l', j, ok) ∧ l'.length ≤ 1048576 ∧ l'.flatten.length ≤ 1048576 ∧ (∀ x ∈ l', x.length ≤ 1048576) ∧ PutAs a l b t l' j ok := by
  have c1 := copyI_ev a l (by omega) hm'
  have c2 := copyS_ev a l (by omega) hm'
  have f1 := impl_lf_ev a l t (-1) (by omega) (by omega)
  have f2 := spec_lf_ev a l t (-1)
  have hbl : (bags l).length = l.flatten.length := by unfold bags; rw [List.length_map]
  have g1 := bags_ev a l (by omega) (by omega)
  have g2 := contains_ev (bags l) b (by omega)
  have g3 := find_ev a l b (by omega) hm'
  have no1 : ∀ z, Ev (fun k => impl_PutBag.j0 k b t z true a l) (a, l, -1, false) := fun z => Ev.step (f := fun _ => some (a, l, -1, false)) (fun k => by
    simp only [impl_PutBag.j0]
    rw [if_pos trivial]) (Ev.now _)
  have no2 : ∀ z, Ev (fun k => spec_PutBag.j0 k b t z true a l) (a, l, -1, false) := fun z => Ev.step (f := fun _ => some (a, l, -1, false)) (fun k => by
    simp only [spec_PutBag.j0]
    rw [if_pos trivial]) (Ev.now _)
  have small : l.length ≤ 1048576 ∧ l.flatten.length ≤ 1048576 ∧ (∀ x ∈ l, x.length ≤ 1048576) ∧ PutAs a l b t l (-1) false := ⟨by omega, by omega, hm', fun h => absurd h (by simp), fun _ => ⟨rfl, rfl⟩⟩
  by_cases h1 : laneFor a l t (-1) < 0
  · refine ⟨l, -1, false, ?_, ?_, small⟩
    · refine Lt.ev ((Lt.of c1).and ((Lt.of f1).and (Lt.of (no1 (laneFor a l t (-1)))))) fun k ⟨e1, e2, e3⟩ => ?_
      simp only [impl_PutBag.f, e1, e2, Option.bind_some]
      rw [if_pos h1]
      exact e3
    · refine Lt.ev ((Lt.of c2).and ((Lt.of f2).and (Lt.of (no2 (laneFor a l t (-1)))))) fun k ⟨e1, e2, e3⟩ => ?_
      simp only [spec_PutBag.f, e1, e2, Option.bind_some]
      rw [if_pos h1]
      exact e3
  · by_cases h2 : b < 1
    · refine ⟨l, -1, false, ?_, ?_, small⟩
      · refine Lt.ev ((Lt.of c1).and ((Lt.of f1).and (Lt.of (no1 (laneFor a l t (-1)))))) fun k ⟨e1, e2, e3⟩ => ?_
        simp only [impl_PutBag.f, e1, e2, Option.bind_some]
        rw [if_neg h1, if_pos h2]
        exact e3
      · refine Lt.ev ((Lt.of c2).and ((Lt.of f2).and (Lt.of (no2 (laneFor a l t (-1)))))) fun k ⟨e1, e2, e3⟩ => ?_
        simp only [spec_PutBag.f, e1, e2, Option.bind_some]
        rw [if_neg h1, if_pos h2]
        exact e3
    · by_cases h3 : b ∈ bags l
      · refine ⟨l, -1, false, ?_, ?_, small⟩
        · refine Lt.ev ((Lt.of c1).and ((Lt.of f1).and ((Lt.of g1).and ((Lt.of g2).and (Lt.of (no1 (laneFor a l t (-1)))))))) fun k ⟨e1, e2, e4, e5, e3⟩ => ?_
          simp only [impl_PutBag.f, e1, e2, Option.bind_some]
          rw [if_neg h1, if_neg h2]
          simp only [e4, Option.bind_some, e5]
          rw [decide_eq_true h3]
          exact e3
        · refine Lt.ev ((Lt.of c2).and ((Lt.of f2).and ((Lt.of g3).and (Lt.of (no2 (laneFor a l t (-1))))))) fun k ⟨e1, e2, e4, e3⟩ => ?_
          simp only [spec_PutBag.f, e1, e2, Option.bind_some]
          rw [if_neg h1, if_neg h2]
          simp only [e4, Option.bind_some]
          rw [decide_eq_true ((fnd_bags l b).2 h3)]
          exact e3
      · obtain ⟨j, hj, ej, _, hr⟩ := laneFor_in (a := a) (l := l) (time := t) (but := -1) (by omega)
        have hs : stOk a l = true := Classical.byContradiction fun hc => h1 (by
          unfold laneFor
          rw [if_neg (fun hh => hc hh.1)]
          omega)
        have ht : 0 ≤ t ∧ t ≤ 100000 := Classical.byContradiction fun hc => h1 (by
          unfold laneFor
          rw [if_neg (fun hh => hc hh.2)]
          omega)
        obtain ⟨q1, q2, q3, q4, q5, q6, q7⟩ := st_in hs
        have hff := flat_small hs
        have hlj := q5 _ (List.getElem_mem hj)
        have hfs := flat_set_len l j (l[j] ++ [⟨b, t⟩]) hj
        rw [List.length_append] at hfs
        have hfs' : (l.set j (l[j] ++ [⟨b, t⟩])).flatten.length = l.flatten.length + 1 := by simp at hfs ⊢; omega
        refine ⟨l.set j (l[j] ++ [⟨b, t⟩]), (j : Int), true, ?_, ?_, by rw [List.length_set]; omega, by omega, fun x hx => ?_, fun _ => ⟨j, hj, hs, ht.1, ht.2, ej, hr, by omega, h3, rfl⟩, fun h => absurd h (by simp)⟩
        · have yes : Ev (fun k => impl_PutBag.j0 k b t (j : Int) false a l) (a, l.set j (l[j] ++ [⟨b, t⟩]), (j : Int), true) := Ev.step (f := fun _ => some (a, l.set j (l[j] ++ [⟨b, t⟩]), (j : Int), true)) (fun k => by
            simp only [impl_PutBag.j0, rdL2_nat l j hj, Int.toNat_natCast]
            rw [if_neg (by simp), if_pos (by omega), if_pos (by omega), if_pos (by omega)]) (Ev.now _)
          refine Lt.ev ((Lt.of c1).and ((Lt.of f1).and ((Lt.of g1).and ((Lt.of g2).and (Lt.of yes))))) fun k ⟨e1, e2, e4, e5, e3⟩ => ?_
          simp only [impl_PutBag.f, e1, e2, Option.bind_some]
          rw [if_neg h1, if_neg h2]
          simp only [e4, Option.bind_some, e5]
          rw [decide_eq_false h3, ej]
          exact e3
        · have yes : Ev (fun k => spec_PutBag.j0 k b t (j : Int) false a l) (a, l.set j (l[j] ++ [⟨b, t⟩]), (j : Int), true) := Ev.round (Lt.of c2) fun k e => by
            simp only [spec_PutBag.j0, e, Option.bind_some, rdL2_nat l j hj, Int.toNat_natCast]
            rw [if_neg (by simp), if_pos (by omega), if_pos (by omega), if_pos (by omega)]
          refine Lt.ev ((Lt.of c2).and ((Lt.of f2).and ((Lt.of g3).and (Lt.of yes)))) fun k ⟨e1, e2, e4, e3⟩ => ?_
          simp only [spec_PutBag.f, e1, e2, Option.bind_some]
          rw [if_neg h1, if_neg h2]
          simp only [e4, Option.bind_some]
          rw [decide_eq_false (fun h => h3 ((fnd_bags l b).1 h)), ej]
          exact e3
        · rcases List.mem_or_eq_of_mem_set hx with h | h
          · exact hm' x h
          · rw [h, List.length_append]
            simp
            omega
end Go.Proofs.Ytheckjlldkkceaa.Pu
