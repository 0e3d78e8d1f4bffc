import Derived.Test.YtheckjlldkkceaaZnLh
import Derived.Test.YtheckjlldkkceaaZnPx16
import Derived.Test.YtheckjlldkkceaaZnPx22
namespace Go.Proofs.Ytheckjlldkkceaa.Pu
open Go.RowKit Go.Proofs.Ytheckjlldkkceaa.Px Go.Proofs.YtheckjlldkkceaaW.PrintWords Go.Proofs.YtheckjlldkkceaaW.PrintLast Go.Proofs.YtheckjlldkkceaaW.PrintMore
set_option linter.unusedVariables false
theorem sum_l (a : Int) (l : List (List S30)) (hl : l.length ≤ 1000) (T : Int) (hT : T ≤ 1000) (R : Int × Bool) (hfin : Ev (fun k => spec_LeastHops.l0 k T (l.length : Int) a l) R) : ∀ (d i : Nat), i + d = l.length → ∀ c : Int, 0 ≤ c → c + (l.drop i).flatten.length = T → Ev (fun k => spec_LeastHops.l0 k c (i : Int) a l) R := by
  intro d
  induction d with
  | zero =>
    intro i hi c h0 hc
    have ei : i = l.length := by omega
    subst ei
    rw [List.drop_of_length_le (by omega)] at hc
    have ec : c = T := by simpa using hc
    rw [ec]
    exact hfin
  | succ d ih =>
    intro i hi c h0 hc
    have hlt : i < l.length := by omega
    rw [List.drop_eq_getElem_cons hlt, List.flatten_cons, List.length_append] at hc
    refine Ev.step (fun k => ?_) (ih (i + 1) (by omega) (c + (l[i].length : Int)) (by omega) (by omega))
    simp only [spec_LeastHops.l0]
    rw [if_pos (by omega), if_pos (by omega), rdL2_nat l i hlt, wrap_in (x := c + (l[i].length : Int)) (by omega) (by omega), wrap_in (x := (i : Int) + 1) (by omega) (by omega)]
    rfl
theorem least_both (a : Int) (l : List (List S30)) (hl : l.length ≤ 1048576) (hf : l.flatten.length ≤ 1048576) : ∃ (m : Int) (ok : Bool), Ev (fun k => impl_LeastHops.f k a l) (m, ok) ∧ Ev (fun k => spec_LeastHops.f k a l) (m, ok) ∧
    (stOk a l = true → l.flatten.length ≤ 5 → (ok = true ∧ 0 ≤ m ∧ Dig a l m.toNat ∧ ∀ n : Nat, Dig a l n → m ≤ n) ∨ (ok = false ∧ ∀ n, ¬ Dig a l n)) := by
  by_cases h : stOk a l = true
  · have hfl := flat_small h
    have hll := (st_in h).2.2.2.1
    have hbl : (bags l).length = l.flatten.length := by unfold bags; rw [List.length_map]
    have hbg := bags_ev a l hl hf
    by_cases h5 : l.flatten.length ≤ 5
    · obtain ⟨r, ⟨g1, g2, g3⟩, g4⟩ := good_ev a l.flatten.length hfl l h rfl
      have hr : -1 ≤ r := by rcases g2 with ⟨g, _⟩ | ⟨g, _⟩ <;> omega
      have h20 := g3 20 (by omega) (by omega)
      by_cases h0 : r < 0
      · have e20 : few r 20 = 21 := by
          unfold few
          rw [if_neg (fun h => by omega)]
          rfl
        rw [e20] at h20
        refine ⟨0, false, ?_, ?_, fun _ _ => .inr ⟨rfl, ?_⟩⟩
        · have hj : Ev (fun k => impl_LeastHops.j0 k false a l) (0, false) := Ev.round (Lt.of g1) fun k e => by
            simp only [impl_LeastHops.j0, e, Option.bind_some]
            rw [if_neg (by simp), if_pos h0]
          refine Lt.ev ((Lt.of (impl_st_ev a l hl hf)).and ((Lt.of hbg).and (Lt.of hj))) fun k ⟨e1, e2, e3⟩ => ?_
          simp only [impl_LeastHops.f, e1, e2, Option.bind_some]
          rw [if_pos h, hbl, decide_eq_false (by omega)]
          exact e3
        · have hfin : Ev (fun k => spec_LeastHops.l0 k (l.flatten.length : Int) (l.length : Int) a l) (0, false) := Ev.round (Lt.of h20) fun k e => by
            simp only [spec_LeastHops.l0, e, Option.bind_some]
            rw [if_neg (by omega), if_neg (by omega)]
            rfl
          have := sum_l a l (by omega) _ (by omega) _ hfin l.length 0 (by omega) 0 (by omega) (by simp)
          refine Lt.ev ((Lt.of (spec_st_ev a l)).and (Lt.of this)) fun k ⟨e1, e2⟩ => ?_
          simp only [spec_LeastHops.f, e1, Option.bind_some]
          rw [if_pos h]
          exact e2
        · rcases g2 with ⟨_, g⟩ | ⟨g, _⟩
          · exact g
          · omega
      · have e20 : few r 20 = r := by
          unfold few
          rw [if_pos (by omega)]
        rw [e20] at h20
        refine ⟨r, true, ?_, ?_, fun _ _ => .inl ⟨rfl, by omega, ?_⟩⟩
        · have hj : Ev (fun k => impl_LeastHops.j0 k false a l) (r, true) := Ev.round (Lt.of g1) fun k e => by
            simp only [impl_LeastHops.j0, e, Option.bind_some]
            rw [if_neg (by simp), if_neg h0]
          refine Lt.ev ((Lt.of (impl_st_ev a l hl hf)).and ((Lt.of hbg).and (Lt.of hj))) fun k ⟨e1, e2, e3⟩ => ?_
          simp only [impl_LeastHops.f, e1, e2, Option.bind_some]
          rw [if_pos h, hbl, decide_eq_false (by omega)]
          exact e3
        · have hfin : Ev (fun k => spec_LeastHops.l0 k (l.flatten.length : Int) (l.length : Int) a l) (r, true) := Ev.round (Lt.of h20) fun k e => by
            simp only [spec_LeastHops.l0, e, Option.bind_some]
            rw [if_neg (by omega), if_neg (by omega), if_neg (by omega)]
          have := sum_l a l (by omega) _ (by omega) _ hfin l.length 0 (by omega) 0 (by omega) (by simp)
          refine Lt.ev ((Lt.of (spec_st_ev a l)).and (Lt.of this)) fun k ⟨e1, e2⟩ => ?_
          simp only [spec_LeastHops.f, e1, Option.bind_some]
          rw [if_pos h]
          exact e2
        · rcases g2 with ⟨g, _⟩ | ⟨_, g⟩
          · omega
          · exact g
    · refine ⟨0, false, ?_, ?_, fun _ h6 => absurd h6 h5⟩
      · have hj : Ev (fun k => impl_LeastHops.j0 k true a l) (0, false) := Ev.step (f := fun _ => some (0, false)) (fun k => by
          simp only [impl_LeastHops.j0]
          rw [if_pos trivial]) (Ev.now _)
        refine Lt.ev ((Lt.of (impl_st_ev a l hl hf)).and ((Lt.of hbg).and (Lt.of hj))) fun k ⟨e1, e2, e3⟩ => ?_
        simp only [impl_LeastHops.f, e1, e2, Option.bind_some]
        rw [if_pos h, hbl, decide_eq_true (by omega)]
        exact e3
      · have hfin : Ev (fun k => spec_LeastHops.l0 k (l.flatten.length : Int) (l.length : Int) a l) (0, false) := Ev.step (f := fun _ => some (0, false)) (fun k => by
          simp only [spec_LeastHops.l0]
          rw [if_neg (by omega), if_pos (by omega)]) (Ev.now _)
        have := sum_l a l (by omega) _ (by omega) _ hfin l.length 0 (by omega) 0 (by omega) (by simp)
        refine Lt.ev ((Lt.of (spec_st_ev a l)).and (Lt.of this)) fun k ⟨e1, e2⟩ => ?_
        simp only [spec_LeastHops.f, e1, Option.bind_some]
        rw [if_pos h]
        exact e2
  · refine ⟨0, false, ?_, ?_, fun h2 => absurd h2 h⟩
    · have hj : Ev (fun k => impl_LeastHops.j0 k true a l) (0, false) := Ev.step (f := fun _ => some (0, false)) (fun k => by
        simp only [impl_LeastHops.j0]
        rw [if_pos trivial]) (Ev.now _)
      refine Lt.ev ((Lt.of (impl_st_ev a l hl hf)).and (Lt.of hj)) fun k ⟨e1, e3⟩ => ?_
      simp only [impl_LeastHops.f, e1, Option.bind_some]
      rw [if_neg h]
      exact e3
    · refine Lt.ev (Lt.of (spec_st_ev a l)) fun k e1 => ?_
      simp only [spec_LeastHops.f, e1, Option.bind_some]
      rw [if_neg h]
end Go.Proofs.Ytheckjlldkkceaa.Pu
