import Derived.Test.YtheckjlldkkceaaZnSb
import Derived.Test.YtheckjlldkkceaaZnPx3
namespace Go.Proofs.Ytheckjlldkkceaa.Pu
open Go.RowKit Go.Proofs.Ytheckjlldkkceaa.Px Go.Proofs.YtheckjlldkkceaaW.PrintWords Go.Proofs.YtheckjlldkkceaaW.PrintLast
set_option linter.unusedVariables false
theorem has_l (l : List Int) (x : Int) (hn : l.length ≤ 4611686018427387904) : ∀ (d i : Nat), i + d = l.length → Ev (fun k => spec_l03Has.l0 k l x (i : Int)) (decide (x ∈ l.drop i)) := by
  intro d
  induction d with
  | zero =>
    intro i hi
    rw [List.drop_of_length_le (by omega)]
    refine Ev.step (f := fun _ => some false) (fun k => ?_) (by simpa using Ev.now _)
    simp only [spec_l03Has.l0]
    rw [if_neg (by omega)]
  | succ d ih =>
    intro i hi
    have hlt : i < l.length := by omega
    rw [List.drop_eq_getElem_cons hlt]
    by_cases h : l[i] = x
    · refine Ev.step (f := fun _ => some true) (fun k => ?_) (by simpa [h] using Ev.now _)
      simp only [spec_l03Has.l0]
      rw [if_pos (by omega), if_pos (by omega), rd_nat l i hlt, if_pos h]
    · have hne : ¬ x = l[i] := fun e => h e.symm
      have e : decide (x ∈ l[i] :: l.drop (i + 1)) = decide (x ∈ l.drop (i + 1)) := decide_eq_decide.2 ⟨fun h => by
        rcases List.mem_cons.1 h with h | h
        · exact absurd h hne
        · exact h, fun h => List.mem_cons_of_mem _ h⟩
      rw [e]
      refine Ev.step (fun k => ?_) (ih (i + 1) (by omega))
      simp only [spec_l03Has.l0]
      rw [if_pos (by omega), if_pos (by omega), rd_nat l i hlt, if_neg h, wrap_in (x := (i : Int) + 1) (by omega) (by omega)]
      rfl
theorem has_ev (l : List Int) (x : Int) (hn : l.length ≤ 4611686018427387904) : Ev (fun k => spec_l03Has.f k l x) (decide (x ∈ l)) :=
  Ev.congr (fun k => by simp only [spec_l03Has.f]; rfl) (has_l l x hn l.length 0 (by omega))
def okK (x : S30) : Bool := decide (1 ≤ x.f0) && decide (0 ≤ x.f1) && decide (x.f1 ≤ 100000)
def bags (l : List (List S30)) : List Int := l.flatten.map (·.f0)
def stOk (a : Int) (l : List (List S30)) : Bool := decide (1 ≤ a) && decide (a ≤ 5) && decide (1 ≤ l.length) && decide (l.length ≤ 4) && l.all (fun x => decide ((x.length : Int) ≤ a)) && l.flatten.all okK && decide (bags l).Nodup
def rest (acc : List Int) (xs : List S30) : Bool := xs.all okK && decide (acc ++ xs.map (·.f0)).Nodup
theorem rest_cons (acc : List Int) (x : S30) (r : List S30) (hn : acc.Nodup) : rest acc (x :: r) = (okK x && !decide (x.f0 ∈ acc) && rest (acc ++ [x.f0]) r) := by
  unfold rest
  rw [List.all_cons, List.append_assoc, List.map_cons]
  have e : acc ++ x.f0 :: r.map (·.f0) = acc ++ ([x.f0] ++ r.map (·.f0)) := by simp
  rw [e]
  by_cases hm : x.f0 ∈ acc
  · have : ¬ (acc ++ ([x.f0] ++ r.map (·.f0))).Nodup := by
      intro h
      rw [List.nodup_append] at h
      exact h.2.2 x.f0 hm x.f0 (by simp) rfl
    rw [decide_eq_false this, decide_eq_true hm]
    simp
  · rw [decide_eq_false hm]
    cases okK x <;> simp
theorem spec_lane (a : Int) (l : List (List S30)) (hl : l.length ≤ 4) (i : Nat) (hi : i < l.length) (ha : a ≤ 5) (hlen : (l[i].length : Int) ≤ a) (r : Bool) :
    ∀ (d j : Nat), j + d = l[i].length → ∀ acc : List Int, acc.Nodup → acc.length ≤ 1000 + j →
      (rest acc (l[i].drop j) = true → Ev (fun k => spec_StoreOk.l0 k (acc ++ (l[i].drop j).map (·.f0)) ((i : Int) + 1) a l) r) → (rest acc (l[i].drop j) = false → r = false) →
      Ev (fun k => spec_StoreOk.l1 k acc (i : Int) (j : Int) a l) r := by
  intro d
  have ei : rd_L2 l (i : Int) = l[i] := rdL2_nat l i hi
  induction d with
  | zero =>
    intro j hj acc hn hc hk hf
    have hd : l[i].drop j = [] := List.drop_of_length_le (by omega)
    rw [hd] at hk
    refine Ev.step (fun k => ?_) (hk (by simp [rest, hn]))
    simp only [spec_StoreOk.l1, ei]
    rw [if_pos (by omega), if_pos (by omega), if_neg (by omega), wrap_in (x := (i : Int) + 1) (by omega) (by omega)]
    simp
  | succ d ih =>
    intro j hj acc hn hc hk hf
    have hjl : j < l[i].length := by omega
    have hd : l[i].drop j = l[i][j] :: l[i].drop (j + 1) := List.drop_eq_getElem_cons hjl
    have ej : rd_T30 l[i] (j : Int) = l[i][j] := rd30_nat l[i] j hjl
    rw [hd, rest_cons _ _ _ hn] at hk hf
    generalize hx : l[i][j] = x at ej hk hf
    have bad : okK x = false ∨ x.f0 ∈ acc → Ev (fun k => spec_StoreOk.j3 k acc (i : Int) (j : Int) true a l x.f0 x.f1) r := by
      intro hb
      have : r = false := hf (by rcases hb with h | h <;> simp [h])
      subst this
      refine Ev.step (f := fun _ => some false) (fun k => ?_) (Ev.now _)
      simp only [spec_StoreOk.j3]
      rw [if_pos trivial]
    by_cases hb : okK x = true
    · have hok := hb
      simp only [okK, Bool.and_eq_true, decide_eq_true_eq] at hok
      by_cases hm : x.f0 ∈ acc
      · refine Ev.round ((Lt.of (has_ev acc x.f0 (by omega))).and (Lt.of (bad (.inr hm)))) fun k ⟨e1, e2⟩ => ?_
        simp only [spec_StoreOk.l1, ei, ej, spec_l01In.f]
        rw [if_pos (by omega), if_pos (by omega), if_pos (by omega), if_pos (by omega), if_neg (by omega), if_pos (by omega), decide_eq_true (by omega)]
        simp only [Option.bind_some, e1]
        rw [if_pos trivial, decide_eq_true hm]
        exact e2
      · have good : Ev (fun k => spec_StoreOk.j3 k acc (i : Int) (j : Int) false a l x.f0 x.f1) r := by
          have := ih (j + 1) (by omega) (acc ++ [x.f0]) (by
            rw [List.nodup_append]
            refine ⟨hn, by simp, fun y hy z hz e => ?_⟩
            rw [List.mem_singleton] at hz
            subst hz; subst e
            exact hm hy) (by simp; omega) (fun h => by
              have h2 := hk (by rw [hb, decide_eq_false hm, h]; rfl)
              simpa using h2) (fun h => hf (by rw [h]; simp))
          refine Ev.step (fun k => ?_) this
          simp only [spec_StoreOk.j3]
          rw [if_neg (by simp), if_pos (by omega), wrap_in (x := (j : Int) + 1) (by omega) (by omega)]
          rfl
        refine Ev.round ((Lt.of (has_ev acc x.f0 (by omega))).and (Lt.of good)) fun k ⟨e1, e2⟩ => ?_
        simp only [spec_StoreOk.l1, ei, ej, spec_l01In.f]
        rw [if_pos (by omega), if_pos (by omega), if_pos (by omega), if_pos (by omega), if_neg (by omega), if_pos (by omega), decide_eq_true (by omega)]
        simp only [Option.bind_some, e1]
        rw [if_pos trivial, decide_eq_false hm]
        exact e2
    · have hb' : okK x = false := by simpa using hb
      have hno : ¬ (1 ≤ x.f0 ∧ 0 ≤ x.f1 ∧ x.f1 ≤ 100000) := fun h => hb (by simp only [okK, Bool.and_eq_true, decide_eq_true_eq]; exact ⟨⟨h.1, h.2.1⟩, h.2.2⟩)
      refine Ev.step (fun k => ?_) (bad (.inl hb'))
      simp only [spec_StoreOk.l1, ei, ej, spec_l01In.f]
      rw [if_pos (by omega), if_pos (by omega), if_pos (by omega), if_pos (by omega)]
      by_cases h1 : x.f0 < 1
      · rw [if_pos h1]
      · rw [if_neg h1]
        by_cases h2 : x.f1 ≥ 0
        · rw [if_pos h2, decide_eq_false (by omega)]
          rfl
        · rw [if_neg h2]
          rfl
def left (a : Int) (acc : List Int) (l : List (List S30)) : Bool := l.all (fun x => decide ((x.length : Int) ≤ a)) && rest acc l.flatten
theorem left_cons (a : Int) (acc : List Int) (x : List S30) (r : List (List S30)) (hn : acc.Nodup) : left a acc (x :: r) = (decide ((x.length : Int) ≤ a) && rest acc x && left a (acc ++ x.map (·.f0)) r) := by
  unfold left rest
  rw [List.all_cons, List.flatten_cons, List.all_append, List.map_append, ← List.append_assoc]
  by_cases h : (acc ++ x.map (·.f0)).Nodup
  · rw [decide_eq_true h]
    cases decide ((x.length : Int) ≤ a) <;> cases x.all okK <;> simp
  · have : ¬ (acc ++ x.map (·.f0) ++ r.flatten.map (·.f0)).Nodup := fun h2 => h (List.nodup_append.1 h2).1
    rw [decide_eq_false h, decide_eq_false this]
    cases decide ((x.length : Int) ≤ a) <;> cases x.all okK <;> simp
theorem spec_lanes (a : Int) (l : List (List S30)) (hl : l.length ≤ 4) (ha : a ≤ 5) : ∀ (d i : Nat), i + d = l.length → ∀ acc : List Int, acc.Nodup → acc.length ≤ 5 * i → Ev (fun k => spec_StoreOk.l0 k acc (i : Int) a l) (left a acc (l.drop i)) := by
  intro d
  induction d with
  | zero =>
    intro i hi acc hn hc
    rw [List.drop_of_length_le (by omega)]
    have : left a acc [] = true := by simp [left, rest, hn]
    rw [this]
    refine Ev.step (f := fun _ => some true) (fun k => ?_) (Ev.now _)
    simp only [spec_StoreOk.l0]
    rw [if_neg (by omega)]
  | succ d ih =>
    intro i hi acc hn hc
    have hlt : i < l.length := by omega
    have ei : rd_L2 l (i : Int) = l[i] := rdL2_nat l i hlt
    rw [List.drop_eq_getElem_cons hlt, left_cons _ _ _ _ hn]
    by_cases hlen : (l[i].length : Int) ≤ a
    · rw [decide_eq_true hlen, Bool.true_and]
      refine Ev.step (fun k => ?_) (spec_lane a l hl i hlt ha hlen _ l[i].length 0 (by omega) acc hn (by omega) (fun h => ?_) (fun h => ?_))
      · simp only [spec_StoreOk.l0, ei]
        rw [if_pos (by omega), if_pos (by omega), if_neg (by omega)]
        rfl
      · rw [List.drop_zero] at h ⊢
        rw [h, Bool.true_and]
        refine ih (i + 1) (by omega) _ ?_ (by simp; omega)
        unfold rest at h
        rw [Bool.and_eq_true, decide_eq_true_eq] at h
        exact h.2
      · rw [List.drop_zero] at h
        rw [h, Bool.false_and]
    · rw [decide_eq_false hlen, Bool.false_and, Bool.false_and]
      refine Ev.step (f := fun _ => some false) (fun k => ?_) (Ev.now _)
      simp only [spec_StoreOk.l0, ei]
      rw [if_pos (by omega), if_pos (by omega), if_pos (by omega)]
theorem spec_st_ev (a : Int) (l : List (List S30)) : Ev (fun k => spec_StoreOk.f k a l) (stOk a l) := by
  have dead : Ev (fun k => spec_StoreOk.j0 k true a l) false := Ev.step (f := fun _ => some false) (fun k => by simp [spec_StoreOk.j0]) (Ev.now _)
  by_cases h : 1 ≤ a ∧ a ≤ 5 ∧ 1 ≤ l.length ∧ l.length ≤ 4
  · have hs := spec_lanes a l h.2.2.2 h.2.1 l.length 0 (by omega) [] List.nodup_nil (by simp)
    have live : Ev (fun k => spec_StoreOk.j0 k false a l) (stOk a l) := by
      have e : stOk a l = left a [] (l.drop 0) := by
        unfold stOk left rest bags
        rw [decide_eq_true h.1, decide_eq_true h.2.1, decide_eq_true h.2.2.1, decide_eq_true h.2.2.2]
        simp only [Bool.true_and, List.drop_zero, List.nil_append]
        rw [Bool.and_assoc]
      rw [e]
      refine Ev.step (fun k => ?_) hs
      simp only [spec_StoreOk.j0]
      rw [if_neg (by simp)]
      rfl
    refine Lt.ev (Lt.of live) fun k e => ?_
    simp only [spec_StoreOk.f, spec_l01In.f]
    rw [if_pos (by omega), decide_eq_true h.2.1, if_pos (show (l.length : Int) ≥ 1 by omega), decide_eq_true (show (l.length : Int) ≤ 4 by omega)]
    simpa using e
  · have e : stOk a l = false := by
      cases he : stOk a l with
      | false => rfl
      | true =>
        exfalso
        apply h
        simp only [stOk, Bool.and_eq_true, decide_eq_true_eq] at he
        exact ⟨he.1.1.1.1.1.1, he.1.1.1.1.1.2, he.1.1.1.1.2, he.1.1.1.2⟩
    rw [e]
    refine Lt.ev (Lt.of dead) fun k e => ?_
    simp only [spec_StoreOk.f, spec_l01In.f]
    by_cases h1 : a ≥ 1
    · rw [if_pos h1]
      by_cases h2 : a ≤ 5
      · rw [decide_eq_true h2]
        by_cases h3 : (l.length : Int) ≥ 1
        · rw [if_pos h3]
          by_cases h4 : (l.length : Int) ≤ 4
          · exact absurd ⟨h1, h2, by omega, by omega⟩ h
          · rw [decide_eq_false h4]
            simpa using e
        · rw [if_neg h3]
          simpa using e
      · rw [decide_eq_false h2]
        simpa using e
    · rw [if_neg h1]
      simpa using e
theorem bags_l1 (l : List (List S30)) (m : List S30) (hm : m.length ≤ 1048576) (i : Int) (r : List Int) : ∀ (d j : Nat), j + d = m.length → ∀ acc : List Int, acc.length + d ≤ 4194304 →
    Ev (fun k => impl_bagsIn.l0 k (acc ++ (m.drop j).map (·.f0)) l (l.length : Int) (wrap64 (i + 1))) r → Ev (fun k => impl_bagsIn.l1 k acc l (l.length : Int) i m (m.length : Int) (j : Int)) r := by
  intro d
  induction d with
  | zero =>
    intro j hj acc hc h
    rw [List.drop_of_length_le (by omega)] at h
    refine Ev.step (fun k => ?_) h
    simp only [impl_bagsIn.l1]
    rw [if_neg (by omega)]
    simp
  | succ d ih =>
    intro j hj acc hc h
    have hjl : j < m.length := by omega
    rw [List.drop_eq_getElem_cons hjl] at h
    refine Ev.step (fun k => ?_) (ih (j + 1) (by omega) (acc ++ [m[j].f0]) (by simp; omega) (by rw [List.append_assoc]; exact h))
    simp only [impl_bagsIn.l1]
    rw [if_pos (by omega), if_pos (by omega), if_pos (by omega), if_pos (by omega), rd30_nat m j hjl, wrap_in (x := (j : Int) + 1) (by omega) (by omega)]
    rfl
theorem bags_l0 (l : List (List S30)) (hl : l.length ≤ 1048576) (ht : l.flatten.length ≤ 1048576) : ∀ (d i : Nat), i + d = l.length → ∀ acc : List Int, acc.length + (l.drop i).flatten.length ≤ 1048576 →
    Ev (fun k => impl_bagsIn.l0 k acc l (l.length : Int) (i : Int)) (acc ++ bags (l.drop i)) := by
  intro d
  induction d with
  | zero =>
    intro i hi acc hc
    rw [List.drop_of_length_le (by omega)]
    refine Ev.step (f := fun _ => some acc) (fun k => ?_) (by simpa [bags] using Ev.now _)
    simp only [impl_bagsIn.l0]
    rw [if_neg (by omega)]
  | succ d ih =>
    intro i hi acc hc
    have hlt : i < l.length := by omega
    rw [List.drop_eq_getElem_cons hlt] at hc ⊢
    simp only [List.flatten_cons, List.length_append] at hc
    have h := ih (i + 1) (by omega) (acc ++ l[i].map (·.f0)) (by rw [List.length_append, List.length_map]; omega)
    have e : acc ++ l[i].map (·.f0) ++ bags (l.drop (i + 1)) = acc ++ bags (l[i] :: l.drop (i + 1)) := by
      unfold bags
      rw [List.flatten_cons, List.map_append, List.append_assoc]
    rw [e] at h
    refine Ev.step (fun k => ?_) (bags_l1 l l[i] (by omega) (i : Int) _ l[i].length 0 (by omega) acc (by omega) (by rw [wrap_in (x := (i : Int) + 1) (by omega) (by omega), List.drop_zero]; exact h))
    simp only [impl_bagsIn.l0]
    rw [if_pos (by omega), if_pos (by omega), if_pos (by omega), rdL2_nat l i hlt]
    rfl
theorem bags_ev (a : Int) (l : List (List S30)) (hl : l.length ≤ 1048576) (ht : l.flatten.length ≤ 1048576) : Ev (fun k => impl_bagsIn.f k a l) (bags l) :=
  Ev.congr (fun k => by simp only [impl_bagsIn.f]; rfl) (by simpa using bags_l0 l hl ht l.length 0 (by omega) [] (by simpa using ht))
theorem bad_is (x : S30) : vc_impl_StoreOk_1_any.p x = !okK x := by
  simp only [vc_impl_StoreOk_1_any.p, impl_StoreOk_1.f, impl_isTick.f, okK]
  by_cases h1 : x.f0 < 1
  · rw [if_pos h1, decide_eq_false (show ¬ 1 ≤ x.f0 by omega)]
    rfl
  · rw [if_neg h1, decide_eq_true (show 1 ≤ x.f0 by omega)]
    by_cases h2 : x.f1 ≥ 0
    · rw [if_pos h2, decide_eq_true (show 0 ≤ x.f1 from h2)]
      by_cases h3 : x.f1 ≤ 100000 <;> simp [h3]
    · rw [if_neg h2, decide_eq_false (show ¬ 0 ≤ x.f1 by omega)]
      rfl
theorem any_bad (l : List S30) : l.any vc_impl_StoreOk_1_any.p = !l.all okK := by
  induction l with
  | nil => rfl
  | cons x r ih => rw [List.any_cons, List.all_cons, ih, bad_is]; cases okK x <;> simp
theorem impl_lanes (a : Int) (l : List (List S30)) (hl : l.length ≤ 1048576) (ht : l.flatten.length ≤ 1048576) : ∀ (d i : Nat), i + d = l.length →
    Ev (fun k => impl_StoreOk.l0 k l (l.length : Int) (i : Int) a l) ((l.drop i).all (fun x => decide ((x.length : Int) ≤ a)) && (l.drop i).flatten.all okK && decide (bags l).Nodup) := by
  intro d
  induction d with
  | zero =>
    intro i hi
    rw [List.drop_of_length_le (by omega)]
    simp only [List.all_nil, List.flatten_nil, Bool.true_and]
    have hb : (bags l).length ≤ 1048576 := by unfold bags; rw [List.length_map]; exact ht
    refine Ev.round (Lt.of (bags_ev a l hl ht)) fun k e => ?_
    simp only [impl_StoreOk.l0, e, Option.bind_some, impl_areDifferent.f]
    rw [if_neg (by omega), if_pos (by omega)]
    rfl
  | succ d ih =>
    intro i hi
    have hlt : i < l.length := by omega
    rw [List.drop_eq_getElem_cons hlt, List.all_cons, List.flatten_cons, List.all_append]
    have ei : rd_L2 l (i : Int) = l[i] := rdL2_nat l i hlt
    by_cases hlen : (l[i].length : Int) ≤ a
    · cases hk : l[i].all okK with
      | true =>
        rw [decide_eq_true hlen, Bool.true_and, Bool.true_and]
        refine Ev.step (fun k => ?_) (ih (i + 1) (by omega))
        simp only [impl_StoreOk.l0, ei, vc_impl_StoreOk_1_any.f, any_bad, hk, Option.bind_some]
        rw [if_pos (by omega), if_pos (by omega), if_pos (by omega), if_neg (by omega), if_neg (by simp), wrap_in (x := (i : Int) + 1) (by omega) (by omega)]
        rfl
      | false =>
        refine Ev.step (f := fun _ => some false) (fun k => ?_) (by simpa using Ev.now _)
        simp only [impl_StoreOk.l0, ei, vc_impl_StoreOk_1_any.f, any_bad, hk, Option.bind_some]
        rw [if_pos (by omega), if_pos (by omega), if_pos (by omega), if_neg (by omega), if_pos (by simp)]
    · rw [decide_eq_false hlen]
      refine Ev.step (f := fun _ => some false) (fun k => ?_) (by simpa using Ev.now _)
      simp only [impl_StoreOk.l0, ei]
      rw [if_pos (by omega), if_pos (by omega), if_pos (by omega), if_pos (by omega)]
theorem impl_st_ev (a : Int) (l : List (List S30)) (hl : l.length ≤ 1048576) (ht : l.flatten.length ≤ 1048576) : Ev (fun k => impl_StoreOk.f k a l) (stOk a l) := by
  have dead : Ev (fun k => impl_StoreOk.j0 k true a l) false := Ev.step (f := fun _ => some false) (fun k => by simp [impl_StoreOk.j0]) (Ev.now _)
  by_cases h1 : a < 1
  · have e : stOk a l = false := by unfold stOk; rw [decide_eq_false (by omega)]; simp
    rw [e]
    refine Lt.ev (Lt.of dead) fun k e => ?_
    simp only [impl_StoreOk.f]
    rw [if_pos h1]; exact e
  by_cases h2 : a > 5
  · have e : stOk a l = false := by unfold stOk; rw [decide_eq_false (show ¬ a ≤ 5 by omega)]; simp
    rw [e]
    refine Lt.ev (Lt.of dead) fun k e => ?_
    simp only [impl_StoreOk.f]
    rw [if_neg h1, if_pos h2]; exact e
  by_cases h3 : (l.length : Int) < 1
  · have e : stOk a l = false := by unfold stOk; rw [decide_eq_false (show ¬ 1 ≤ l.length by omega)]; simp
    rw [e]
    refine Lt.ev (Lt.of dead) fun k e => ?_
    simp only [impl_StoreOk.f]
    rw [if_neg h1, if_neg h2, if_pos h3]; exact e
  by_cases h4 : (l.length : Int) > 4
  · have e : stOk a l = false := by unfold stOk; rw [decide_eq_false (show ¬ l.length ≤ 4 by omega)]; simp
    rw [e]
    refine Lt.ev (Lt.of dead) fun k e => ?_
    simp only [impl_StoreOk.f]
    rw [if_neg h1, if_neg h2, if_neg h3, decide_eq_true h4]; exact e
  have live : Ev (fun k => impl_StoreOk.j0 k false a l) (stOk a l) := by
    have e : stOk a l = ((l.drop 0).all (fun x => decide ((x.length : Int) ≤ a)) && (l.drop 0).flatten.all okK && decide (bags l).Nodup) := by
      unfold stOk
      rw [decide_eq_true (show 1 ≤ a by omega), decide_eq_true (show a ≤ 5 by omega), decide_eq_true (show 1 ≤ l.length by omega), decide_eq_true (show l.length ≤ 4 by omega)]
      simp only [Bool.true_and, List.drop_zero]
    rw [e]
    refine Ev.step (fun k => ?_) (impl_lanes a l hl ht l.length 0 (by omega))
    simp only [impl_StoreOk.j0]
    rw [if_neg (by simp)]
    rfl
  refine Lt.ev (Lt.of live) fun k e => ?_
  simp only [impl_StoreOk.f]
  rw [if_neg h1, if_neg h2, if_neg h3, decide_eq_false h4]; exact e
end Go.Proofs.Ytheckjlldkkceaa.Pu
