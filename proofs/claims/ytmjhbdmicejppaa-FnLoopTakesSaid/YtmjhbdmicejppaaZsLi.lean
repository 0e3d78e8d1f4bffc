import Derived.Test.YtmjhbdmicejppaaZsLo
namespace Go.Proofs.Ytmjhbdmicejppaa.Pu
open Go.RowKit Go.Proofs.Ytmjhbdmicejppaa.Px Go.Proofs.YtmjhbdmicejppaaW.PrintWords Go.Proofs.YtmjhbdmicejppaaW.PrintLast
set_option linter.unusedVariables false
theorem impl_ix_l (l : List Int) (m : Nat) (hl : l.length ≤ 1048576) : ∀ (d j : Nat), j + d = l.length → Ev (fun k => impl_areIndexes.l0 k l (m : Int) l (l.length : Int) (j : Int)) (allF (ixAt m l) j d) := by
  intro d
  induction d with
  | zero =>
    intro j hj
    refine Ev.step (f := fun _ => some true) (fun k => ?_) (Ev.now _)
    simp only [impl_areIndexes.l0]
    rw [if_neg (by omega)]
  | succ d ih =>
    intro j hj
    have h := ih (j + 1) (by omega)
    have bad : Ev (fun k => impl_areIndexes.j1 k l (m : Int) l (l.length : Int) (j : Int) true) false := Ev.step (f := fun _ => some false) (fun k => by simp [impl_areIndexes.j1]) (Ev.now _)
    have good : Ev (fun k => impl_areIndexes.j1 k l (m : Int) l (l.length : Int) (j : Int) false) (allF (ixAt m l) (j + 1) d) := by
      refine Ev.step (fun k => ?_) h
      simp only [impl_areIndexes.j1]
      rw [if_neg (by simp), wrap_in (x := (j : Int) + 1) (by omega) (by omega)]
      rfl
    simp only [allF]
    by_cases c1 : l.getD j 0 < 0
    · have e : ixAt m l j = false := by unfold ixAt; rw [decide_eq_false (show ¬ 0 ≤ l.getD j 0 by omega)]; rfl
      rw [e, Bool.false_and]
      refine Ev.step (fun k => ?_) bad
      simp only [impl_areIndexes.l0, rdI]
      rw [if_pos (by omega), if_pos (by omega), if_pos (by omega), if_pos c1]
    · by_cases c2 : l.getD j 0 ≥ (m : Int)
      · have e : ixAt m l j = false := by unfold ixAt; rw [decide_eq_false (show ¬ l.getD j 0 ≤ (m : Int) - 1 by omega)]; simp
        rw [e, Bool.false_and]
        refine Ev.step (fun k => ?_) bad
        simp only [impl_areIndexes.l0, rdI]
        rw [if_pos (by omega), if_pos (by omega), if_pos (by omega), if_neg c1, if_pos c2]
      · by_cases j0 : j = 0
        · have e : ixAt m l j = true := by unfold ixAt; rw [decide_eq_true (show 0 ≤ l.getD j 0 by omega), decide_eq_true (show l.getD j 0 ≤ (m : Int) - 1 by omega), decide_eq_true j0]; rfl
          rw [e, Bool.true_and]
          refine Ev.step (fun k => ?_) good
          simp only [impl_areIndexes.l0, rdI]
          rw [if_pos (by omega), if_pos (by omega), if_pos (by omega), if_neg c1, if_neg c2, if_neg (by omega)]
        · by_cases c3 : l.getD (j - 1) 0 < l.getD j 0
          · have e : ixAt m l j = true := by unfold ixAt; rw [decide_eq_true (show 0 ≤ l.getD j 0 by omega), decide_eq_true (show l.getD j 0 ≤ (m : Int) - 1 by omega), decide_eq_true c3]; simp
            rw [e, Bool.true_and]
            refine Ev.step (fun k => ?_) good
            simp only [impl_areIndexes.l0]
            rw [if_pos (by omega), if_pos (by omega), if_pos (by omega), rdI, if_neg c1, if_neg c2, if_pos (by omega), wrap_in (x := (j : Int) - 1) (by omega) (by omega), if_pos (by omega), if_pos (by omega), rd_prev _ _ j0, decide_eq_false (by omega)]
          · have e : ixAt m l j = false := by unfold ixAt; rw [decide_eq_false c3, decide_eq_false j0]; simp
            rw [e, Bool.false_and]
            refine Ev.step (fun k => ?_) bad
            simp only [impl_areIndexes.l0]
            rw [if_pos (by omega), if_pos (by omega), if_pos (by omega), rdI, if_neg c1, if_neg c2, if_pos (by omega), wrap_in (x := (j : Int) - 1) (by omega) (by omega), if_pos (by omega), if_pos (by omega), rd_prev _ _ j0, decide_eq_true (by omega)]
theorem impl_ix_ev (l : List Int) (m : Nat) (hl : l.length ≤ 1048576) : Ev (fun k => impl_areIndexes.f k l (m : Int)) (ixOk m l) :=
  Ev.congr (fun k => by simp only [impl_areIndexes.f]; rfl) (impl_ix_l l m hl l.length 0 (by omega))
theorem bagsOf_l (c : List S69) (hc : c.length ≤ 1048576) (hb : (c.flatMap (fun x => x.f2)).length ≤ 1048576) : ∀ (d i : Nat), i + d = c.length → ∀ acc : List Int, acc.length + ((c.drop i).flatMap (fun x => x.f2)).length ≤ 4194304 →
    Ev (fun k => impl_bagsOf.l0 k acc c (c.length : Int) (i : Int)) (acc ++ (c.drop i).flatMap (fun x => x.f2)) := by
  intro d
  induction d with
  | zero =>
    intro i hi acc ha
    rw [List.drop_of_length_le (by omega)]
    refine Ev.step (f := fun _ => some acc) (fun k => ?_) (by simpa using Ev.now _)
    simp only [impl_bagsOf.l0]
    rw [if_neg (by omega)]
  | succ d ih =>
    intro i hi acc ha
    have hlt : i < c.length := by omega
    rw [List.drop_eq_getElem_cons hlt, List.flatMap_cons] at ha ⊢
    rw [List.length_append] at ha
    have h := ih (i + 1) (by omega) (acc ++ c[i].f2) (by rw [List.length_append]; omega)
    rw [List.append_assoc] at h
    refine Ev.step (fun k => ?_) h
    simp only [impl_bagsOf.l0]
    rw [if_pos (by omega), if_pos (by omega), if_pos (by omega), rd69_nat c i hlt, if_pos (by omega), wrap_in (x := (i : Int) + 1) (by omega) (by omega)]
    rfl
theorem bagsOf_ev (t : List Int) (a : Int) (c : List S69) (w : List S74) (ht : t.length ≤ 1048576) (hc : c.length ≤ 1048576) (hb : (c.flatMap (fun x => x.f2)).length ≤ 1048576) : Ev (fun k => impl_bagsOf.f k t a c w) (bagsL t c) := by
  have hfl : (t.filter (fun x => !decide (x = 0))).length ≤ t.length := List.length_filter_le _ _
  have h := bagsOf_l c hc hb c.length 0 (by omega) (t.filter (fun x => !decide (x = 0))) (by rw [List.drop_zero]; omega)
  rw [List.drop_zero] at h
  refine Lt.ev (Lt.of h) fun k e => ?_
  have ef : (fun z_ => !vc_impl_bagsOf_1_del.p z_) = (fun x : Int => !decide (x = 0)) := by
    funext z
    simp only [vc_impl_bagsOf_1_del.p, impl_bagsOf_1.f, Option.getD_some]
    by_cases h : z = 0 <;> simp [h]
  simp only [impl_bagsOf.f, slices_Clone_int_int.f]
  rw [if_pos (by omega)]
  simp only [Option.bind_some]
  rw [ef]
  exact e
theorem diff_ev (l : List Int) (hl : l.length ≤ 4194304) : impl_areDifferent.f l = some (decide l.Nodup) := by
  unfold impl_areDifferent.f
  rw [if_pos (by omega)]
theorem any_bad (l : List Int) : l.any vc_impl_LoopOk_1_any.p = !l.all (fun x => decide (1 ≤ x)) := by
  induction l with
  | nil => rfl
  | cons x r ih =>
    rw [List.any_cons, List.all_cons, ih]
    have : vc_impl_LoopOk_1_any.p x = !decide (1 ≤ x) := by
      simp only [vc_impl_LoopOk_1_any.p, impl_LoopOk_1.f, Option.getD_some]
      by_cases h : x < 1
      · rw [decide_eq_true h, decide_eq_false (by omega)]; rfl
      · rw [decide_eq_false h, decide_eq_true (by omega)]; rfl
    rw [this]
    cases decide (1 ≤ x) <;> simp
def waOk (m : Int) (x : S74) : Bool := decide (1 ≤ x.f0) && ixOk m x.f1
theorem impl_l1 (t : List Int) (a : Int) (c : List S69) (w : List S74) (ht : t.length ≤ 1048576) (hc : c.length ≤ 8) (hb : t.length + (c.flatMap (fun x => x.f2)).length ≤ 1048576) (hw : w.length ≤ 60) (hwb : ∀ x ∈ w, x.f1.length ≤ 1048576) : ∀ (d i : Nat), i + d = w.length →
    Ev (fun k => impl_LoopOk.l1 k (c.map (·.f0)) ((w.take i).map (·.f0)) w (w.length : Int) (i : Int) t a c w)
      ((w.drop i).all (waOk c.length) && ((bagsL t c).all (fun x => decide (1 ≤ x)) && (decide (bagsL t c).Nodup && (decide (c.map (·.f0)).Nodup && decide (w.map (·.f0)).Nodup)))) := by
  intro d
  induction d with
  | zero =>
    intro i hi
    rw [List.drop_of_length_le (by omega), List.take_of_length_le (by omega)]
    simp only [List.all_nil, Bool.true_and]
    have hfl : (t.filter (fun x => !decide (x = 0))).length ≤ t.length := List.length_filter_le _ _
    have hbl : (bagsL t c).length ≤ 4194304 := by unfold bagsL; rw [List.length_append]; omega
    refine Ev.round (Lt.of (bagsOf_ev t a c w ht (by omega) (by omega))) fun k e => ?_
    simp only [impl_LoopOk.l1, e, Option.bind_some, vc_impl_LoopOk_1_any.f, any_bad]
    rw [if_neg (by omega), diff_ev _ hbl, diff_ev (c.map (·.f0)) (by rw [List.length_map]; omega), diff_ev (w.map (·.f0)) (by rw [List.length_map]; omega)]
    simp only [Option.bind_some]
    cases (bagsL t c).all (fun x => decide (1 ≤ x)) with
    | false => simp
    | true =>
      cases decide (bagsL t c).Nodup with
      | false => simp
      | true => cases decide (c.map (·.f0)).Nodup <;> simp
  | succ d ih =>
    intro i hi
    have hlt : i < w.length := by omega
    have h := ih (i + 1) (by omega)
    rw [List.take_succ_eq_append_getElem hlt, List.map_append] at h
    rw [List.drop_eq_getElem_cons hlt, List.all_cons]
    have hix := impl_ix_ev w[i].f1 c.length (hwb _ (List.getElem_mem hlt))
    by_cases c1 : w[i].f0 < 1
    · have e : waOk c.length w[i] = false := by unfold waOk; rw [decide_eq_false (by omega)]; rfl
      rw [e, Bool.false_and, Bool.false_and]
      refine Ev.step (f := fun _ => some false) (fun k => ?_) (Ev.now _)
      simp only [impl_LoopOk.l1]
      rw [if_pos (by omega), if_pos (by omega), if_pos (by omega), rd74_nat w i hlt, if_pos c1]
    · have e : waOk c.length w[i] = ixOk c.length w[i].f1 := by unfold waOk; rw [decide_eq_true (by omega), Bool.true_and]
      rw [e]
      cases hq : ixOk c.length w[i].f1 with
      | false =>
        rw [Bool.false_and, Bool.false_and]
        refine Ev.round (Lt.of hix) fun k e1 => ?_
        simp only [impl_LoopOk.l1]
        rw [if_pos (by omega), if_pos (by omega), if_pos (by omega), rd74_nat w i hlt, if_neg c1, e1, hq]
        rfl
      | true =>
        rw [Bool.true_and]
        refine Ev.round ((Lt.of hix).and (Lt.of h)) fun k ⟨e1, e2⟩ => ?_
        simp only [impl_LoopOk.l1]
        rw [if_pos (by omega), if_pos (by omega), if_pos (by omega), rd74_nat w i hlt, if_neg c1, e1, hq]
        simp only [Option.bind_some]
        rw [if_pos trivial, if_pos (by rw [List.length_map, List.length_take]; omega), wrap_in (x := (i : Int) + 1) (by omega) (by omega)]
        exact e2
theorem impl_l0 (n : Nat) (hn : n ≤ 60) (t : List Int) (a : Int) (c : List S69) (w : List S74) (hc : c.length ≤ 8) (r : Bool) (hk : Ev (fun k => impl_LoopOk.l1 k (c.map (·.f0)) [] w (w.length : Int) 0 t a c w) r) : ∀ (d i : Nat), i + d = c.length →
    Ev (fun k => impl_LoopOk.l0 k (n : Int) ((c.take i).map (·.f0)) c (c.length : Int) (i : Int) t a c w) ((c.drop i).all (chOk n) && r) := by
  intro d
  induction d with
  | zero =>
    intro i hi
    rw [List.drop_of_length_le (by omega), List.take_of_length_le (by omega)]
    simp only [List.all_nil, Bool.true_and]
    refine Ev.step (fun k => ?_) hk
    simp only [impl_LoopOk.l0]
    rw [if_neg (by omega)]
  | succ d ih =>
    intro i hi
    have hlt : i < c.length := by omega
    have h := ih (i + 1) (by omega)
    rw [List.take_succ_eq_append_getElem hlt, List.map_append] at h
    rw [List.drop_eq_getElem_cons hlt, List.all_cons]
    generalize hx : c[i] = x at h ⊢
    have er : rd_T69 c (i : Int) = x := by rw [rd69_nat c i hlt, hx]
    have bad : Ev (fun k => impl_LoopOk.j2 k (n : Int) ((c.take i).map (·.f0)) c (c.length : Int) (i : Int) true t a c w x.f0 x.f1 x.f2) false := Ev.step (f := fun _ => some false) (fun k => by simp [impl_LoopOk.j2]) (Ev.now _)
    have good : Ev (fun k => impl_LoopOk.j2 k (n : Int) ((c.take i).map (·.f0)) c (c.length : Int) (i : Int) false t a c w x.f0 x.f1 x.f2) ((c.drop (i + 1)).all (chOk n) && r) := by
      refine Ev.step (fun k => ?_) h
      simp only [impl_LoopOk.j2]
      rw [if_neg (by simp), if_pos (by rw [List.length_map, List.length_take]; omega), wrap_in (x := (i : Int) + 1) (by omega) (by omega)]
      rfl
    by_cases c1 : x.f0 < 0
    · have e : chOk n x = false := by unfold chOk; rw [decide_eq_false (show ¬ 0 ≤ x.f0 by omega)]; rfl
      rw [e, Bool.false_and, Bool.false_and]
      refine Ev.step (fun k => ?_) bad
      simp only [impl_LoopOk.l0, er]
      rw [if_pos (by omega), if_pos (by omega), if_pos (by omega), if_pos c1]
    · by_cases c2 : x.f0 ≥ (n : Int)
      · have e : chOk n x = false := by unfold chOk; rw [decide_eq_false (show ¬ x.f0 ≤ (n : Int) - 1 by omega)]; simp
        rw [e, Bool.false_and, Bool.false_and]
        refine Ev.step (fun k => ?_) bad
        simp only [impl_LoopOk.l0, er]
        rw [if_pos (by omega), if_pos (by omega), if_pos (by omega), if_neg c1, if_pos c2]
      · by_cases c3 : x.f1 < 0
        · have e : chOk n x = false := by unfold chOk; rw [decide_eq_false (show ¬ 0 ≤ x.f1 by omega)]; simp
          rw [e, Bool.false_and, Bool.false_and]
          refine Ev.step (fun k => ?_) bad
          simp only [impl_LoopOk.l0, er]
          rw [if_pos (by omega), if_pos (by omega), if_pos (by omega), if_neg c1, if_neg c2, if_pos c3]
        · by_cases c4 : x.f1 > 40
          · have e : chOk n x = false := by unfold chOk; rw [decide_eq_false (show ¬ x.f1 ≤ 40 by omega)]; simp
            rw [e, Bool.false_and, Bool.false_and]
            refine Ev.step (fun k => ?_) bad
            simp only [impl_LoopOk.l0, er]
            rw [if_pos (by omega), if_pos (by omega), if_pos (by omega), if_neg c1, if_neg c2, if_neg c3, if_pos c4]
          · by_cases c5 : (x.f2.length : Int) > x.f1
            · have e : chOk n x = false := by unfold chOk; rw [decide_eq_false (show ¬ (x.f2.length : Int) ≤ x.f1 by omega)]; simp
              rw [e, Bool.false_and, Bool.false_and]
              refine Ev.step (fun k => ?_) bad
              simp only [impl_LoopOk.l0, er]
              rw [if_pos (by omega), if_pos (by omega), if_pos (by omega), if_neg c1, if_neg c2, if_neg c3, if_neg c4, decide_eq_true c5]
            · have e : chOk n x = true := by
                unfold chOk
                rw [decide_eq_true (show 0 ≤ x.f0 by omega), decide_eq_true (show x.f0 ≤ (n : Int) - 1 by omega), decide_eq_true (show 0 ≤ x.f1 by omega), decide_eq_true (show x.f1 ≤ 40 by omega), decide_eq_true (show (x.f2.length : Int) ≤ x.f1 by omega)]
                rfl
              rw [e, Bool.true_and]
              refine Ev.step (fun k => ?_) good
              simp only [impl_LoopOk.l0, er]
              rw [if_pos (by omega), if_pos (by omega), if_pos (by omega), if_neg c1, if_neg c2, if_neg c3, if_neg c4, decide_eq_false c5]
theorem allF_all {α : Type} (l : List α) (z : α) (p : α → Bool) : ∀ (d i : Nat), i + d = l.length → allF (fun j => p (l.getD j z)) i d = (l.drop i).all p
  | 0, i, hi => by rw [List.drop_of_length_le (by omega)]; rfl
  | d + 1, i, hi => by
    have hlt : i < l.length := by omega
    have e : l.getD i z = l[i] := by simp [hlt]
    rw [List.drop_eq_getElem_cons hlt, List.all_cons]
    simp only [allF, e, allF_all l z p d (i + 1) (by omega)]
theorem ch_eq (n : Nat) (c : List S69) : allF (chF n c) 0 c.length = (c.all (chOk n) && decide (c.map (·.f0)).Nodup) := by
  unfold chF
  rw [allF_and (fun j => chOk n (c.getD j z69)) (fun j => !decide ((c.map (·.f0)).getD j 0 ∈ (c.map (·.f0)).take j)), allF_all c z69 (chOk n) c.length 0 (by omega), List.drop_zero]
  have := nodupF (c.map (·.f0)) c.length 0 (by simp) (by simp)
  rw [this]
theorem bg_eq (b : List Int) : allF (bgF b) 0 b.length = (b.all (fun x => decide (1 ≤ x)) && decide b.Nodup) := by
  unfold bgF
  rw [allF_and (fun j => decide (1 ≤ b.getD j 0)) (fun j => !decide (b.getD j 0 ∈ b.take j)), allF_all b 0 (fun x => decide (1 ≤ x)) b.length 0 (by omega), List.drop_zero, nodupF b b.length 0 (by omega) (by simp)]
theorem wa_eq (m : Nat) (w : List S74) : allF (waF m w) 0 w.length = (w.all (waOk m) && decide (w.map (·.f0)).Nodup) := by
  have e : waF m w = fun j => waOk m (w.getD j z74) && !decide ((w.map (·.f0)).getD j 0 ∈ (w.map (·.f0)).take j) := by
    funext j
    unfold waF waOk
    cases decide (1 ≤ (w.getD j z74).f0) <;> cases ixOk m (w.getD j z74).f1 <;> simp
  rw [e, allF_and (fun j => waOk m (w.getD j z74)) (fun j => !decide ((w.map (·.f0)).getD j 0 ∈ (w.map (·.f0)).take j)), allF_all w z74 (waOk m) w.length 0 (by omega), List.drop_zero]
  have := nodupF (w.map (·.f0)) w.length 0 (by simp) (by simp)
  rw [this]
theorem impl_lp_ev (t : List Int) (a : Int) (c : List S69) (w : List S74) (ht : t.length ≤ 1048576) (hf : t.length + (c.flatMap (fun x => x.f2)).length ≤ 1048576) (hwb : ∀ x ∈ w, x.f1.length ≤ 1048576) : Ev (fun k => impl_LoopOk.f k t a c w) (lpOk t a c w) := by
  have dead : Ev (fun k => impl_LoopOk.j0 k (t.length : Int) true t a c w) false := Ev.step (f := fun _ => some false) (fun k => by simp [impl_LoopOk.j0]) (Ev.now _)
  have no : szOk t a c w = false → lpOk t a c w = false := fun h => by unfold lpOk; rw [h]; rfl
  by_cases c1 : (t.length : Int) < 2
  · rw [no (by unfold szOk; rw [decide_eq_false (show ¬ 2 ≤ t.length by omega)]; rfl)]
    refine Lt.ev (Lt.of dead) fun k e => ?_
    simp only [impl_LoopOk.f]
    rw [if_pos c1]; exact e
  by_cases c2 : (t.length : Int) > 60
  · rw [no (by unfold szOk; rw [decide_eq_false (show ¬ t.length ≤ 60 by omega)]; simp)]
    refine Lt.ev (Lt.of dead) fun k e => ?_
    simp only [impl_LoopOk.f]
    rw [if_neg c1, if_pos c2]; exact e
  by_cases c3 : a < 0
  · rw [no (by unfold szOk; rw [decide_eq_false (show ¬ 0 ≤ a by omega)]; simp)]
    refine Lt.ev (Lt.of dead) fun k e => ?_
    simp only [impl_LoopOk.f]
    rw [if_neg c1, if_neg c2, if_pos c3]; exact e
  by_cases c4 : a ≥ (t.length : Int)
  · rw [no (by unfold szOk; rw [decide_eq_false (show ¬ a ≤ (t.length : Int) - 1 by omega)]; simp)]
    refine Lt.ev (Lt.of dead) fun k e => ?_
    simp only [impl_LoopOk.f]
    rw [if_neg c1, if_neg c2, if_neg c3, if_pos c4]; exact e
  by_cases c5 : (c.length : Int) > 8
  · rw [no (by unfold szOk; rw [decide_eq_false (show ¬ c.length ≤ 8 by omega)]; simp)]
    refine Lt.ev (Lt.of dead) fun k e => ?_
    simp only [impl_LoopOk.f]
    rw [if_neg c1, if_neg c2, if_neg c3, if_neg c4, if_pos c5]; exact e
  by_cases c6 : (w.length : Int) > 60
  · rw [no (by unfold szOk; rw [decide_eq_false (show ¬ w.length ≤ 60 by omega)]; simp)]
    refine Lt.ev (Lt.of dead) fun k e => ?_
    simp only [impl_LoopOk.f]
    rw [if_neg c1, if_neg c2, if_neg c3, if_neg c4, if_neg c5, decide_eq_true c6]; exact e
  have s1 := impl_l1 t a c w ht (by omega) hf (by omega) hwb w.length 0 (by omega)
  have s0 := impl_l0 t.length (by omega) t a c w (by omega) _ s1 c.length 0 (by omega)
  have e : lpOk t a c w = ((c.drop 0).all (chOk t.length) && ((w.drop 0).all (waOk c.length) && ((bagsL t c).all (fun x => decide (1 ≤ x)) && (decide (bagsL t c).Nodup && (decide (c.map (·.f0)).Nodup && decide (w.map (·.f0)).Nodup))))) := by
    unfold lpOk szOk
    rw [ch_eq, bg_eq, wa_eq, decide_eq_true (show 2 ≤ t.length by omega), decide_eq_true (show t.length ≤ 60 by omega), decide_eq_true (show 0 ≤ a by omega), decide_eq_true (show a ≤ (t.length : Int) - 1 by omega), decide_eq_true (show c.length ≤ 8 by omega), decide_eq_true (show w.length ≤ 60 by omega), List.drop_zero, List.drop_zero]
    cases c.all (chOk t.length) <;> cases w.all (waOk c.length) <;> cases (bagsL t c).all (fun x => decide (1 ≤ x)) <;> cases decide (bagsL t c).Nodup <;> cases decide (c.map (·.f0)).Nodup <;> cases decide (w.map (·.f0)).Nodup <;> rfl
  rw [e]
  have live : Ev (fun k => impl_LoopOk.j0 k (t.length : Int) false t a c w) _ := Ev.step (fun k => by simp only [impl_LoopOk.j0]; rw [if_neg (by simp)]; rfl) s0
  refine Lt.ev (Lt.of live) fun k e1 => ?_
  simp only [impl_LoopOk.f]
  rw [if_neg c1, if_neg c2, if_neg c3, if_neg c4, if_neg c5, decide_eq_false c6]
  exact e1
end Go.Proofs.Ytmjhbdmicejppaa.Pu
