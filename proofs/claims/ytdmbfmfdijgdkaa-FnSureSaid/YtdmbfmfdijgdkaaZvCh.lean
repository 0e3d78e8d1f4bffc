import Derived.Test.YtdmbfmfdijgdkaaZvCw
import Derived.Test.YtdmbfmfdijgdkaaZvPx8
import Derived.Test.YtdmbfmfdijgdkaaZvPx11
import Derived.Test.YtdmbfmfdijgdkaaZvPx12
namespace Go.Proofs.Ytdmbfmfdijgdkaa.Pu
open Go.RowKit Go.Proofs.Ytdmbfmfdijgdkaa.Px Go.Proofs.YtdmbfmfdijgdkaaW.PrintWords Go.Proofs.YtdmbfmfdijgdkaaW.PrintLast Go.Proofs.YtdmbfmfdijgdkaaW.PrintMore
set_option linter.unusedVariables false
theorem fold_mx {α : Type} (f : α → Int) : ∀ (T : List α) (b : Int), b ≤ T.foldl (fun a t => mx a (f t)) b ∧ (∀ t ∈ T, f t ≤ T.foldl (fun a t => mx a (f t)) b) ∧ (T.foldl (fun a t => mx a (f t)) b = b ∨ ∃ t ∈ T, f t = T.foldl (fun a t => mx a (f t)) b)
  | [], b => ⟨Int.le_refl _, fun _ h => (by cases h), .inl rfl⟩
  | x :: T, b => by
    rw [List.foldl_cons]
    obtain ⟨h1, h2, h3⟩ := fold_mx f T (mx b (f x))
    have hm : b ≤ mx b (f x) ∧ f x ≤ mx b (f x) ∧ (mx b (f x) = b ∨ mx b (f x) = f x) := by unfold mx; split <;> omega
    refine ⟨by omega, fun t ht => ?_, ?_⟩
    · rcases List.mem_cons.1 ht with e | ht
      · subst e; omega
      · exact h2 t ht
    · rcases h3 with e | ⟨t, ht, e⟩
      · rcases hm.2.2 with e2 | e2
        · exact .inl (e.trans e2)
        · exact .inr ⟨x, List.mem_cons_self, by rw [e, e2]⟩
      · exact .inr ⟨t, List.mem_cons_of_mem _ ht, e⟩
def mostI (l : List S52) (s : List S89) : Int := (waysL l s s.length []).foldl (fun a tk => mx a (cntB s tk)) 0
theorem cntB_eq (s : List S89) (t : List Int) : cntB s t = cntR s t 0 s.length := rfl
theorem most_max (l : List S52) (s : List S89) : (∀ t ∈ waysL l s s.length [], cntB s t ≤ mostI l s) ∧ (∃ t ∈ waysL l s s.length [], cntB s t = mostI l s) ∧ 0 ≤ mostI l s := by
  obtain ⟨h1, h2, h3⟩ := fold_mx (fun tk => cntB s tk) (waysL l s s.length []) 0
  refine ⟨h2, ?_, h1⟩
  rcases h3 with e | h
  · obtain ⟨t, ht⟩ := ways_ne l s s.length []
    refine ⟨t, ht, ?_⟩
    have := h2 t ht
    have h4 := (cntR_ge s t 0 s.length).1
    rw [← cntB_eq] at h4
    unfold mostI
    omega
  · exact h
theorem most_same (l : List S52) (s : List S89) (hb : ∀ x ∈ l, 1 ≤ x.f0) : mostI l s = mw l s (-1) 0 s.length 0 [] := by
  obtain ⟨h1, ⟨t, ht, e⟩, h3⟩ := most_max l s
  obtain ⟨m1, m2, m3, m4⟩ := mw_spec l s (-1) 0 hb (fun j _ h => by omega) s.length 0 [] [] (by omega) rfl (fun b _ _ => Iff.rfl)
  have hle := m1 t ht (fun j _ _ h => by omega)
  rw [← cntB_eq, e] at hle
  rcases m2 with e2 | ⟨t2, ht2, _, e2⟩
  · omega
  · have := h1 t2 ht2
    rw [cntB_eq] at this
    omega
theorem mw_bd (l : List S52) (s : List S89) (fx av : Int) : ∀ (m i : Nat) (used : List Int), -1 ≤ mw l s fx av m i used ∧ mw l s fx av m i used ≤ m
  | 0, i, used => ⟨(by decide : (-1 : Int) ≤ 0), (by decide : (0 : Int) ≤ 0)⟩
  | m + 1, i, used => by
    obtain ⟨f1, f2, f3⟩ := fold_max (canT s fx av i used) (fun x => mw l s fx av m (i + 1) (used ++ [x.f0])) l (if (i : Int) ≠ fx ∨ av = 0 then mw l s fx av m (i + 1) used else -1)
    have eM : mw l s fx av (m + 1) i used = l.foldl (fun b x => if canT s fx av i used x = true then (if 0 ≤ mw l s fx av m (i + 1) (used ++ [x.f0]) ∧ b < mw l s fx av m (i + 1) (used ++ [x.f0]) + 1 then mw l s fx av m (i + 1) (used ++ [x.f0]) + 1 else b) else b) (if (i : Int) ≠ fx ∨ av = 0 then mw l s fx av m (i + 1) used else -1) := rfl
    rw [eM]
    have h0 := mw_bd l s fx av m (i + 1) used
    refine ⟨Int.le_trans ?_ f1, ?_⟩
    · split <;> omega
    · rcases f3 with e | ⟨x, hx, hc, h0', e⟩
      · rw [e]
        split <;> omega
      · rw [e]
        have := (mw_bd l s fx av m (i + 1) (used ++ [x.f0])).2
        omega
theorem sp_most (l : List S52) (s : List S89) (hl : l.length ≤ 6) (hs : s.length ≤ 6) (fx av : Int) : ∀ (m i : Nat) (used : List Int), i + m = s.length → used.length ≤ i → Ev (fun k => spec_l03Most.f k l s (i : Int) used fx av) (mw l s fx av m i used) := by
  intro m
  induction m with
  | zero =>
    intro i used hi hu
    refine Ev.step (f := fun _ => some 0) (fun k => ?_) (Ev.now _)
    simp only [spec_l03Most.f]
    rw [if_pos (by omega)]
  | succ m ih =>
    intro i used hi hu
    have hil : i < s.length := by omega
    have wi : wrap64 ((i : Int) + 1) = ((i + 1 : Nat) : Int) := by unfold wrap64; omega
    have L : ∀ (d q : Nat), q + d = l.length → ∀ b : Int, -1 ≤ b → b ≤ 6 → Ev (fun k => spec_l03Most.l0 k l s (i : Int) used fx av b (q : Int)) ((l.drop q).foldl (fun b x => if canT s fx av i used x = true then (if 0 ≤ mw l s fx av m (i + 1) (used ++ [x.f0]) ∧ b < mw l s fx av m (i + 1) (used ++ [x.f0]) + 1 then mw l s fx av m (i + 1) (used ++ [x.f0]) + 1 else b) else b) b) := by
      intro d
      induction d with
      | zero =>
        intro q hq b hb0 hb1
        rw [List.drop_of_length_le (by omega)]
        refine Ev.step (f := fun _ => some b) (fun k => ?_) (Ev.now _)
        simp only [spec_l03Most.l0]
        rw [if_neg (by omega)]
      | succ d ihd =>
        intro q hq b hb0 hb1
        have hql : q < l.length := by omega
        have wq : wrap64 ((q : Int) + 1) = ((q + 1 : Nat) : Int) := by unfold wrap64; omega
        have ex : l[q] = l.getD q z52 := by simp [hql]
        rw [List.drop_eq_getElem_cons hql, List.foldl_cons, ex]
        have hf := spec_fits_ev l s i q hil hql hs
        have hh := has_ev used (l.getD q z52).f0 (by omega)
        have bd := mw_bd l s fx av m (i + 1) (used ++ [(l.getD q z52).f0])
        have skip : ∀ r, Ev (fun k => spec_l03Most.l0 k l s (i : Int) used fx av b ((q + 1 : Nat) : Int)) r → Ev (fun k => spec_l03Most.j3 k l s (i : Int) used fx av b (q : Int) true) r := fun r h => Ev.step (fun k => by
          simp only [spec_l03Most.j3]
          rw [if_pos trivial, wq]) h
        cases cf : fitsB s (s.getD i z89) (l.getD q z52) with
        | false =>
          have hc : canT s fx av i used (l.getD q z52) = false := by unfold canT; rw [cf]; rfl
          rw [if_neg (by rw [hc]; simp)]
          rw [cf] at hf
          refine Ev.round ((Lt.of hf).and (Lt.of (skip _ (ihd (q + 1) (by omega) b hb0 hb1)))) fun k ⟨e1, e2⟩ => ?_
          simp only [spec_l03Most.l0, rd52_getD]
          rw [if_pos (by omega), e1]
          exact e2
        | true =>
          rw [cf] at hf
          by_cases cu : (l.getD q z52).f0 ∈ used
          · have hc : canT s fx av i used (l.getD q z52) = false := by unfold canT; rw [decide_eq_true cu]; simp
            rw [if_neg (by rw [hc]; simp)]
            rw [decide_eq_true cu] at hh
            refine Ev.round ((Lt.of hf).and ((Lt.of hh).and (Lt.of (skip _ (ihd (q + 1) (by omega) b hb0 hb1))))) fun k ⟨e1, e2, e3⟩ => ?_
            simp only [spec_l03Most.l0, rd52_getD]
            rw [if_pos (by omega), e1]
            simp only [Option.bind_some]
            rw [if_pos trivial, if_pos (by omega), e2]
            exact e3
          · rw [decide_eq_false cu] at hh
            have take : ∀ r, Ev (fun k => spec_l03Most.l0 k l s (i : Int) used fx av (if 0 ≤ mw l s fx av m (i + 1) (used ++ [(l.getD q z52).f0]) ∧ b < mw l s fx av m (i + 1) (used ++ [(l.getD q z52).f0]) + 1 then mw l s fx av m (i + 1) (used ++ [(l.getD q z52).f0]) + 1 else b) ((q + 1 : Nat) : Int)) r → Ev (fun k => spec_l03Most.j3 k l s (i : Int) used fx av b (q : Int) false) r := fun r h => by
              have hch := ih (i + 1) (used ++ [(l.getD q z52).f0]) (by omega) (by simp; omega)
              refine Ev.round ((Lt.of hch).and (Lt.of h)) fun k ⟨e1, e2⟩ => ?_
              have wt : wrap64 (mw l s fx av m (i + 1) (used ++ [(l.getD q z52).f0]) + 1) = mw l s fx av m (i + 1) (used ++ [(l.getD q z52).f0]) + 1 := by unfold wrap64; omega
              simp only [spec_l03Most.j3, Option.bind_some, List.nil_append, rd52_getD, wi, wq, List.length_nil, Nat.zero_add, List.length_singleton]
              rw [if_neg (by simp), if_pos (by omega), if_pos (by omega), if_pos (by omega), if_pos (by omega), e1]
              simp only [Option.bind_some, wt]
              by_cases c1 : 0 ≤ mw l s fx av m (i + 1) (used ++ [(l.getD q z52).f0])
              · rw [if_pos c1]
                by_cases c2 : b < mw l s fx av m (i + 1) (used ++ [(l.getD q z52).f0]) + 1
                · rw [if_pos ⟨c1, c2⟩] at e2
                  rw [if_pos c2]
                  exact e2
                · rw [if_neg (fun h => c2 h.2)] at e2
                  rw [if_neg c2]
                  exact e2
              · rw [if_neg (fun h => c1 h.1)] at e2
                rw [if_neg c1]
                exact e2
            by_cases ci : (i : Int) = fx
            · by_cases ca : av = (l.getD q z52).f0
              · have hc : canT s fx av i used (l.getD q z52) = true := by unfold canT; rw [cf, decide_eq_false cu]; simp [ca]
                rw [if_pos hc]
                refine Ev.round ((Lt.of hf).and ((Lt.of hh).and (Lt.of (take _ (ihd (q + 1) (by omega) _ (by split <;> omega) (by split <;> omega)))))) fun k ⟨e1, e2, e3⟩ => ?_
                simp only [spec_l03Most.l0, rd52_getD]
                rw [if_pos (by omega), e1]
                simp only [Option.bind_some]
                rw [if_pos trivial, if_pos (by omega), e2]
                simp only [Option.bind_some]
                rw [if_neg (by simp), if_pos ci, show (av != (l.getD q z52).f0) = false by simpa using ca]
                exact e3
              · have hc : canT s fx av i used (l.getD q z52) = false := by unfold canT; rw [decide_eq_true ci, decide_eq_true ca]; simp
                rw [if_neg (by rw [hc]; simp)]
                refine Ev.round ((Lt.of hf).and ((Lt.of hh).and (Lt.of (skip _ (ihd (q + 1) (by omega) b hb0 hb1))))) fun k ⟨e1, e2, e3⟩ => ?_
                simp only [spec_l03Most.l0, rd52_getD]
                rw [if_pos (by omega), e1]
                simp only [Option.bind_some]
                rw [if_pos trivial, if_pos (by omega), e2]
                simp only [Option.bind_some]
                rw [if_neg (by simp), if_pos ci, show (av != (l.getD q z52).f0) = true by simpa using ca]
                exact e3
            · have hc : canT s fx av i used (l.getD q z52) = true := by unfold canT; rw [cf, decide_eq_false cu, decide_eq_false ci]; rfl
              rw [if_pos hc]
              refine Ev.round ((Lt.of hf).and ((Lt.of hh).and (Lt.of (take _ (ihd (q + 1) (by omega) _ (by split <;> omega) (by split <;> omega)))))) fun k ⟨e1, e2, e3⟩ => ?_
              simp only [spec_l03Most.l0, rd52_getD]
              rw [if_pos (by omega), e1]
              simp only [Option.bind_some]
              rw [if_pos trivial, if_pos (by omega), e2]
              simp only [Option.bind_some]
              rw [if_neg (by simp), if_neg ci]
              exact e3
    have L0 : ∀ b : Int, -1 ≤ b → b ≤ 6 → Ev (fun k => spec_l03Most.j1 k l s (i : Int) used fx av b) (l.foldl (fun b x => if canT s fx av i used x = true then (if 0 ≤ mw l s fx av m (i + 1) (used ++ [x.f0]) ∧ b < mw l s fx av m (i + 1) (used ++ [x.f0]) + 1 then mw l s fx av m (i + 1) (used ++ [x.f0]) + 1 else b) else b) b) := fun b hb0 hb1 => by
      have := L l.length 0 (by omega) b hb0 hb1
      rw [List.drop_zero] at this
      exact Ev.step (fun k => by simp only [spec_l03Most.j1]; rfl) this
    have bd0 := mw_bd l s fx av m (i + 1) used
    have eM : mw l s fx av (m + 1) i used = l.foldl (fun b x => if canT s fx av i used x = true then (if 0 ≤ mw l s fx av m (i + 1) (used ++ [x.f0]) ∧ b < mw l s fx av m (i + 1) (used ++ [x.f0]) + 1 then mw l s fx av m (i + 1) (used ++ [x.f0]) + 1 else b) else b) (if (i : Int) ≠ fx ∨ av = 0 then mw l s fx av m (i + 1) used else -1) := rfl
    rw [eM]
    have J : ∀ c : Bool, (c = true ↔ ((i : Int) ≠ fx ∨ av = 0)) → Ev (fun k => spec_l03Most.j0 k l s (i : Int) used fx av (-1) c) (l.foldl (fun b x => if canT s fx av i used x = true then (if 0 ≤ mw l s fx av m (i + 1) (used ++ [x.f0]) ∧ b < mw l s fx av m (i + 1) (used ++ [x.f0]) + 1 then mw l s fx av m (i + 1) (used ++ [x.f0]) + 1 else b) else b) (if (i : Int) ≠ fx ∨ av = 0 then mw l s fx av m (i + 1) used else -1)) := by
      intro c hc
      cases c with
      | true =>
        rw [if_pos (hc.1 rfl)]
        refine Ev.round ((Lt.of (ih (i + 1) used (by omega) (by omega))).and (Lt.of (L0 _ bd0.1 (by omega)))) fun k ⟨e1, e2⟩ => ?_
        simp only [spec_l03Most.j0, wi]
        rw [if_pos trivial, e1]
        exact e2
      | false =>
        rw [if_neg (fun h => by have := hc.2 h; cases this)]
        refine Ev.round (Lt.of (L0 (-1) (by omega) (by omega))) fun k e2 => ?_
        simp only [spec_l03Most.j0]
        rw [if_neg (by simp)]
        exact e2
    by_cases ci : (i : Int) = fx
    · refine Ev.round (Lt.of (J (av == 0) (by rw [beq_iff_eq]; exact ⟨Or.inr, fun h => h.elim (fun h => absurd ci h) id⟩))) fun k e => ?_
      simp only [spec_l03Most.f]
      rw [if_neg (by omega), if_pos ci]
      exact e
    · refine Ev.round (Lt.of (J true ⟨fun _ => .inl ci, fun _ => rfl⟩)) fun k e => ?_
      simp only [spec_l03Most.f]
      rw [if_neg (by omega), if_neg ci]
      exact e
end Go.Proofs.Ytdmbfmfdijgdkaa.Pu
