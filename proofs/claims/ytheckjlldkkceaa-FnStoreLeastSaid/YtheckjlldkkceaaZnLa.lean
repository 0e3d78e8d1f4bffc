import Derived.Test.YtheckjlldkkceaaZnBu
import Derived.Test.YtheckjlldkkceaaZnPx6
import Derived.Test.YtheckjlldkkceaaZnPx7
import Derived.Test.YtheckjlldkkceaaZnPx11
import Derived.Test.YtheckjlldkkceaaZnPx0
import Derived.Test.YtheckjlldkkceaaZnPx3
namespace Go.Proofs.Ytheckjlldkkceaa.Pu
open Go.RowKit Go.Proofs.Ytheckjlldkkceaa.Px Go.Proofs.YtheckjlldkkceaaW.PrintWords Go.Proofs.YtheckjlldkkceaaW.PrintLast Go.Proofs.YtheckjlldkkceaaW.PrintMore
set_option linter.unusedVariables false
theorem lt_l (m : List S30) (hm : m.length ≤ 1048576) : ∀ (d i : Nat), i + d = m.length → ∀ c : Int, Ev (fun k => impl_leastTime.l0 k c m (m.length : Int) (i : Int)) (lst c (m.drop i)) := by
  intro d
  induction d with
  | zero =>
    intro i hi c
    rw [List.drop_of_length_le (by omega)]
    refine Ev.step (f := fun _ => some c) (fun k => ?_) (Ev.now _)
    simp only [impl_leastTime.l0]
    rw [if_neg (by omega)]
  | succ d ih =>
    intro i hi c
    have hlt : i < m.length := by omega
    have h := ih (i + 1) (by omega) (mn c m[i].f1)
    rw [List.drop_eq_getElem_cons hlt]
    unfold lst at h ⊢
    rw [List.foldl_cons]
    refine Ev.step (fun k => ?_) h
    simp only [impl_leastTime.l0]
    rw [if_pos (by omega), if_pos (by omega), if_pos (by omega), rd30_nat m i hlt, wrap_in (x := (i : Int) + 1) (by omega) (by omega)]
    rfl
theorem lt_ev (m : List S30) (hm : m.length ≤ 1048576) : Ev (fun k => impl_leastTime.f k m) (lst 100000 m) :=
  Ev.congr (fun k => by simp only [impl_leastTime.f]; rfl) (by simpa using lt_l m hm m.length 0 (by omega) 100000)
theorem lst_same (m : List S30) (hk : ∀ y ∈ m, okK y = true) (hn : m ≠ []) : lst 100000 m = lst 100001 m := by
  cases m with
  | nil => exact absurd rfl hn
  | cons x r =>
    have hx := hk x (by simp)
    simp only [okK, Bool.and_eq_true, decide_eq_true_eq] at hx
    unfold lst
    rw [List.foldl_cons, List.foldl_cons]
    have e : mn 100000 x.f1 = mn 100001 x.f1 := by unfold mn; split <;> split <;> omega
    rw [e]
def fin3 (o e g : Int) : Int := if o ≥ 0 then o else if e ≥ 0 then e else g
def laS (F : Int → Int) (N : Nat → Int) (a time but : Int) : Nat → Nat → Int → Int → Int → Int
  | 0, _, o, e, g => fin3 o e g
  | d + 1, i, o, e, g =>
    if (i : Int) = but ∨ N i ≥ a then laS F N a time but d (i + 1) o e g
    else if N i = 0 then laS F N a time but d (i + 1) o (if e < 0 then i else e) g
    else laS F N a time but d (i + 1) (if F i ≥ time ∧ (o < 0 ∨ F i < F o) then i else o) e (if g < 0 ∨ F i > F g then i else g)
def laI (F : Int → Int) (N : Nat → Int) (a time but : Int) : Nat → Nat → Int → Int → Int → Int
  | 0, _, o, e, g => fin3 o e g
  | d + 1, i, o, e, g =>
    if N i = a ∨ (i : Int) = but then laI F N a time but d (i + 1) o e g
    else if N i = 0 then laI F N a time but d (i + 1) o (if e < 0 then i else e) g
    else if F i ≥ time then laI F N a time but d (i + 1) (if o < 0 ∨ F i < F o then i else o) e g
    else laI F N a time but d (i + 1) o e (if g < 0 ∨ F i > F g then i else g)
theorem la_same (F G : Int → Int) (N : Nat → Int) (a time but : Int) (hN : ∀ i, N i ≤ a) (hF : ∀ i : Nat, N i ≠ 0 → F i = G i) : ∀ (d i : Nat) (o e g h : Int), (0 ≤ o → ∃ j : Nat, o = j ∧ N j ≠ 0) → (0 ≤ h → ∃ j : Nat, h = j ∧ N j ≠ 0) → (o < 0 → g = h) →
    laS F N a time but d i o e g = laI G N a time but d i o e h
  | 0, i, o, e, g, h, h1, h2, h3 => by
    simp only [laS, laI, fin3]
    by_cases c : o ≥ 0
    · rw [if_pos c, if_pos c]
    · rw [if_neg c, if_neg c, h3 (by omega)]
  | d + 1, i, o, e, g, h, h1, h2, h3 => by
    simp only [laS, laI]
    have hNi := hN i
    by_cases c1 : (i : Int) = but ∨ N i ≥ a
    · rw [if_pos c1, if_pos (by rcases c1 with c | c; exact .inr c; exact .inl (by omega))]
      exact la_same F G N a time but hN hF d (i + 1) o e g h h1 h2 h3
    · rw [if_neg c1, if_neg (show ¬ (N i = a ∨ (i : Int) = but) from fun c => c1 (by rcases c with c | c; exact .inr (by omega); exact .inl c))]
      by_cases c2 : N i = 0
      · rw [if_pos c2, if_pos c2]
        exact la_same F G N a time but hN hF d (i + 1) o _ g h h1 h2 h3
      · rw [if_neg c2, if_neg c2]
        have ei := hF i c2
        have eo : 0 ≤ o → F o = G o := fun ho => by
          obtain ⟨j, rfl, hj⟩ := h1 ho
          exact hF j hj
        by_cases c3 : G i ≥ time
        · rw [if_pos c3]
          have e4 : (if F i ≥ time ∧ (o < 0 ∨ F i < F o) then (i : Int) else o) = (if o < 0 ∨ G i < G o then (i : Int) else o) := by
            by_cases ho : o < 0
            · rw [if_pos ⟨by omega, .inl ho⟩, if_pos (.inl ho)]
            · have := eo (by omega)
              by_cases c5 : G i < G o
              · rw [if_pos ⟨by omega, .inr (by omega)⟩, if_pos (.inr c5)]
              · rw [if_neg (fun x => by rcases x.2 with x | x; exact ho x; omega), if_neg (fun x => by rcases x with x | x; exact ho x; exact c5 x)]
          rw [e4]
          refine la_same F G N a time but hN hF d (i + 1) _ e _ h (fun ho => ?_) h2 (fun ho => ?_)
          · split at ho
            · rename_i c5
              rw [if_pos c5]
              exact ⟨i, rfl, c2⟩
            · rename_i c5
              rw [if_neg c5]
              exact h1 ho
          · exfalso
            split at ho
            · omega
            · rename_i c5
              exact c5 (.inl ho)
        · rw [if_neg c3, if_neg (show ¬ (F i ≥ time ∧ (o < 0 ∨ F i < F o)) from fun x => c3 (by have := x.1; omega))]
          refine la_same F G N a time but hN hF d (i + 1) o e _ _ h1 (fun hh => ?_) (fun ho => ?_)
          · split at hh
            · rename_i c5
              rw [if_pos c5]
              exact ⟨i, rfl, c2⟩
            · rename_i c5
              rw [if_neg c5]
              exact h2 hh
          · have := h3 ho
            subst this
            by_cases hg : g < 0
            · rw [if_pos (.inl hg), if_pos (.inl hg)]
            · obtain ⟨j, hj, hj2⟩ := h2 (by omega)
              have eg : F g = G g := by rw [hj]; exact hF j hj2
              by_cases c5 : G i > G g
              · rw [if_pos (.inr (by omega)), if_pos (.inr c5)]
              · rw [if_neg (fun x => by rcases x with x | x; exact hg x; omega), if_neg (fun x => by rcases x with x | x; exact hg x; exact c5 x)]
def fS (l : List (List S30)) (i : Int) : Int := lst 100001 (rd_L2 l i)
def fI (l : List (List S30)) (i : Int) : Int := lst 100000 (rd_L2 l i)
def nL (l : List (List S30)) (i : Nat) : Int := ((rd_L2 l (i : Int)).length : Int)
theorem spec_lf_l (a time but : Int) (l : List (List S30)) (hl : l.length ≤ 1000) (hm : ∀ i, (rd_L2 l i).length ≤ 1048576) : ∀ (d i : Nat), i + d = l.length → ∀ o e g : Int, o < l.length → g < l.length →
    Ev (fun k => spec_LaneFor.l0 k time but o e g (i : Int) a l) (laS (fS l) (nL l) a time but d i o e g) := by
  intro d
  induction d with
  | zero =>
    intro i hi o e g ho hg
    refine Ev.step (f := fun _ => some (fin3 o e g)) (fun k => ?_) (Ev.now _)
    simp only [spec_LaneFor.l0, fin3]
    rw [if_neg (by omega)]
    split
    · rfl
    · split <;> rfl
  | succ d ih =>
    intro i hi o e g ho hg
    have next := fun o e g (ho : o < (l.length : Int)) (hg : g < (l.length : Int)) => ih (i + 1) (by omega) o e g ho hg
    have hi1 : wrap64 ((i : Int) + 1) = ((i + 1 : Nat) : Int) := by rw [wrap_in (by omega) (by omega)]; rfl
    simp only [laS]
    have skip : Ev (fun k => spec_LaneFor.j2 k time but o e g (i : Int) (rd_L2 l (i : Int)) true a l) (laS (fS l) (nL l) a time but d (i + 1) o e g) := by
      refine Ev.step (fun k => ?_) (next o e g ho hg)
      simp only [spec_LaneFor.j2]
      rw [if_pos trivial, hi1]
    by_cases c1 : (i : Int) = but
    · rw [if_pos (.inl c1)]
      refine Ev.step (fun k => ?_) skip
      simp only [spec_LaneFor.l0]
      rw [if_pos (by omega), if_pos (by omega), if_pos c1]
    · by_cases c2 : nL l i ≥ a
      · rw [if_pos (.inr c2)]
        refine Ev.step (fun k => ?_) skip
        simp only [spec_LaneFor.l0]
        rw [if_pos (by omega), if_pos (by omega), if_neg c1, decide_eq_true (show ((rd_L2 l (i : Int)).length : Int) ≥ a from c2)]
      · rw [if_neg (fun h => by rcases h with h | h; exact c1 h; exact c2 h)]
        have go : ∀ r, Ev (fun k => spec_LaneFor.j2 k time but o e g (i : Int) (rd_L2 l (i : Int)) false a l) r → Ev (fun k => spec_LaneFor.l0 k time but o e g (i : Int) a l) r := by
          intro r h
          refine Ev.step (fun k => ?_) h
          simp only [spec_LaneFor.l0]
          rw [if_pos (by omega), if_pos (by omega), if_neg c1, decide_eq_false (show ¬ ((rd_L2 l (i : Int)).length : Int) ≥ a from c2)]
        refine go _ ?_
        by_cases c3 : nL l i = 0
        · rw [if_pos c3]
          by_cases c4 : e < 0
          · rw [if_pos c4]
            refine Ev.step (fun k => ?_) (next o (i : Int) g ho hg)
            simp only [spec_LaneFor.j2]
            rw [if_neg (by simp), if_pos (show ((rd_L2 l (i : Int)).length : Int) = 0 from c3), if_pos c4, hi1]
          · rw [if_neg c4]
            refine Ev.step (fun k => ?_) (next o e g ho hg)
            simp only [spec_LaneFor.j2]
            rw [if_neg (by simp), if_pos (show ((rd_L2 l (i : Int)).length : Int) = 0 from c3), if_neg c4, hi1]
        · rw [if_neg c3]
          have hF := lst_ev (rd_L2 l (i : Int)) (hm _)
          have j4 : ∀ o' : Int, o' < l.length → Ev (fun k => spec_LaneFor.j4 k time but o' e g (i : Int) (rd_L2 l (i : Int)) a l) (laS (fS l) (nL l) a time but d (i + 1) o' e (if g < 0 ∨ fS l (i : Int) > fS l g then (i : Int) else g)) := by
            intro o' ho'
            by_cases g0 : g < 0
            · rw [if_pos (.inl g0)]
              refine Ev.step (fun k => ?_) (next o' e (i : Int) ho' (by omega))
              simp only [spec_LaneFor.j4]
              rw [if_pos g0, hi1]
            · have hG := lst_ev (rd_L2 l g) (hm _)
              by_cases c5 : fS l (i : Int) > fS l g
              · rw [if_pos (.inr c5)]
                refine Ev.round ((Lt.of hF).and ((Lt.of hG).and (Lt.of (next o' e (i : Int) ho' (by omega))))) fun k ⟨e1, e2, e3⟩ => ?_
                simp only [spec_LaneFor.j4, e1, e2, Option.bind_some]
                rw [if_neg g0, if_pos (by omega), if_pos (by omega), if_pos (show lst 100001 (rd_L2 l (i : Int)) > lst 100001 (rd_L2 l g) from c5), hi1]
                exact e3
              · rw [if_neg (fun h => by rcases h with h | h; exact g0 h; exact c5 h)]
                refine Ev.round ((Lt.of hF).and ((Lt.of hG).and (Lt.of (next o' e g ho' hg)))) fun k ⟨e1, e2, e3⟩ => ?_
                simp only [spec_LaneFor.j4, e1, e2, Option.bind_some]
                rw [if_neg g0, if_pos (by omega), if_pos (by omega), if_neg (show ¬ lst 100001 (rd_L2 l (i : Int)) > lst 100001 (rd_L2 l g) from c5), hi1]
                exact e3
          have j3t : Ev (fun k => spec_LaneFor.j3 k time but o e g (i : Int) (rd_L2 l (i : Int)) true a l) (laS (fS l) (nL l) a time but d (i + 1) (i : Int) e (if g < 0 ∨ fS l (i : Int) > fS l g then (i : Int) else g)) := by
            refine Ev.step (fun k => ?_) (j4 (i : Int) (by omega))
            simp only [spec_LaneFor.j3]
            rw [if_pos trivial]
          have j3f : Ev (fun k => spec_LaneFor.j3 k time but o e g (i : Int) (rd_L2 l (i : Int)) false a l) (laS (fS l) (nL l) a time but d (i + 1) o e (if g < 0 ∨ fS l (i : Int) > fS l g then (i : Int) else g)) := by
            refine Ev.step (fun k => ?_) (j4 o ho)
            simp only [spec_LaneFor.j3]
            rw [if_neg (by simp)]
          by_cases c4 : fS l (i : Int) ≥ time
          · by_cases o0 : o < 0
            · rw [if_pos (show fS l (i : Int) ≥ time ∧ (o < 0 ∨ fS l (i : Int) < fS l o) from ⟨c4, .inl o0⟩)]
              refine Ev.round ((Lt.of hF).and (Lt.of j3t)) fun k ⟨e1, e3⟩ => ?_
              simp only [spec_LaneFor.j2, e1, Option.bind_some]
              rw [if_neg (by simp), if_neg (show ¬ ((rd_L2 l (i : Int)).length : Int) = 0 from c3), if_pos (show lst 100001 (rd_L2 l (i : Int)) ≥ time from c4), if_pos o0]
              exact e3
            · have hO := lst_ev (rd_L2 l o) (hm _)
              by_cases c5 : fS l (i : Int) < fS l o
              · rw [if_pos (show fS l (i : Int) ≥ time ∧ (o < 0 ∨ fS l (i : Int) < fS l o) from ⟨c4, .inr c5⟩)]
                refine Ev.round ((Lt.of hF).and ((Lt.of hO).and (Lt.of j3t))) fun k ⟨e1, e2, e3⟩ => ?_
                simp only [spec_LaneFor.j2, e1, e2, Option.bind_some]
                rw [if_neg (by simp), if_neg (show ¬ ((rd_L2 l (i : Int)).length : Int) = 0 from c3), if_pos (show lst 100001 (rd_L2 l (i : Int)) ≥ time from c4), if_neg o0, if_pos (by omega), if_pos (by omega), decide_eq_true (show lst 100001 (rd_L2 l (i : Int)) < lst 100001 (rd_L2 l o) from c5)]
                exact e3
              · rw [if_neg (show ¬ (fS l (i : Int) ≥ time ∧ (o < 0 ∨ fS l (i : Int) < fS l o)) from fun h => by rcases h.2 with h | h; exact o0 h; exact c5 h)]
                refine Ev.round ((Lt.of hF).and ((Lt.of hO).and (Lt.of j3f))) fun k ⟨e1, e2, e3⟩ => ?_
                simp only [spec_LaneFor.j2, e1, e2, Option.bind_some]
                rw [if_neg (by simp), if_neg (show ¬ ((rd_L2 l (i : Int)).length : Int) = 0 from c3), if_pos (show lst 100001 (rd_L2 l (i : Int)) ≥ time from c4), if_neg o0, if_pos (by omega), if_pos (by omega), decide_eq_false (show ¬ lst 100001 (rd_L2 l (i : Int)) < lst 100001 (rd_L2 l o) from c5)]
                exact e3
          · rw [if_neg (show ¬ (fS l (i : Int) ≥ time ∧ (o < 0 ∨ fS l (i : Int) < fS l o)) from fun h => c4 h.1)]
            refine Ev.round ((Lt.of hF).and (Lt.of j3f)) fun k ⟨e1, e3⟩ => ?_
            simp only [spec_LaneFor.j2, e1, Option.bind_some]
            rw [if_neg (by simp), if_neg (show ¬ ((rd_L2 l (i : Int)).length : Int) = 0 from c3), if_neg (show ¬ lst 100001 (rd_L2 l (i : Int)) ≥ time from c4)]
            exact e3
theorem impl_lf_l (a time but : Int) (l : List (List S30)) (hl : l.length ≤ 1000) (hm : ∀ i, (rd_L2 l i).length ≤ 1048576) : ∀ (d i : Nat), i + d = l.length → ∀ o e g : Int, o < l.length → g < l.length →
    Ev (fun k => impl_laneFor.l0 k time but o e g l (l.length : Int) (i : Int) a l) (laI (fI l) (nL l) a time but d i o e g) := by
  intro d
  induction d with
  | zero =>
    intro i hi o e g ho hg
    refine Ev.step (f := fun _ => some (fin3 o e g)) (fun k => ?_) (Ev.now _)
    simp only [impl_laneFor.l0, fin3]
    rw [if_neg (by omega)]
    split
    · rfl
    · split <;> rfl
  | succ d ih =>
    intro i hi o e g ho hg
    have next := fun o e g (ho : o < (l.length : Int)) (hg : g < (l.length : Int)) => ih (i + 1) (by omega) o e g ho hg
    have hi1 : wrap64 ((i : Int) + 1) = ((i + 1 : Nat) : Int) := by rw [wrap_in (by omega) (by omega)]; rfl
    have hF := lt_ev (rd_L2 l (i : Int)) (hm _)
    simp only [laI]
    have skip : Ev (fun k => impl_laneFor.j1 k time but o e g (i : Int) (rd_L2 l (i : Int)) (lst 100000 (rd_L2 l (i : Int))) l (l.length : Int) (i : Int) true a l) (laI (fI l) (nL l) a time but d (i + 1) o e g) := by
      refine Ev.step (fun k => ?_) (next o e g ho hg)
      simp only [impl_laneFor.j1]
      rw [if_pos trivial, hi1]
    by_cases c1 : nL l i = a
    · rw [if_pos (.inl c1)]
      refine Ev.round ((Lt.of hF).and (Lt.of skip)) fun k ⟨e1, e2⟩ => ?_
      simp only [impl_laneFor.l0, e1, Option.bind_some]
      rw [if_pos (by omega), if_pos (by omega), if_pos (by omega), if_pos (show ((rd_L2 l (i : Int)).length : Int) = a from c1)]
      exact e2
    · by_cases c2 : (i : Int) = but
      · rw [if_pos (.inr c2)]
        refine Ev.round ((Lt.of hF).and (Lt.of skip)) fun k ⟨e1, e2⟩ => ?_
        simp only [impl_laneFor.l0, e1, Option.bind_some]
        rw [if_pos (by omega), if_pos (by omega), if_pos (by omega), if_neg (show ¬ ((rd_L2 l (i : Int)).length : Int) = a from c1), show ((i : Int) == but) = true by simpa using c2]
        exact e2
      · rw [if_neg (fun h => by rcases h with h | h; exact c1 h; exact c2 h)]
        have go : ∀ r, Ev (fun k => impl_laneFor.j1 k time but o e g (i : Int) (rd_L2 l (i : Int)) (lst 100000 (rd_L2 l (i : Int))) l (l.length : Int) (i : Int) false a l) r → Ev (fun k => impl_laneFor.l0 k time but o e g l (l.length : Int) (i : Int) a l) r := by
          intro r h
          refine Ev.round ((Lt.of hF).and (Lt.of h)) fun k ⟨e1, e2⟩ => ?_
          simp only [impl_laneFor.l0, e1, Option.bind_some]
          rw [if_pos (by omega), if_pos (by omega), if_pos (by omega), if_neg (show ¬ ((rd_L2 l (i : Int)).length : Int) = a from c1), show ((i : Int) == but) = false by simpa using c2]
          exact e2
        refine go _ ?_
        by_cases c3 : nL l i = 0
        · rw [if_pos c3]
          by_cases c4 : e < 0
          · rw [if_pos c4]
            refine Ev.step (fun k => ?_) (next o (i : Int) g ho hg)
            simp only [impl_laneFor.j1]
            rw [if_neg (by simp), if_pos (show ((rd_L2 l (i : Int)).length : Int) = 0 from c3), if_pos c4, hi1]
          · rw [if_neg c4]
            refine Ev.step (fun k => ?_) (next o e g ho hg)
            simp only [impl_laneFor.j1]
            rw [if_neg (by simp), if_pos (show ((rd_L2 l (i : Int)).length : Int) = 0 from c3), if_neg c4, hi1]
        · rw [if_neg c3]
          by_cases c4 : fI l (i : Int) ≥ time
          · rw [if_pos c4]
            by_cases o0 : o < 0
            · rw [if_pos (show o < 0 ∨ fI l (i : Int) < fI l o from .inl o0)]
              refine Ev.step (fun k => ?_) (next (i : Int) e g (by omega) hg)
              simp only [impl_laneFor.j1]
              rw [if_neg (by simp), if_neg (show ¬ ((rd_L2 l (i : Int)).length : Int) = 0 from c3), if_pos (show lst 100000 (rd_L2 l (i : Int)) ≥ time from c4), if_pos o0, hi1]
            · have hO := lt_ev (rd_L2 l o) (hm _)
              by_cases c5 : fI l (i : Int) < fI l o
              · rw [if_pos (show o < 0 ∨ fI l (i : Int) < fI l o from .inr c5)]
                refine Ev.round ((Lt.of hO).and (Lt.of (next (i : Int) e g (by omega) hg))) fun k ⟨e1, e2⟩ => ?_
                simp only [impl_laneFor.j1, e1, Option.bind_some]
                rw [if_neg (by simp), if_neg (show ¬ ((rd_L2 l (i : Int)).length : Int) = 0 from c3), if_pos (show lst 100000 (rd_L2 l (i : Int)) ≥ time from c4), if_neg o0, if_pos (by omega), if_pos (by omega), if_pos (show lst 100000 (rd_L2 l (i : Int)) < lst 100000 (rd_L2 l o) from c5), hi1]
                exact e2
              · rw [if_neg (show ¬ (o < 0 ∨ fI l (i : Int) < fI l o) from fun h => by rcases h with h | h; exact o0 h; exact c5 h)]
                refine Ev.round ((Lt.of hO).and (Lt.of (next o e g ho hg))) fun k ⟨e1, e2⟩ => ?_
                simp only [impl_laneFor.j1, e1, Option.bind_some]
                rw [if_neg (by simp), if_neg (show ¬ ((rd_L2 l (i : Int)).length : Int) = 0 from c3), if_pos (show lst 100000 (rd_L2 l (i : Int)) ≥ time from c4), if_neg o0, if_pos (by omega), if_pos (by omega), if_neg (show ¬ lst 100000 (rd_L2 l (i : Int)) < lst 100000 (rd_L2 l o) from c5), hi1]
                exact e2
          · rw [if_neg c4]
            by_cases g0 : g < 0
            · rw [if_pos (show g < 0 ∨ fI l (i : Int) > fI l g from .inl g0)]
              refine Ev.step (fun k => ?_) (next o e (i : Int) ho (by omega))
              simp only [impl_laneFor.j1]
              rw [if_neg (by simp), if_neg (show ¬ ((rd_L2 l (i : Int)).length : Int) = 0 from c3), if_neg (show ¬ lst 100000 (rd_L2 l (i : Int)) ≥ time from c4), if_pos g0, hi1]
            · have hG := lt_ev (rd_L2 l g) (hm _)
              by_cases c5 : fI l (i : Int) > fI l g
              · rw [if_pos (show g < 0 ∨ fI l (i : Int) > fI l g from .inr c5)]
                refine Ev.round ((Lt.of hG).and (Lt.of (next o e (i : Int) ho (by omega)))) fun k ⟨e1, e2⟩ => ?_
                simp only [impl_laneFor.j1, e1, Option.bind_some]
                rw [if_neg (by simp), if_neg (show ¬ ((rd_L2 l (i : Int)).length : Int) = 0 from c3), if_neg (show ¬ lst 100000 (rd_L2 l (i : Int)) ≥ time from c4), if_neg g0, if_pos (by omega), if_pos (by omega), if_pos (show lst 100000 (rd_L2 l (i : Int)) > lst 100000 (rd_L2 l g) from c5), hi1]
                exact e2
              · rw [if_neg (show ¬ (g < 0 ∨ fI l (i : Int) > fI l g) from fun h => by rcases h with h | h; exact g0 h; exact c5 h)]
                refine Ev.round ((Lt.of hG).and (Lt.of (next o e g ho hg))) fun k ⟨e1, e2⟩ => ?_
                simp only [impl_laneFor.j1, e1, Option.bind_some]
                rw [if_neg (by simp), if_neg (show ¬ ((rd_L2 l (i : Int)).length : Int) = 0 from c3), if_neg (show ¬ lst 100000 (rd_L2 l (i : Int)) ≥ time from c4), if_neg g0, if_pos (by omega), if_pos (by omega), if_neg (show ¬ lst 100000 (rd_L2 l (i : Int)) > lst 100000 (rd_L2 l g) from c5), hi1]
                exact e2
def laneFor (a : Int) (l : List (List S30)) (time but : Int) : Int := if stOk a l = true ∧ 0 ≤ time ∧ time ≤ 100000 then laS (fS l) (nL l) a time but l.length 0 (-1) (-1) (-1) else -1
theorem rdL2_in (l : List (List S30)) (p : List S30 → Prop) (h0 : p []) (h : ∀ x ∈ l, p x) (i : Int) : p (rd_L2 l i) := by
  unfold rd_L2
  rw [List.getD_eq_getElem?_getD]
  by_cases hi : i.toNat < l.length
  · rw [List.getElem?_eq_getElem hi]
    exact h _ (List.getElem_mem hi)
  · rw [List.getElem?_eq_none (by omega)]
    exact h0
theorem la_eq {a : Int} {l : List (List S30)} (h : stOk a l = true) (time but : Int) : laS (fS l) (nL l) a time but l.length 0 (-1) (-1) (-1) = laI (fI l) (nL l) a time but l.length 0 (-1) (-1) (-1) := by
  obtain ⟨h1, h2, h3, h4, h5, h6, h7⟩ := st_in h
  refine la_same _ _ _ _ _ _ (fun i => ?_) (fun i hi => ?_) _ _ _ _ _ _ (fun h => absurd h (by omega)) (fun h => absurd h (by omega)) (fun _ => rfl)
  · exact rdL2_in l (fun x => (x.length : Int) ≤ a) (by simp; omega) h5 _
  · refine (lst_same _ (rdL2_in l (fun x => ∀ y ∈ x, okK y = true) (by simp) (fun x hx y hy => h6 y (List.mem_flatten.2 ⟨x, hx, hy⟩)) _) (fun e => hi ?_)).symm
    unfold nL
    rw [e]
    rfl
theorem spec_lf_ev (a : Int) (l : List (List S30)) (time but : Int) : Ev (fun k => spec_LaneFor.f k a l time but) (laneFor a l time but) := by
  have dead : Ev (fun k => spec_LaneFor.j0 k time but true a l) (-1) := Ev.step (f := fun _ => some (-1)) (fun k => by simp [spec_LaneFor.j0]) (Ev.now _)
  unfold laneFor
  by_cases h : stOk a l = true
  · obtain ⟨h1, h2, h3, h4, h5, h6, h7⟩ := st_in h
    by_cases ht : 0 ≤ time ∧ time ≤ 100000
    · rw [if_pos ⟨h, ht⟩]
      have live : Ev (fun k => spec_LaneFor.j0 k time but false a l) (laS (fS l) (nL l) a time but l.length 0 (-1) (-1) (-1)) :=
        Ev.step (fun k => by simp only [spec_LaneFor.j0]; rw [if_neg (by simp)]; rfl) (spec_lf_l a time but l (by omega) (fun i => rdL2_in l (fun x => x.length ≤ 1048576) (by simp) (fun x hx => by have := h5 x hx; omega) i) l.length 0 (by omega) (-1) (-1) (-1) (by omega) (by omega))
      refine Lt.ev ((Lt.of (spec_st_ev a l)).and (Lt.of live)) fun k ⟨e1, e2⟩ => ?_
      simp only [spec_LaneFor.f, spec_l01In.f, e1, h, Option.bind_some]
      rw [if_pos trivial, if_pos ht.1, decide_eq_true ht.2]
      exact e2
    · rw [if_neg (fun x => ht x.2)]
      refine Lt.ev ((Lt.of (spec_st_ev a l)).and (Lt.of dead)) fun k ⟨e1, e2⟩ => ?_
      simp only [spec_LaneFor.f, spec_l01In.f, e1, h, Option.bind_some]
      rw [if_pos trivial]
      by_cases t0 : time ≥ 0
      · rw [if_pos t0, decide_eq_false (fun t1 => ht ⟨t0, t1⟩)]
        exact e2
      · rw [if_neg t0]
        exact e2
  · rw [if_neg (fun x => h x.1)]
    refine Lt.ev ((Lt.of (spec_st_ev a l)).and (Lt.of dead)) fun k ⟨e1, e2⟩ => ?_
    simp only [spec_LaneFor.f, e1, Option.bind_some]
    rw [if_neg h]
    exact e2
end Go.Proofs.Ytheckjlldkkceaa.Pu
