import Derived.Test.YtheckjlldkkceaaZqDk
import Derived.Test.YtheckjlldkkceaaZqTs
import Derived.Test.YtheckjlldkkceaaZqPx23
import Derived.Test.YtheckjlldkkceaaZqPx36
namespace Go.Proofs.Ytheckjlldkkceaa.Pu
open Go.RowKit Go.Proofs.Ytheckjlldkkceaa.Px Go.Proofs.YtheckjlldkkceaaW.PrintWords Go.Proofs.YtheckjlldkkceaaW.PrintLast Go.Proofs.YtheckjlldkkceaaW.PrintMore
set_option linter.unusedVariables false
def fitG (F : Int → Int) (N : Nat → Int) (a time : Int) (j : Nat) : Prop := N j < a ∧ (N j = 0 ∨ F (j : Int) ≥ time)
theorem laS_best (F : Int → Int) (N : Nat → Int) (a time : Int) : ∀ (d i : Nat) (o e g : Int), (0 ≤ o → ∃ j : Nat, o = (j : Int) ∧ fitG F N a time j) → (0 ≤ e → ∃ j : Nat, e = (j : Int) ∧ fitG F N a time j) →
    (o < 0 → e < 0 → ∀ j < i, ¬ fitG F N a time j) → (∃ j : Nat, laS F N a time (-1) d i o e g = (j : Int) ∧ fitG F N a time j) ∨ (∀ j < i + d, ¬ fitG F N a time j)
  | 0, i, o, e, g, h1, h2, h3 => by
    simp only [laS, fin3]
    by_cases c : o ≥ 0
    · rw [if_pos c]
      exact .inl (h1 c)
    · rw [if_neg c]
      by_cases c2 : e ≥ 0
      · rw [if_pos c2]
        exact .inl (h2 c2)
      · exact .inr (h3 (by omega) (by omega))
  | d + 1, i, o, e, g, h1, h2, h3 => by
    have ei : i + (d + 1) = (i + 1) + d := by omega
    have ext : ∀ (q : ¬ fitG F N a time i), (o < 0 → e < 0 → ∀ j < i + 1, ¬ fitG F N a time j) := fun q ho he j hj => by
      by_cases c : j = i
      · rw [c]
        exact q
      · exact h3 ho he j (by omega)
    simp only [laS]
    rw [ei]
    by_cases c1 : (i : Int) = -1 ∨ N i ≥ a
    · rw [if_pos c1]
      exact laS_best F N a time d (i + 1) o e g h1 h2 (ext fun hq => by
        have := hq.1
        omega)
    · rw [if_neg c1]
      by_cases c2 : N i = 0
      · rw [if_pos c2]
        have hg : fitG F N a time i := ⟨by omega, .inl c2⟩
        refine laS_best F N a time d (i + 1) o _ g h1 (fun _ => ?_) (fun _ he => ?_)
        · split
          · exact ⟨i, rfl, hg⟩
          · exact h2 (by omega)
        · exfalso
          split at he <;> omega
      · rw [if_neg c2]
        refine laS_best F N a time d (i + 1) _ e _ (fun ho => ?_) h2 (fun ho he => ?_)
        · by_cases c3 : F i ≥ time ∧ (o < 0 ∨ F i < F o)
          · rw [if_pos c3]
            exact ⟨i, rfl, by omega, .inr c3.1⟩
          · rw [if_neg c3] at ho ⊢
            exact h1 ho
        · by_cases c3 : F i ≥ time ∧ (o < 0 ∨ F i < F o)
          · rw [if_pos c3] at ho
            omega
          · rw [if_neg c3] at ho
            exact ext (fun hq => by
              rcases hq.2 with h | h
              · exact c2 h
              · exact c3 ⟨h, .inl ho⟩) ho he
def lets (a t : Int) (m : List S30) : Bool := decide ((m.length : Int) < a) && m.all (fun x => decide (t ≤ x.f1))
theorem lst_ge {t : Int} (ht : t ≤ 100000) (m : List S30) : ¬ lst 100001 m < t ↔ m.all (fun x => decide (t ≤ x.f1)) = true := by
  rw [lst_lt, List.all_eq_true]
  constructor
  · intro h x hx
    exact decide_eq_true (Int.not_lt.1 fun q => h (.inr ⟨x, hx, q⟩))
  · rintro h (h1 | ⟨x, hx, h1⟩)
    · omega
    · have := of_decide_eq_true (h x hx)
      omega
theorem fit_lets {a t : Int} {l : List (List S30)} (ht : t ≤ 100000) {j : Nat} (hj : j < l.length) : fitG (fS l) (nL l) a t j ↔ lets a t l[j] = true := by
  unfold fitG lets fS nL
  rw [rdL2_nat l j hj, Bool.and_eq_true, decide_eq_true_iff, ← lst_ge ht]
  constructor
  · rintro ⟨h1, h2⟩
    refine ⟨h1, ?_⟩
    rcases h2 with h2 | h2
    · have : l[j] = [] := List.eq_nil_of_length_eq_zero (by omega)
      rw [this]
      simp only [lst, List.foldl_nil]
      omega
    · omega
  · rintro ⟨h1, h2⟩
    exact ⟨h1, .inr (by omega)⟩
theorem lane_best {a t : Int} {l : List (List S30)} (hs : stOk a l = true) (h0 : 0 ≤ t) (h1 : t ≤ 100000) {p : Nat} (hp : p < l.length) (e : laneFor a l t (-1) = (p : Int)) : l.any (lets a t) = lets a t l[p] := by
  unfold laneFor at e
  rw [if_pos ⟨hs, h0, h1⟩] at e
  rcases laS_best (fS l) (nL l) a t l.length 0 (-1) (-1) (-1) (fun h => absurd h (by omega)) (fun h => absurd h (by omega)) (fun _ _ j hj => absurd hj (by omega)) with ⟨j, e2, hg⟩ | hn
  · have ej : j = p := by omega
    subst ej
    have := (fit_lets h1 hp).1 hg
    rw [this, List.any_eq_true]
    exact ⟨_, List.getElem_mem hp, this⟩
  · have no : ∀ j (hj : j < l.length), lets a t l[j] = false := fun j hj => by
      rw [Bool.eq_false_iff]
      exact fun h => hn j (by omega) ((fit_lets h1 hj).2 h)
    rw [no p hp, List.any_eq_false]
    intro x hx
    obtain ⟨j, hj, rfl⟩ := List.getElem_of_mem hx
    rw [no j hj]
    simp
theorem put_bus {a t b : Int} {l : List (List S30)} (hs : stOk a l = true) (h0 : 0 ≤ t) (h1 : t ≤ 100000) {p : Nat} (hp : p < l.length) (hr : (l[p].length : Int) < a) :
    (bus (l.set p (l[p] ++ [⟨b, t⟩])) == bus l) = lets a t l[p] := by
  have e1 := bus_set l p (l[p] ++ [⟨b, t⟩]) hp
  rw [bu_last] at e1
  have e2 := lst_ge h1 l[p]
  unfold lets
  rw [decide_eq_true hr, Bool.true_and]
  by_cases c : lst 100001 l[p] < t
  · rw [if_pos c] at e1
    rw [Bool.eq_false_iff.2 (fun h => (e2.2 h) c)]
    rw [Bool.eq_false_iff]
    intro h
    rw [beq_iff_eq] at h
    omega
  · rw [if_neg c] at e1
    rw [e2.1 c, beq_iff_eq]
    omega
section
variable {a t b : Int} {l : List (List S30)} (hs : stOk a l = true) (h0 : 0 ≤ t) (h1 : t ≤ 100000) {p : Nat} (hp : p < l.length) (hr : (l[p].length : Int) < a) (hl : laneFor a l t (-1) = (p : Int)) (hb : 1 ≤ b) (hn : b ∉ bags l)
include hs h0 h1 hp hr hl hb hn
theorem puts_end : Ev (fun k => laws_FnStorePuts.l0 k t (l.any (lets a t)) (l.length : Int) a l a (l.set p (l[p] ++ [⟨b, t⟩]))) true := by
  have hst : stOk a (l.set p (l[p] ++ [⟨b, t⟩])) = true := st_on hs hp hr (k := ⟨b, t⟩) (by
    simp only [okK, Bool.and_eq_true, decide_eq_true_iff]
    exact ⟨⟨hb, h0⟩, h1⟩) hn
  obtain ⟨q1, q2⟩ := st_small hs
  have hfl := flat_small hs
  have hfl2 := flat_small hst
  obtain ⟨r1, r2⟩ := st_small hst
  have hfs := flat_set_len l p (l[p] ++ [⟨b, t⟩]) hp
  rw [List.length_append, List.length_singleton] at hfs
  have b1 := impl_bu_ev a l q1 (by omega)
  have b2 := impl_bu_ev a _ r1 (by omega)
  unfold buried at b1 b2
  rw [if_pos hs] at b1
  rw [if_pos hst] at b2
  have s1 := impl_st_ev a (l.set p (l[p] ++ [⟨b, t⟩])) r1 (by omega)
  rw [hst] at s1
  have k1 := kept_ev a (l.set p (l[p] ++ [⟨b, t⟩])) r1 (by omega)
  have k2 := kept_ev a l q1 (by omega)
  have w : wrap64 ((l.flatten.length : Int) + 1) = ((l.set p (l[p] ++ [⟨b, t⟩])).flatten.length : Int) := by
    rw [wrap_in (by omega) (by omega)]
    omega
  have hpb := put_bus (b := b) hs h0 h1 hp hr
  have hla := lane_best hs h0 h1 hp hl
  generalize l.set p (l[p] ++ [⟨b, t⟩]) = l' at *
  rw [hla]
  refine Ev.round ((Lt.of s1).and ((Lt.of k1).and ((Lt.of k2).and ((Lt.of b2).and (Lt.of b1))))) fun k ⟨e1, e2, e3, e4, e5⟩ => ?_
  simp only [laws_FnStorePuts.l0, e1, e2, e3, e4, e5, Option.bind_some, w, hpb]
  rw [if_neg (by omega), if_pos trivial, if_pos trivial]
  exact congrArg some (beq_self_eq_true _)
omit h0 h1 hr hl hb hn in
theorem puts_l1 (i : Nat) (hi : i < l.length) (kd : Bool) (nx : Ev (fun k => laws_FnStorePuts.l0 k t (kd || l[i].all (fun x => decide (t ≤ x.f1))) ((i + 1 : Nat) : Int) a l a (l.set p (l[p] ++ [⟨b, t⟩]))) true) :
    ∀ (d j : Nat), j + d = l[i].length → ∀ bad : Bool, bad = !((l[i].take j).all (fun x => decide (t ≤ x.f1))) → Ev (fun k => laws_FnStorePuts.l1 k t kd (i : Int) bad (j : Int) a l a (l.set p (l[p] ++ [⟨b, t⟩]))) true := by
  have ei : rd_L2 l (i : Int) = l[i] := rdL2_nat l i hi
  obtain ⟨q1, q2⟩ := st_small hs
  have qi := q2 _ (List.getElem_mem hi)
  intro d
  induction d with
  | zero =>
    intro j hj bad hbad
    rw [List.take_of_length_le (by omega)] at hbad
    refine Ev.step (fun k => ?_) nx
    simp only [laws_FnStorePuts.l1, ei]
    rw [if_pos (by omega), if_pos (by omega), if_neg (by omega), wrap_in (x := (i : Int) + 1) (by omega) (by omega), hbad, Bool.not_not]
    cases kd with
    | true => rw [if_pos rfl, Bool.true_or]; rfl
    | false => rw [if_neg (by simp), Bool.false_or]; rfl
  | succ d ih =>
    intro j hj bad hbad
    have hjl : j < l[i].length := by omega
    have ej : rd_T30 l[i] (j : Int) = l[i][j] := rd30_nat l[i] j hjl
    have et : (l[i].take (j + 1)).all (fun x => decide (t ≤ x.f1)) = ((l[i].take j).all (fun x => decide (t ≤ x.f1)) && decide (t ≤ l[i][j].f1)) := by
      rw [List.take_succ_eq_append_getElem hjl, List.all_append]
      simp
    cases hb2 : bad with
    | true =>
      rw [hb2] at hbad
      refine Ev.step (fun k => ?_) (ih (j + 1) (by omega) true (by
        rw [et]
        have : ((l[i].take j).all (fun x => decide (t ≤ x.f1))) = false := by
          revert hbad
          cases ((l[i].take j).all (fun x => decide (t ≤ x.f1))) <;> simp
        rw [this]
        rfl))
      simp only [laws_FnStorePuts.l1, ei]
      rw [if_pos (by omega), if_pos (by omega), if_pos (by omega), if_pos trivial, wrap_in (x := (j : Int) + 1) (by omega) (by omega)]
      rfl
    | false =>
      rw [hb2] at hbad
      refine Ev.step (fun k => ?_) (ih (j + 1) (by omega) (decide (l[i][j].f1 < t)) (by
        rw [et]
        have : ((l[i].take j).all (fun x => decide (t ≤ x.f1))) = true := by
          revert hbad
          cases ((l[i].take j).all (fun x => decide (t ≤ x.f1))) <;> simp
        rw [this, Bool.true_and]
        by_cases c : l[i][j].f1 < t
        · rw [decide_eq_true c, decide_eq_false (by omega)]
          rfl
        · rw [decide_eq_false c, decide_eq_true (by omega)]
          rfl))
      simp only [laws_FnStorePuts.l1, ei, ej]
      rw [if_pos (by omega), if_pos (by omega), if_pos (by omega), if_neg (by simp), if_pos (by omega), wrap_in (x := (j : Int) + 1) (by omega) (by omega)]
      rfl
theorem puts_l0 : ∀ (d i : Nat), i + d = l.length → Ev (fun k => laws_FnStorePuts.l0 k t ((l.take i).any (lets a t)) (i : Int) a l a (l.set p (l[p] ++ [⟨b, t⟩]))) true := by
  obtain ⟨q1, q2⟩ := st_small hs
  intro d
  induction d with
  | zero =>
    intro i hi
    have ei : i = l.length := by omega
    subst ei
    rw [List.take_of_length_le (Nat.le_refl _)]
    exact puts_end hs h0 h1 hp hr hl hb hn
  | succ d ih =>
    intro i hi
    have hlt : i < l.length := by omega
    have ei : rd_L2 l (i : Int) = l[i] := rdL2_nat l i hlt
    have et : (l.take (i + 1)).any (lets a t) = ((l.take i).any (lets a t) || lets a t l[i]) := by
      rw [List.take_succ_eq_append_getElem hlt, List.any_append]
      simp
    have nx := ih (i + 1) (by omega)
    rw [et] at nx
    by_cases c : (l[i].length : Int) ≥ a
    · have : lets a t l[i] = false := by
        unfold lets
        rw [decide_eq_false (by omega), Bool.false_and]
      rw [this, Bool.or_false] at nx
      refine Ev.step (fun k => ?_) nx
      simp only [laws_FnStorePuts.l0, ei]
      rw [if_pos (by omega), if_pos (by omega), if_pos c, wrap_in (x := (i : Int) + 1) (by omega) (by omega)]
      rfl
    · have : lets a t l[i] = l[i].all (fun x => decide (t ≤ x.f1)) := by
        unfold lets
        rw [decide_eq_true (by omega), Bool.true_and]
      rw [this] at nx
      refine Ev.step (fun k => ?_) (puts_l1 hs hp i hlt _ nx l[i].length 0 (by omega) false (by simp))
      simp only [laws_FnStorePuts.l0, ei]
      rw [if_pos (by omega), if_pos (by omega), if_neg c]
      rfl
end
theorem puts_j0 (x : List Int) (hx : x.length ≤ 1048576) (a : Int) (l : List (List S30)) (b t : Int) (l' : List (List S30)) (j : Int) (ok : Bool) (h : PutAs a l b t l' j ok) : Ev (fun k => laws_FnStorePuts.j0 k x t ok false a l a l') true := by
  obtain ⟨a2, l2, t2, u2, d1, d2, d3⟩ := draw_lane_ev x hx
  have f1 := impl_lf_ev a2 l2 t2 u2 (by omega) (by omega)
  have f2 := spec_lf_ev a2 l2 t2 u2
  cases ok with
  | false =>
    refine Ev.round ((Lt.of d1).and ((Lt.of f1).and (Lt.of f2))) fun k ⟨e1, e2, e3⟩ => ?_
    simp only [laws_FnStorePuts.j0, e1, e2, e3, Option.bind_some]
    rw [if_neg (by simp), if_pos trivial, if_neg (by simp)]
  | true =>
    obtain ⟨p, hp, hs, h0, h1, hl, hr, hb, hn, rfl⟩ := h.1 rfl
    refine Ev.round ((Lt.of d1).and ((Lt.of f1).and ((Lt.of f2).and (Lt.of (puts_l0 hs h0 h1 hp hr hl hb hn l.length 0 (by omega)))))) fun k ⟨e1, e2, e3, e4⟩ => ?_
    simp only [laws_FnStorePuts.j0, e1, e2, e3, Option.bind_some]
    rw [if_neg (by simp), if_pos trivial, if_pos trivial]
    exact e4
theorem puts_ev (x : List Int) : Ev (fun k => laws_FnStorePuts.f k x) true := by
  by_cases h : x.length ≤ 1048576
  · obtain ⟨a, l, b, t, d1, d2, d3⟩ := draw_put_ev x h
    have hm : ∀ m ∈ l, m.length ≤ 1048576 := fun m hm => by
      obtain ⟨i, hi, rfl⟩ := List.getElem_of_mem hm
      have := lane_len l i hi
      omega
    obtain ⟨l', j, ok, i1, i2, s1, s2, s3, s4⟩ := put_both a l b t (by omega) (by omega) hm
    have sa := sameStore_ev a l' s1 s3
    have st1 := impl_st_ev a l (by omega) (by omega)
    have st2 := spec_st_ev a l
    have hj := puts_j0 x h a l b t l' j ok s4
    refine Lt.ev ((Lt.of d1).and ((Lt.of i1).and ((Lt.of i2).and ((Lt.of sa).and ((Lt.of st1).and ((Lt.of st2).and (Lt.of hj))))))) fun k ⟨e1, e2, e3, e4, e5, e6, e7⟩ => ?_
    simp only [laws_FnStorePuts.f, laws_big.f, Option.bind_some, e1, e2, e3, e4, e5, e6]
    rw [decide_eq_false (by omega), if_neg (by simp), if_neg (by simp), if_pos trivial, if_pos trivial]
    have hst : (stOk a l != stOk a l) = false := by simp
    cases ok with
    | true =>
      rw [if_pos rfl, hst]
      exact e7
    | false =>
      obtain ⟨rfl, rfl⟩ := s4.2 rfl
      rw [if_neg (by simp)]
      simp only [e4, Option.bind_some]
      rw [if_pos trivial, if_pos trivial, hst]
      exact e7
  · refine Lt.ev (Lt.of (Ev.now true)) fun k _ => ?_
    simp only [laws_FnStorePuts.f, laws_big.f, Option.bind_some]
    rw [decide_eq_true (by omega), if_pos rfl]
end Go.Proofs.Ytheckjlldkkceaa.Pu
