import Derived.Test.YtdmbfmfdijgdkaaZvCc
import Derived.Test.YtdmbfmfdijgdkaaZvDw
namespace Go.Proofs.Ytdmbfmfdijgdkaa.Pu
open Go.RowKit Go.Proofs.Ytdmbfmfdijgdkaa.Px Go.Proofs.YtdmbfmfdijgdkaaW.PrintWords Go.Proofs.YtdmbfmfdijgdkaaW.PrintLast Go.Proofs.YtdmbfmfdijgdkaaW.PrintMore
set_option linter.unusedVariables false
theorem cntR_add (s : List S89) (t : List Int) : ∀ (d a e : Nat), cntR s t a (d + e) = cntR s t a d + cntR s t (a + d) e
  | 0, a, e => by
    rw [Nat.zero_add, Nat.add_zero]
    have : cntR s t a 0 = 0 := rfl
    omega
  | d + 1, a, e => by
    rw [show d + 1 + e = (d + e) + 1 by omega, cntR_succ, cntR_succ, cntR_add s t d (a + 1) e, show a + 1 + d = a + (d + 1) by omega]
    omega
theorem cntR_congr (s : List S89) (t t' : List Int) : ∀ (d a : Nat), (∀ j, a ≤ j → j < a + d → t.getD j 0 = t'.getD j 0) → cntR s t a d = cntR s t' a d
  | 0, a, h => rfl
  | d + 1, a, h => by
    rw [cntR_succ, cntR_succ, h a (Nat.le_refl _) (by omega), cntR_congr s t t' d (a + 1) (fun j h1 h2 => h j (by omega) (by omega))]
theorem cnt_at (s : List S89) (t : List Int) (i n : Nat) (hi : i < n) : cntR s t 0 n = cntR s t 0 i + (if (s.getD i z89).f1 = 0 ∧ t.getD i 0 ≠ 0 then 1 else 0) + cntR s t (i + 1) (n - i - 1) := by
  have h1 := cntR_add s t i 0 (n - i)
  rw [show i + (n - i) = n by omega, Nat.zero_add] at h1
  have h2 := cntR_succ s t i (n - i - 1)
  rw [show n - i - 1 + 1 = n - i by omega] at h2
  omega
theorem getD_setI (l : List Int) (i j : Nat) (x : Int) (hi : i < l.length) : (l.set i x).getD j 0 = if i = j then x else l.getD j 0 := by
  simp only [List.getD_eq_getElem?_getD, List.getElem?_set]
  by_cases e : i = j
  · subst e
    rw [if_pos rfl, if_pos hi, if_pos rfl]
    rfl
  · rw [if_neg e, if_neg e]
theorem mem_takeI (l : List Int) (j : Nat) (v : Int) (hj : j ≤ l.length) : v ∈ l.take j ↔ ∃ p, p < j ∧ l.getD p 0 = v := by
  rw [List.mem_take_iff_getElem]
  constructor
  · rintro ⟨p, hp, e⟩
    have hpl : p < l.length := by omega
    exact ⟨p, by omega, by simp [hpl, e]⟩
  · rintro ⟨p, hp, e⟩
    have hpl : p < l.length := by omega
    exact ⟨p, by omega, by simpa [hpl] using e⟩
def isW (l : List S52) (s : List S89) (t : List Int) : Prop := t.length = s.length ∧ ∀ j, j < s.length → (t.getD j 0 = (s.getD j z89).f1 ∨ ∃ x ∈ l, fitsB s (s.getD j z89) x = true ∧ t.getD j 0 = x.f0 ∧ ∀ p, p < j → t.getD p 0 ≠ x.f0)
theorem isW_iff (l : List S52) (s : List S89) (t : List Int) : t ∈ waysL l s s.length [] ↔ isW l s t := by
  rw [mem_ways l s s.length [] (by simp) t]
  constructor
  · rintro ⟨h1, _, h3⟩
    refine ⟨h1, fun j hj => ?_⟩
    rcases h3 j (Nat.zero_le _) hj with h | ⟨x, hx, hf, hv, hn⟩
    · exact .inl h
    · exact .inr ⟨x, hx, hf, hv, fun p hp e => hn ((mem_takeI t j x.f0 (by omega)).2 ⟨p, hp, e⟩)⟩
  · rintro ⟨h1, h3⟩
    refine ⟨h1, rfl, fun j _ hj => ?_⟩
    rcases h3 j hj with h | ⟨x, hx, hf, hv, hn⟩
    · exact .inl h
    · exact .inr ⟨x, hx, hf, hv, fun h => by
        obtain ⟨p, hp, e⟩ := (mem_takeI t j x.f0 (by omega)).1 h
        exact hn p hp e⟩
theorem best_l (s : List S89) (y : S89) (out : List Int) : ∀ (q : List S52) (e : S52), (e.f0 = 0 ∨ okB s y out e = true) → (∀ x ∈ q, 1 ≤ x.f0) → 0 ≤ e.f0 →
    ((q.foldl (stepB s y out) e).f0 = 0 ∨ okB s y out (q.foldl (stepB s y out) e) = true) ∧ (q.foldl (stepB s y out) e = e ∨ q.foldl (stepB s y out) e ∈ q) ∧ 0 ≤ (q.foldl (stepB s y out) e).f0 ∧ (e.f0 ≠ 0 → (q.foldl (stepB s y out) e).f0 ≠ 0 ∧ (q.foldl (stepB s y out) e).f2 ≤ e.f2) ∧
    ∀ x ∈ q, okB s y out x = true → (q.foldl (stepB s y out) e).f0 ≠ 0 ∧ (q.foldl (stepB s y out) e).f2 ≤ x.f2
  | [], e, he, _, h0 => ⟨he, .inl rfl, h0, fun h => ⟨h, Int.le_refl _⟩, fun x h => (by cases h)⟩
  | a :: q, e, he, hq, h0 => by
    rw [List.foldl_cons]
    have ha1 := hq a List.mem_cons_self
    by_cases hc : okB s y out a = true ∧ bet a e = true
    · have es : stepB s y out e a = a := if_pos hc
      rw [es]
      obtain ⟨h1, h2, h3, h4, h5⟩ := best_l s y out q a (.inr hc.1) (fun x hx => hq x (List.mem_cons_of_mem _ hx)) (by omega)
      obtain ⟨h6, h7⟩ := h4 (by omega)
      refine ⟨h1, .inr (h2.elim (fun h => by rw [h]; exact List.mem_cons_self) (List.mem_cons_of_mem _)), h3, fun hne => ⟨h6, ?_⟩, fun x hx hok => ?_⟩
      · have hb := hc.2
        unfold bet at hb
        simp only [Bool.or_eq_true, Bool.and_eq_true, decide_eq_true_eq] at hb
        omega
      · rcases List.mem_cons.1 hx with e1 | hx
        · rw [e1]; exact ⟨h6, h7⟩
        · exact h5 x hx hok
    · have es : stepB s y out e a = e := if_neg hc
      rw [es]
      obtain ⟨h1, h2, h3, h4, h5⟩ := best_l s y out q e he (fun x hx => hq x (List.mem_cons_of_mem _ hx)) h0
      refine ⟨h1, h2.elim Or.inl (fun h => .inr (List.mem_cons_of_mem _ h)), h3, h4, fun x hx hok => ?_⟩
      rcases List.mem_cons.1 hx with e1 | hx
      · subst e1
        have hb : ¬ bet x e = true := fun h => hc ⟨hok, h⟩
        unfold bet at hb
        simp only [Bool.or_eq_true, Bool.and_eq_true, decide_eq_true_eq, not_or, not_and] at hb
        have := h4 (by omega)
        exact ⟨this.1, by omega⟩
      · exact h5 x hx hok
theorem best_ok (l : List S52) (s : List S89) (y : S89) (out : List Int) (hb : ∀ x ∈ l, 1 ≤ x.f0) : ((bestB l s y out).f0 = 0 ∧ ∀ x ∈ l, okB s y out x = false) ∨ (bestB l s y out ∈ l ∧ okB s y out (bestB l s y out) = true ∧ 1 ≤ (bestB l s y out).f0 ∧ ∀ x ∈ l, okB s y out x = true → (bestB l s y out).f2 ≤ x.f2) := by
  obtain ⟨h1, h2, h3, h4, h5⟩ := best_l s y out l ⟨0, 0, 0⟩ (.inl rfl) hb (Int.le_refl _)
  have e : bestB l s y out = l.foldl (stepB s y out) ⟨0, 0, 0⟩ := rfl
  rw [← e] at h1 h2 h3 h4 h5
  by_cases hz : (bestB l s y out).f0 = 0
  · refine .inl ⟨hz, fun x hx => ?_⟩
    cases hc : okB s y out x with
    | false => rfl
    | true => exact absurd hz (h5 x hx hc).1
  · refine .inr ⟨?_, h1.resolve_left hz, by omega, fun x hx hok => (h5 x hx hok).2⟩
    rcases h2 with h | h
    · rw [h] at hz
      exact absurd rfl hz
    · exact h
theorem asg_pre (l : List S52) (s : List S89) : ∀ (r : List S89) (out : List Int), out <+: asg l s r out
  | [], out => List.prefix_refl _
  | y :: r, out => (List.prefix_append out _).trans (asg_pre l s r _)
theorem asg_at (l : List S52) (s : List S89) : ∀ (d i : Nat) (out : List Int), i + d = s.length → out.length = i → ∀ j, i ≤ j → j < s.length → (asg l s (s.drop i) out).getD j 0 = mx (s.getD j z89).f1 (bestB l s (s.getD j z89) ((asg l s (s.drop i) out).take j)).f0
  | 0, i, out, hi, ho, j, h1, h2 => by omega
  | d + 1, i, out, hi, ho, j, h1, h2 => by
    have hil : i < s.length := by omega
    have ex : s[i] = s.getD i z89 := by simp [hil]
    have e : asg l s (s.drop i) out = asg l s (s.drop (i + 1)) (out ++ [mx (s.getD i z89).f1 (bestB l s (s.getD i z89) out).f0]) := by
      rw [List.drop_eq_getElem_cons hil, ex]
      rfl
    by_cases hj : j = i
    · subst hj
      rw [e]
      obtain ⟨tl, htl⟩ := asg_pre l s (s.drop (j + 1)) (out ++ [mx (s.getD j z89).f1 (bestB l s (s.getD j z89) out).f0])
      rw [← htl]
      have h3 : ((out ++ [mx (s.getD j z89).f1 (bestB l s (s.getD j z89) out).f0]) ++ tl).take j = out := by
        rw [List.append_assoc, List.take_append_of_le_length (by omega), List.take_of_length_le (by omega)]
      rw [h3]
      rw [List.append_assoc, List.getD_eq_getElem?_getD, List.getElem?_append_right (by omega), ho, Nat.sub_self]
      rfl
    · rw [e]
      exact asg_at l s d (i + 1) _ (by omega) (by simp; omega) j (by omega) h2
theorem fits_eq {s : List S89} {y : S89} {x : S52} : fitsB s y x = true ↔ y.f1 = 0 ∧ named s x.f0 = false ∧ x.f1 ≤ y.f0 ∧ y.f0 ≤ x.f2 := by
  refine ⟨fits_in, fun ⟨h1, h2, h3, h4⟩ => ?_⟩
  unfold fitsB
  rw [decide_eq_true h1, h2, decide_eq_true h3, decide_eq_true h4]
  rfl
theorem asc_le {s : List S89} (h : GoodS s) : ∀ (d i : Nat), i + d < s.length → (s.getD i z89).f0 ≤ (s.getD (i + d) z89).f0
  | 0, i, _ => Int.le_refl _
  | d + 1, i, hd => by
    have h1 := asc_le h d i (by omega)
    have h2 := h.asc (i + d) (by omega)
    rw [show i + (d + 1) = i + d + 1 by omega]
    omega
theorem swap_step (l : List S52) (s : List S89) (hl : GoodE l) (hs : GoodS s) (g t : List Int) (i : Nat) (hi : i < s.length) (hgl : g.length = s.length)
    (hg : g.getD i 0 = mx (s.getD i z89).f1 (bestB l s (s.getD i z89) (g.take i)).f0) (ht : isW l s t) (hp : ∀ p, p < i → t.getD p 0 = g.getD p 0) :
    ∃ t', isW l s t' ∧ (∀ p, p < i + 1 → t'.getD p 0 = g.getD p 0) ∧ cntB s t ≤ cntB s t' := by
  have hb := ex_bags hl.ok
  have hinj : ∀ x ∈ l, ∀ y ∈ l, x.f0 = y.f0 → x = y := fun x hx y hy e => by
    obtain ⟨p, hp, rfl⟩ := List.getElem_of_mem hx
    obtain ⟨q, hq, rfl⟩ := List.getElem_of_mem hy
    by_cases hpq : p = q
    · subst hpq; rfl
    · have := hl.inj p q hp hq hpq
      have e1 : l.getD p z52 = l[p] := by simp [hp]
      have e2 : l.getD q z52 = l[q] := by simp [hq]
      rw [e1, e2] at this
      exact absurd e this
  obtain ⟨htl, htw⟩ := ht
  have hmem : ∀ v, v ∈ g.take i ↔ ∃ p, p < i ∧ t.getD p 0 = v := fun v => by
    rw [mem_takeI g i v (by omega)]
    exact ⟨fun ⟨p, h1, h2⟩ => ⟨p, h1, by rw [hp p h1]; exact h2⟩, fun ⟨p, h1, h2⟩ => ⟨p, h1, by rw [← hp p h1]; exact h2⟩⟩
  have f1 := (hs.el i hi).2.2
  rcases best_ok l s (s.getD i z89) (g.take i) hb with ⟨hz, hno⟩ | ⟨hB, hok, hB1, hmin⟩
  · refine ⟨t, ⟨htl, htw⟩, fun p hpi => ?_, Int.le_refl _⟩
    by_cases e : p = i
    · subst e
      rw [hg, hz]
      have hm : mx (s.getD p z89).f1 0 = (s.getD p z89).f1 := by unfold mx; rw [if_neg (by omega)]
      rw [hm]
      rcases htw p hi with h | ⟨x, hx, hf, hv, hn⟩
      · exact h
      · have := hno x hx
        unfold okB at this
        rw [hf, decide_eq_false (fun h => by obtain ⟨q, hq, e⟩ := (hmem x.f0).1 h; exact hn q hq e)] at this
        cases this
    · exact hp p (by omega)
  · generalize bestB l s (s.getD i z89) (g.take i) = B at hg hB hok hB1 hmin
    unfold okB at hok
    rw [Bool.and_eq_true, Bool.not_eq_true', decide_eq_false_iff_not] at hok
    obtain ⟨hBf, hBn⟩ := hok
    obtain ⟨y0, hBnm, hBfrom, hBto⟩ := fits_in hBf
    have hgi : g.getD i 0 = B.f0 := by rw [hg, y0]; unfold mx; rw [if_pos (by omega)]
    have hBp : ∀ p, p < i → t.getD p 0 ≠ B.f0 := fun p h1 h2 => hBn ((hmem B.f0).2 ⟨p, h1, h2⟩)
    have hname : ∀ p, p < s.length → (s.getD p z89).f1 ≠ B.f0 := fun p h1 h2 => by
      have := named_at s p h1
      rw [h2, hBnm] at this
      cases this
    by_cases ha : t.getD i 0 = B.f0
    · refine ⟨t, ⟨htl, htw⟩, fun p hpi => ?_, Int.le_refl _⟩
      by_cases e : p = i
      · subst e; rw [ha, hgi]
      · exact hp p (by omega)
    · by_cases hlater : ∃ j, i < j ∧ j < s.length ∧ t.getD j 0 = B.f0
      · obtain ⟨j, hij, hj, hjv⟩ := hlater
        have gd : ∀ p, ((t.set i B.f0).set j (t.getD i 0)).getD p 0 = if j = p then t.getD i 0 else if i = p then B.f0 else t.getD p 0 := fun p => by
          rw [getD_setI _ _ _ _ (by simp; omega), getD_setI _ _ _ _ (by omega)]
        obtain ⟨xj, hxj, hfj, hvj, hnj⟩ := (htw j hj).resolve_left (fun h => hname j hj (by rw [← h, hjv]))
        have hxB : xj = B := hinj xj hxj B hB (by rw [← hvj, hjv])
        subst hxB
        have hfj' := fits_in hfj
        refine ⟨(t.set i xj.f0).set j (t.getD i 0), ⟨by simpa using htl, fun p hps => ?_⟩, fun p hpi => ?_, ?_⟩
        · rw [gd]
          by_cases e1 : j = p
          · subst e1
            rw [if_pos rfl]
            rcases htw i hi with h | ⟨x, hx, hf, hv, hn⟩
            · exact .inl (by rw [h, y0, hfj'.1])
            · have hfx := fits_in hf
              refine .inr ⟨x, hx, fits_eq.2 ⟨hfj'.1, hfx.2.1, ?_, ?_⟩, hv, fun q hq => ?_⟩
              · have := asc_le hs (j - i) i (by omega)
                rw [show i + (j - i) = j by omega] at this
                omega
              · have := hmin x hx (by
                  unfold okB
                  rw [hf, decide_eq_false (fun h => by obtain ⟨q, hq, e⟩ := (hmem x.f0).1 h; exact hn q hq e)]
                  rfl)
                omega
              · rw [gd, if_neg (by omega)]
                by_cases e2 : i = q
                · rw [if_pos e2]
                  intro e
                  exact ha (by rw [hv, e])
                · rw [if_neg e2]
                  by_cases hqi : q < i
                  · exact hn q hqi
                  · intro e
                    rcases htw q (by omega) with h | ⟨z, hz, hfz, hvz, hnz⟩
                    · have := named_at s q (by omega)
                      rw [← h, e, hfx.2.1] at this
                      cases this
                    · exact hnz i (by omega) (by rw [hv, ← e, hvz])
          · rw [if_neg e1]
            by_cases e2 : i = p
            · subst e2
              rw [if_pos rfl]
              exact .inr ⟨xj, hB, hBf, rfl, fun q hq => by rw [gd, if_neg (by omega), if_neg (by omega)]; exact hBp q hq⟩
            · rw [if_neg e2]
              rcases htw p hps with h | ⟨x, hx, hf, hv, hn⟩
              · exact .inl h
              · refine .inr ⟨x, hx, hf, hv, fun q hq => ?_⟩
                rw [gd]
                by_cases e3 : j = q
                · rw [if_pos e3]
                  exact hn i (by omega)
                · rw [if_neg e3]
                  by_cases e4 : i = q
                  · rw [if_pos e4]
                    intro e
                    by_cases hpj : p < j
                    · exact hnj p hpj (by rw [hv, ← e])
                    · exact hn j (by omega) (by rw [hjv, e])
                  · rw [if_neg e4]
                    exact hn q hq
        · rw [gd, if_neg (by omega)]
          by_cases e : i = p
          · rw [if_pos e, ← e, hgi]
          · rw [if_neg e]
            exact hp p (by omega)
        · rw [cntB_eq, cntB_eq]
          rw [cnt_at s t i s.length hi, cnt_at s ((t.set i xj.f0).set j (t.getD i 0)) i s.length hi]
          have c1 := cntR_congr s t ((t.set i xj.f0).set j (t.getD i 0)) i 0 (fun p _ h => by rw [gd, if_neg (by omega), if_neg (by omega)])
          have split : ∀ u : List Int, cntR s u (i + 1) (s.length - i - 1) = cntR s u (i + 1) (j - i - 1) + (if (s.getD j z89).f1 = 0 ∧ u.getD j 0 ≠ 0 then 1 else 0) + cntR s u (j + 1) (s.length - j - 1) := fun u => by
            have h1 := cntR_add s u (j - i - 1) (i + 1) (s.length - j)
            rw [show j - i - 1 + (s.length - j) = s.length - i - 1 by omega, show i + 1 + (j - i - 1) = j by omega] at h1
            have h2 := cntR_succ s u j (s.length - j - 1)
            rw [show s.length - j - 1 + 1 = s.length - j by omega] at h2
            omega
          rw [split t, split ((t.set i xj.f0).set j (t.getD i 0))]
          have c2 := cntR_congr s t ((t.set i xj.f0).set j (t.getD i 0)) (j - i - 1) (i + 1) (fun p _ h => by rw [gd, if_neg (by omega), if_neg (by omega)])
          have c3 := cntR_congr s t ((t.set i xj.f0).set j (t.getD i 0)) (s.length - j - 1) (j + 1) (fun p _ h => by rw [gd, if_neg (by omega), if_neg (by omega)])
          have d1 : (if (s.getD i z89).f1 = 0 ∧ ((t.set i xj.f0).set j (t.getD i 0)).getD i 0 ≠ 0 then (1 : Int) else 0) = 1 := if_pos ⟨y0, by rw [gd, if_neg (by omega), if_pos rfl]; omega⟩
          have d2 : (if (s.getD j z89).f1 = 0 ∧ t.getD j 0 ≠ 0 then (1 : Int) else 0) = 1 := if_pos ⟨hfj'.1, by rw [hjv]; omega⟩
          have d3 : (if (s.getD j z89).f1 = 0 ∧ ((t.set i xj.f0).set j (t.getD i 0)).getD j 0 ≠ 0 then (1 : Int) else 0) = (if (s.getD i z89).f1 = 0 ∧ t.getD i 0 ≠ 0 then (1 : Int) else 0) := by
            rw [gd, if_pos rfl, hfj'.1, y0]
          rw [d1, d2, d3]
          omega
      · have hlater : ∀ j, i < j → j < s.length → t.getD j 0 ≠ B.f0 := fun j h1 h2 h3 => hlater ⟨j, h1, h2, h3⟩
        have gd : ∀ p, (t.set i B.f0).getD p 0 = if i = p then B.f0 else t.getD p 0 := fun p => getD_setI _ _ _ _ (by omega)
        refine ⟨t.set i B.f0, ⟨by simpa using htl, fun p hps => ?_⟩, fun p hpi => ?_, ?_⟩
        · rw [gd]
          by_cases e2 : i = p
          · subst e2
            rw [if_pos rfl]
            exact .inr ⟨B, hB, hBf, rfl, fun q hq => by rw [gd, if_neg (by omega)]; exact hBp q hq⟩
          · rw [if_neg e2]
            rcases htw p hps with h | ⟨x, hx, hf, hv, hn⟩
            · exact .inl h
            · refine .inr ⟨x, hx, hf, hv, fun q hq => ?_⟩
              rw [gd]
              by_cases e4 : i = q
              · rw [if_pos e4]
                intro e
                exact hlater p (by omega) hps (by rw [hv, ← e])
              · rw [if_neg e4]
                exact hn q hq
        · rw [gd]
          by_cases e : i = p
          · rw [if_pos e, ← e, hgi]
          · rw [if_neg e]
            exact hp p (by omega)
        · rw [cntB_eq, cntB_eq]
          rw [cnt_at s t i s.length hi, cnt_at s (t.set i B.f0) i s.length hi]
          have c1 := cntR_congr s t (t.set i B.f0) i 0 (fun p _ h => by rw [gd, if_neg (by omega)])
          have c2 := cntR_congr s t (t.set i B.f0) (s.length - i - 1) (i + 1) (fun p _ h => by rw [gd, if_neg (by omega)])
          have d1 : (if (s.getD i z89).f1 = 0 ∧ (t.set i B.f0).getD i 0 ≠ 0 then (1 : Int) else 0) = 1 := if_pos ⟨y0, by rw [gd, if_pos rfl]; omega⟩
          rw [d1]
          split <;> omega
theorem greedy_max (l : List S52) (s : List S89) (hl : GoodE l) (hs : GoodS s) : assign l s ∈ waysL l s s.length [] ∧ cntB s (assign l s) = mostI l s := by
  have ea : assign l s = asg l s s [] := if_pos ⟨hl.ok, hs.ok⟩
  have hgl : (asg l s s []).length = s.length := by rw [asg_len]; simp
  have hat : ∀ j, j < s.length → (asg l s s []).getD j 0 = mx (s.getD j z89).f1 (bestB l s (s.getD j z89) ((asg l s s []).take j)).f0 := fun j hj => by
    have := asg_at l s s.length 0 [] (by omega) rfl j (Nat.zero_le _) hj
    rwa [List.drop_zero] at this
  obtain ⟨m1, ⟨t0, ht0, et0⟩, _⟩ := most_max l s
  have key : ∀ i, i ≤ s.length → ∃ t, isW l s t ∧ (∀ p, p < i → t.getD p 0 = (asg l s s []).getD p 0) ∧ cntB s t = mostI l s := by
    intro i
    induction i with
    | zero => exact fun _ => ⟨t0, (isW_iff l s t0).1 ht0, fun p h => by omega, et0⟩
    | succ i ih =>
      intro hi
      obtain ⟨t, h1, h2, h3⟩ := ih (by omega)
      obtain ⟨t', h4, h5, h6⟩ := swap_step l s hl hs (asg l s s []) t i (by omega) hgl (hat i (by omega)) h1 h2
      refine ⟨t', h4, h5, ?_⟩
      have := m1 t' ((isW_iff l s t').2 h4)
      omega
  obtain ⟨t, h1, h2, h3⟩ := key s.length (Nat.le_refl _)
  have e : t = asg l s s [] := by
    apply List.ext_getElem (by rw [h1.1, hgl])
    intro p hp1 hp2
    have := h2 p (by rw [← h1.1]; exact hp1)
    simpa [hp1, hp2] using this
  rw [ea, ← e]
  exact ⟨(isW_iff l s t).2 h1, h3⟩
end Go.Proofs.Ytdmbfmfdijgdkaa.Pu
