import Derived.Test.YtmonbofhfaaflaaZfBe
import Derived.Test.YtmonbofhfaaflaaZfPx14
namespace Go.Proofs.Ytmonbofhfaaflaa.Pu
open Go.RowKit Go.Proofs.Ytmonbofhfaaflaa.Px Go.Proofs.YtmonbofhfaaflaaW.PrintWords Go.Proofs.YtmonbofhfaaflaaW.PrintLast
set_option linter.unusedVariables false

/-- The waits of the levels that are left. -/
def waits (p : List Int) : Nat → Int → Int
  | 0, _ => 0
  | d + 1, lv => rd p (lv - 1) + waits p d (lv + 1)
theorem waits_in (p : List Int) (hp : polOk p = true) : ∀ (d : Nat) (lv : Int), lv + d = 4 → 1 ≤ lv → (d : Int) ≤ waits p d lv ∧ waits p d lv ≤ 5000 * d
  | 0, lv, _, _ => by simp [waits]
  | d + 1, lv, h1, h2 => by
    obtain ⟨w1, w2⟩ := pol_rd p hp (lv - 1) (by omega) (by omega)
    obtain ⟨i1, i2⟩ := waits_in p hp d (lv + 1) (by omega) (by omega)
    simp only [waits]
    omega
theorem el_four (p : List Int) (hp : polOk p = true) (now : Int) : ∀ (d : Nat) (lv si : Int), lv + d = 4 → 1 ≤ lv → ((elap p now 0 d lv si).1 = 4 ↔ d = 0 ∨ now - si > waits p d lv)
  | 0, lv, si, h1, h2 => by simp [elap]; omega
  | d + 1, lv, si, h1, h2 => by
    obtain ⟨w1, w2⟩ := pol_rd p hp (lv - 1) (by omega) (by omega)
    obtain ⟨i1, i2⟩ := waits_in p hp d (lv + 1) (by omega) (by omega)
    have ih := el_four p hp now d (lv + 1) (si + rd p (lv - 1)) (by omega) (by omega)
    simp only [elap, waits]
    by_cases hg : now - si > rd p (lv - 1)
    · rw [if_pos ⟨trivial, hg⟩, ih]
      constructor
      · rintro (rfl | h)
        · right
          simp only [waits]
          omega
        · right
          omega
      · rintro (h | h)
        · omega
        · by_cases hd : d = 0
          · exact .inl hd
          · right
            omega
    · rw [if_neg (fun h => hg h.2)]
      constructor
      · intro h
        simp at h
        omega
      · rintro (h | h)
        · omega
        · omega
/-- When the bag comes to the last level, if nobody decides. -/
def hour (p : List Int) (lv si : Int) : Int := if lv = 4 then si else si + 1 + waits p (4 - lv).toNat lv
theorem el_hour (p : List Int) (hp : polOk p = true) (lv si t : Int) (h1 : 1 ≤ lv) (h2 : lv ≤ 4) (h3 : si ≤ t) : (elap p t 0 (4 - lv).toNat lv si).1 = 4 ↔ hour p lv si ≤ t := by
  rw [el_four p hp t (4 - lv).toNat lv si (by omega) h1]
  unfold hour
  by_cases h : lv = 4
  · subst h
    simp
    omega
  · rw [if_neg h]
    omega
theorem hour_ge (p : List Int) (hp : polOk p = true) (lv si : Int) (h1 : 1 ≤ lv) (h2 : lv ≤ 4) : si ≤ hour p lv si ∧ hour p lv si ≤ si + 15001 := by
  unfold hour
  split
  · omega
  · have := waits_in p hp (4 - lv).toNat lv (by omega) h1
    omega
theorem elapse_live (p : List Int) (lv si v t : Int) (hp : polOk p = true) (hs : scOk lv si v = true) (ht : tick t = true) : elapse p lv si v t = elap p t v (4 - lv).toNat lv si := by
  unfold elapse
  rw [if_pos ⟨hp, hs, ht⟩]
theorem spec_ht_l (p : List Int) (lv si : Int) (hp : polOk p = true) (hs : scOk lv si 0 = true) : ∀ (d : Nat) (t : Int), t + d = 100001 → si ≤ t → t ≤ hour p lv si →
    Ev (fun k => spec_HandTime.l0 k t p lv si 0) (if hour p lv si > 100000 then (0, false) else (hour p lv si, true)) := by
  obtain ⟨a1, a2, a3, a4, _⟩ := sc_in hs
  intro d
  induction d with
  | zero =>
    intro t h1 h2 h3
    rw [if_pos (by omega)]
    refine Ev.step (f := fun _ => some (0, false)) (fun k => ?_) (Ev.now _)
    simp only [spec_HandTime.l0]
    rw [if_neg (by omega)]
  | succ d ih =>
    intro t h1 h2 h3
    have htk : tick t = true := by simp [tick]; omega
    have hel := spec_el_ev p lv si 0 t
    rw [elapse_live p lv si 0 t hp hs htk] at hel
    have h4 := el_hour p hp lv si t a1 a2 h2
    by_cases hh : hour p lv si ≤ t
    · have e : hour p lv si = t := by omega
      rw [if_neg (by omega), e]
      refine Ev.round (Lt.of hel) fun n e1 => ?_
      simp only [spec_HandTime.l0]
      rw [if_pos (by omega), e1]
      simp only [Option.bind_some]
      rw [if_pos (h4.2 hh)]
    · refine Ev.round ((Lt.of hel).and (Lt.of (ih (t + 1) (by omega) (by omega) (by omega)))) fun n ⟨e1, e2⟩ => ?_
      simp only [spec_HandTime.l0]
      rw [if_pos (by omega), e1]
      simp only [Option.bind_some]
      rw [if_neg (fun h => hh (h4.1 h)), wrap_in (by omega) (by omega)]
      exact e2
def handT (p : List Int) (lv si v : Int) : Int × Bool := if polOk p = true ∧ scOk lv si v = true ∧ v = 0 then (if hour p lv si > 100000 then (0, false) else (hour p lv si, true)) else (0, false)
theorem spec_ht_ev (p : List Int) (lv si v : Int) : Ev (fun k => spec_HandTime.f k p lv si v) (handT p lv si v) := by
  have hdead : Ev (fun k => spec_HandTime.j0 k true p lv si v) (0, false) := Ev.step (f := fun _ => some (0, false)) (fun k => by simp [spec_HandTime.j0]) (Ev.now _)
  unfold handT
  by_cases h : polOk p = true ∧ scOk lv si v = true ∧ v = 0
  · rw [if_pos h]
    obtain ⟨h1, h2, rfl⟩ := h
    obtain ⟨a1, a2, a3, a4, _⟩ := sc_in h2
    have hl := spec_ht_l p lv si h1 h2 (100001 - si).toNat si (by omega) (by omega) (hour_ge p h1 lv si a1 a2).1
    have hlive : Ev (fun k => spec_HandTime.j0 k false p lv si 0) (if hour p lv si > 100000 then (0, false) else (hour p lv si, true)) := Ev.step (fun k => by simp [spec_HandTime.j0]) hl
    refine Lt.ev ((Lt.of (spec_pol_ev p)).and (Lt.of hlive)) fun n ⟨e1, e2⟩ => ?_
    simp only [spec_HandTime.f, e1, Option.bind_some, screen_spec, h1, h2, if_pos]
    exact e2
  · rw [if_neg h]
    refine Lt.ev ((Lt.of (spec_pol_ev p)).and (Lt.of hdead)) fun n ⟨e1, e2⟩ => ?_
    simp only [spec_HandTime.f, e1, Option.bind_some, screen_spec]
    cases hp : polOk p with
    | false => simp [e2]
    | true =>
      cases hs : scOk lv si v with
      | false => simp [e2]
      | true =>
        have hv : (v != 0) = true := by
          have : v ≠ 0 := fun h' => h ⟨hp, hs, h'⟩
          simpa using this
        simp [hv, e2]
theorem impl_ht_l (xs : List Int) (hx : xs.all polAt = true) (hn : xs.length ≤ 3) : ∀ (d i : Nat) (o : Int), i + d = xs.length → 0 ≤ o → o ≤ 200000 + 5000 * i →
    Ev (fun k => impl_HandTime.l0 k o xs (xs.length : Int) (i : Int)) (if o + (xs.drop i).sum > 100000 then (0, false) else (o + (xs.drop i).sum, true)) := by
  intro d
  induction d with
  | zero =>
    intro i o hi h0 h1
    rw [List.drop_of_length_le (by omega)]
    simp only [List.sum_nil, Int.add_zero]
    refine Ev.step (f := fun _ => if o > 100000 then some (0, false) else some (o, true)) (fun k => ?_) ?_
    · simp only [impl_HandTime.l0]
      rw [if_neg (by omega)]
    · split
      · exact Ev.now _
      · exact Ev.now _
  | succ d ih =>
    intro i o hi h0 h1
    have hin := List.all_eq_true.1 hx (xs[i]'(by omega)) (List.getElem_mem _)
    have e0 := rd_nat xs i (by omega)
    rw [List.drop_eq_getElem_cons (show i < xs.length by omega), List.sum_cons]
    generalize hy : xs[i]'(by omega) = y at hin e0
    simp only [polAt, Bool.and_eq_true, decide_eq_true_eq] at hin
    rw [← Int.add_assoc]
    refine Ev.step (fun k => ?_) (ih (i + 1) (o + y) (by omega) (by omega) (by omega))
    simp only [impl_HandTime.l0, e0]
    rw [if_pos (by omega), if_pos (by omega), if_pos (by omega), wrap_in (x := o + y) (by omega) (by omega), wrap_in (x := (i : Int) + 1) (by omega) (by omega)]
    rfl
theorem waits_sum (p : List Int) (hp : polOk p = true) (lv : Int) (h1 : 1 ≤ lv) (h2 : lv ≤ 4) : (p.drop (lv - 1).toNat).sum = waits p (4 - lv).toNat lv := by
  have hl := pol_len p hp
  match p, hl with
  | [a, b, c], _ =>
    have hc : lv = 1 ∨ lv = 2 ∨ lv = 3 ∨ lv = 4 := by omega
    rcases hc with rfl | rfl | rfl | rfl
    · simp [waits, rd]
    · simp [waits, rd]
    · simp [waits, rd]
    · simp [waits]
theorem impl_ht_ev (p : List Int) (lv si v : Int) : Ev (fun k => impl_HandTime.f k p lv si v) (handT p lv si v) := by
  have hdead : Ev (fun k => impl_HandTime.j0 k true p lv si v) (0, false) := Ev.step (f := fun _ => some (0, false)) (fun k => by simp [impl_HandTime.j0]) (Ev.now _)
  unfold handT
  by_cases h : polOk p = true ∧ scOk lv si v = true ∧ v = 0
  · rw [if_pos h]
    obtain ⟨h1, h2, rfl⟩ := h
    obtain ⟨a1, a2, a3, a4, _⟩ := sc_in h2
    have hl := pol_len p h1
    have hall : (p.drop (lv - 1).toNat).all polAt = true := by
      simp only [polOk, Bool.and_eq_true] at h1
      rw [List.all_eq_true]
      intro x hx
      exact List.all_eq_true.1 h1.2 x (List.mem_of_mem_drop hx)
    have hj1 : ∀ o : Int, 0 ≤ o → o ≤ 200000 → Ev (fun k => impl_HandTime.j1 k o p lv si 0) (if o + waits p (4 - lv).toNat lv > 100000 then (0, false) else (o + waits p (4 - lv).toNat lv, true)) := by
      intro o ho0 ho1
      have hh := impl_ht_l (p.drop (lv - 1).toNat) hall (by simp; omega) (p.drop (lv - 1).toNat).length 0 o (by omega) ho0 (by omega)
      rw [List.drop_zero, waits_sum p h1 lv a1 a2] at hh
      refine Ev.step (fun k => ?_) hh
      simp only [impl_HandTime.j1]
      rw [wrap_in (x := lv - 1) (by omega) (by omega), if_pos (by omega), if_pos (by omega)]
      rfl
    have hlive : Ev (fun k => impl_HandTime.j0 k false p lv si 0) (if hour p lv si > 100000 then (0, false) else (hour p lv si, true)) := by
      unfold hour
      by_cases h4 : lv = 4
      · subst h4
        have hh := hj1 si a3 (by omega)
        rw [show waits p (4 - 4 : Int).toNat 4 = 0 from rfl, Int.add_zero] at hh
        rw [if_pos (rfl : (4 : Int) = 4)]
        refine Ev.step (fun k => ?_) hh
        simp only [impl_HandTime.j0]
        rw [if_neg (by simp), if_neg (by omega)]
      · rw [if_neg h4]
        refine Ev.step (fun k => ?_) (hj1 (si + 1) (by omega) (by omega))
        simp only [impl_HandTime.j0]
        rw [if_neg (by simp), if_pos (by omega), wrap_in (x := si + 1) (by omega) (by omega)]
    refine Lt.ev (Lt.of hlive) fun n e2 => ?_
    simp only [impl_HandTime.f, impl_pol, Option.bind_some, screen_impl, h1, h2, if_pos]
    exact e2
  · rw [if_neg h]
    refine Lt.ev (Lt.of hdead) fun n e2 => ?_
    simp only [impl_HandTime.f, impl_pol, Option.bind_some, screen_impl]
    cases hp : polOk p with
    | false => simp [e2]
    | true =>
      cases hs : scOk lv si v with
      | false => simp [e2]
      | true =>
        have hv : (v != 0) = true := by
          have : v ≠ 0 := fun h' => h ⟨hp, hs, h'⟩
          simpa using this
        simp [hv, e2]
end Go.Proofs.Ytmonbofhfaaflaa.Pu
