import Derived.Test.YtdmbfmfdijgdkaaZvMs
import Derived.Test.YtdmbfmfdijgdkaaZvPx6
import Derived.Test.YtdmbfmfdijgdkaaZvPx16
namespace Go.Proofs.Ytdmbfmfdijgdkaa.Pu
open Go.RowKit Go.Proofs.Ytdmbfmfdijgdkaa.Px Go.Proofs.YtdmbfmfdijgdkaaW.PrintWords Go.Proofs.YtdmbfmfdijgdkaaW.PrintLast Go.Proofs.YtdmbfmfdijgdkaaW.PrintMore
set_option linter.unusedVariables false
structure GoodE (l : List S52) : Prop where
  len : l.length ≤ 6
  el : ∀ j, j < l.length → 1 ≤ (l.getD j z52).f0 ∧ 0 ≤ (l.getD j z52).f1 ∧ (l.getD j z52).f1 ≤ (l.getD j z52).f2 ∧ (l.getD j z52).f2 ≤ 100000
  inj : ∀ i j, i < l.length → j < l.length → i ≠ j → (l.getD i z52).f0 ≠ (l.getD j z52).f0
theorem GoodE.ok {l : List S52} (h : GoodE l) : exOk l = true := by
  unfold exOk
  rw [Bool.and_eq_true, decide_eq_true_eq]
  refine ⟨(allF_iff _ _ _).2 (fun j _ hj => ?_), h.len⟩
  obtain ⟨h1, h2, h3, h4⟩ := h.el j (by omega)
  unfold exAt
  simp only [Bool.and_eq_true, decide_eq_true_eq]
  refine ⟨⟨⟨⟨h1, h2⟩, h3⟩, h4⟩, (allF_iff _ _ _).2 (fun k _ hk => ?_)⟩
  have := h.inj k j (by omega) (by omega) (by omega)
  simpa using this
theorem getD_set52 (l : List S52) (i j : Nat) (x : S52) (hi : i < l.length) : (l.set i x).getD j z52 = if i = j then x else l.getD j z52 := by
  simp only [List.getD_eq_getElem?_getD, List.getElem?_set]
  by_cases e : i = j
  · subst e
    rw [if_pos rfl, if_pos hi, if_pos rfl]
    rfl
  · rw [if_neg e, if_neg e]
theorem getD_snoc52 (l : List S52) (j : Nat) (x : S52) : (l ++ [x]).getD j z52 = if j < l.length then l.getD j z52 else if j = l.length then x else z52 := by
  simp only [List.getD_eq_getElem?_getD, List.getElem?_append]
  by_cases h : j < l.length
  · rw [if_pos h, if_pos h]
  · rw [if_neg h, if_neg h]
    by_cases e : j = l.length
    · subst e; simp
    · rw [if_neg e]
      obtain ⟨d, hd⟩ : ∃ d, j - l.length = d + 1 := ⟨j - l.length - 1, by omega⟩
      rw [hd]
      rfl
theorem swap_good {l : List S52} (h : GoodE l) (h1 : 1 < l.length) : GoodE ((l.set 0 (l.getD (l.length - 1) z52)).set (l.length - 1) (l.getD 0 z52)) := by
  have e : ∀ j, ((l.set 0 (l.getD (l.length - 1) z52)).set (l.length - 1) (l.getD 0 z52)).getD j z52 = l.getD (if l.length - 1 = j then 0 else if 0 = j then l.length - 1 else j) z52 := fun j => by
    rw [getD_set52 _ _ _ _ (by simp; omega), getD_set52 _ _ _ _ (by omega)]
    split
    · rfl
    · split <;> rfl
  refine ⟨by simpa using h.len, fun j hj => ?_, fun i j hi hj hne => ?_⟩
  · rw [e]
    simp only [List.length_set] at hj
    exact h.el _ (by split; omega; split <;> omega)
  · rw [e, e]
    simp only [List.length_set] at hi hj
    refine h.inj _ _ ?_ ?_ ?_
    · split; omega; split <;> omega
    · split; omega; split <;> omega
    · repeat' split
      all_goals omega
theorem expects_ok_l (b : List Int) : ∀ (d : Nat) (l : List S52) (i h : Int), Cur b i → l.length + d ≤ 6 →
    (∀ j, j < l.length → 1 + 3 * (j : Int) ≤ (l.getD j z52).f0 ∧ (l.getD j z52).f0 ≤ 3 + 3 * (j : Int) ∧ 0 ≤ (l.getD j z52).f1 ∧ (l.getD j z52).f1 ≤ (l.getD j z52).f2 ∧ (l.getD j z52).f2 ≤ 100) →
    ∃ l' i' h', Ev (fun k => spec_l03Expects.l0 k l (d : Int) b i h) (l', i', h') ∧ Cur b i' ∧ GoodE l' := by
  intro d
  induction d with
  | zero =>
    intro l i h c hl hg
    have hG : GoodE l := ⟨by omega, fun j hj => by have := hg j hj; omega, fun p q hp hq hne => by
      have h1 := hg p hp
      have h2 := hg q hq
      omega⟩
    by_cases h1 : (l.length : Int) > 1
    · obtain ⟨x, i1, h1', e1, c1⟩ := once_ok b i h c 2
      cases x with
      | true =>
        have en : ((l.length : Int) - 1) = ((l.length - 1 : Nat) : Int) := by omega
        have hs := swap_good hG (by omega)
        refine ⟨_, i1, h1', Ev.step (f := fun _ => some ((l.set 0 (l.getD (l.length - 1) z52)).set (l.length - 1) (l.getD 0 z52), i1, h1')) (fun k => ?_) (Ev.now _), c1, hs⟩
        simp only [spec_l03Expects.l0, e1, Option.bind_some]
        rw [if_neg (by omega), if_pos h1, if_pos trivial, if_pos (by omega), wrap_in (x := (l.length : Int) - 1) (by omega) (by omega), if_pos (by omega), if_pos (by omega), en, rd52_getD, Int.toNat_natCast]
        have e0 : rd_T52 l 0 = l.getD 0 z52 := rd52_getD l 0
        rw [e0]
        rfl
      | false =>
        refine ⟨l, i1, h1', Ev.step (f := fun _ => some (l, i1, h1')) (fun k => ?_) (Ev.now _), c1, hG⟩
        simp only [spec_l03Expects.l0, e1, Option.bind_some]
        rw [if_neg (by omega), if_pos h1, if_neg (by simp)]
    · refine ⟨l, i, h, Ev.step (f := fun _ => some (l, i, h)) (fun k => ?_) (Ev.now _), c, hG⟩
      simp only [spec_l03Expects.l0]
      rw [if_neg (by omega), if_neg h1]
  | succ d ih =>
    intro l i h c hl hg
    obtain ⟨x1, i1, h1, e1, p1, q1, _, c1⟩ := below_ok b i h c 20
    obtain ⟨x2, i2, h2, e2, p2, q2, _, c2⟩ := below_ok b i1 h1 c1 3
    obtain ⟨x3, i3, h3, e3, m3, c3⟩ := pick_ok b i2 h2 c2 [0, 1, 2, 3, 5, 9, 14] (by simp) (by simp)
    have q1 := q1 (by omega)
    have q2 := q2 (by omega)
    have b3 : 0 ≤ x3 ∧ x3 ≤ 14 := by
      simp only [List.mem_cons, List.not_mem_nil, or_false] at m3
      omega
    have w1 : wrap64 ((wrap64 (1 + (wrap64 (3 * (l.length : Int))))) + x2) = 1 + 3 * (l.length : Int) + x2 := by unfold wrap64; omega
    have w2 : wrap64 (x1 + x3) = x1 + x3 := by unfold wrap64; omega
    obtain ⟨l', i', h', a1, a2, a3⟩ := ih (l ++ [(⟨1 + 3 * (l.length : Int) + x2, x1, x1 + x3⟩ : S52)]) i3 h3 c3 (by simp; omega) (fun j hj => by
      rw [getD_snoc52]
      rw [List.length_append, List.length_singleton] at hj
      by_cases hjl : j < l.length
      · rw [if_pos hjl]; exact hg j hjl
      · rw [if_neg hjl, if_pos (by omega)]
        simp only
        omega)
    refine ⟨l', i', h', Ev.step (fun k => ?_) a1, a2, a3⟩
    simp only [spec_l03Expects.l0, e1, e2, e3, Option.bind_some, w1, w2]
    rw [if_pos (by omega), if_pos (by omega), wrap_in (x := ((d + 1 : Nat) : Int) - 1) (by omega) (by omega), show ((d + 1 : Nat) : Int) - 1 = (d : Int) by omega]
theorem expects_ok (b : List Int) (i h : Int) (c : Cur b i) : ∃ l' i' h', Ev (fun k => spec_l03Expects.f k b i h) (l', i', h') ∧ Cur b i' ∧ GoodE l' := by
  obtain ⟨x, i1, h1, e1, p0, p1, _, c1⟩ := below_ok b i h c 6
  have p2 := p1 (by omega)
  obtain ⟨l', i', h', a1, a2⟩ := expects_ok_l b x.toNat [] i1 h1 c1 (by simp; omega) (fun j hj => by simp at hj)
  refine ⟨l', i', h', Ev.congr (fun k => ?_) a1, a2⟩
  simp only [spec_l03Expects.f, e1, Option.bind_some]
  rw [Int.toNat_of_nonneg p0]
structure GoodS (s : List S89) : Prop where
  len : s.length ≤ 6
  el : ∀ j, j < s.length → 0 ≤ (s.getD j z89).f0 ∧ (s.getD j z89).f0 ≤ 100000 ∧ 0 ≤ (s.getD j z89).f1
  asc : ∀ j, j + 1 < s.length → (s.getD j z89).f0 ≤ (s.getD (j + 1) z89).f0
  inj : ∀ i j, i < j → j < s.length → (s.getD j z89).f1 = 0 ∨ (s.getD i z89).f1 ≠ (s.getD j z89).f1
theorem GoodS.ok {l : List S89} (h : GoodS l) : sgOk l = true := by
  unfold sgOk
  rw [Bool.and_eq_true, decide_eq_true_eq]
  refine ⟨(allF_iff _ _ _).2 (fun j _ hj => ?_), h.len⟩
  obtain ⟨h1, h2, h3⟩ := h.el j (by omega)
  unfold sgAt
  simp only [Bool.and_eq_true, Bool.or_eq_true, decide_eq_true_eq]
  refine ⟨⟨⟨⟨h1, h2⟩, h3⟩, ?_⟩, ?_⟩
  · by_cases e : j = 0
    · exact .inl e
    · have := h.asc (j - 1) (by omega)
      rw [show j - 1 + 1 = j by omega] at this
      exact .inr this
  · by_cases e : (l.getD j z89).f1 = 0
    · exact .inl e
    · refine .inr ((allF_iff _ _ _).2 (fun k _ hk => ?_))
      have := (h.inj k j (by omega) (by omega)).resolve_left e
      simpa using this
theorem getD_snoc89 (l : List S89) (j : Nat) (x : S89) : (l ++ [x]).getD j z89 = if j < l.length then l.getD j z89 else if j = l.length then x else z89 := by
  simp only [List.getD_eq_getElem?_getD, List.getElem?_append]
  by_cases h : j < l.length
  · rw [if_pos h, if_pos h]
  · rw [if_neg h, if_neg h]
    by_cases e : j = l.length
    · subst e; simp
    · rw [if_neg e]
      obtain ⟨d, hd⟩ : ∃ d, j - l.length = d + 1 := ⟨j - l.length - 1, by omega⟩
      rw [hd]
      rfl
structure SoS (l : List S89) (t : Int) : Prop where
  t0 : 0 ≤ t
  t1 : t ≤ 7 + 6 * (l.length : Int)
  el : ∀ j, j < l.length → 0 ≤ (l.getD j z89).f0 ∧ (l.getD j z89).f0 ≤ t ∧ ((l.getD j z89).f1 = 0 ∨ 1 + 3 * (j : Int) ≤ (l.getD j z89).f1 ∧ (l.getD j z89).f1 ≤ 3 + 3 * (j : Int))
  asc : ∀ j, j + 1 < l.length → (l.getD j z89).f0 ≤ (l.getD (j + 1) z89).f0
theorem SoS.snoc {l : List S89} {t x : Int} (h : SoS l t) (hx : 0 ≤ x ∧ x ≤ 6) (b : Int) (hb : b = 0 ∨ 1 + 3 * (l.length : Int) ≤ b ∧ b ≤ 3 + 3 * (l.length : Int)) : SoS (l ++ [⟨t, b⟩]) (t + x) := by
  have hl : (l ++ [(⟨t, b⟩ : S89)]).length = l.length + 1 := by simp
  refine ⟨by have := h.t0; omega, by have := h.t1; rw [hl]; omega, fun j hj => ?_, fun j hj => ?_⟩
  · rw [getD_snoc89]
    rw [hl] at hj
    by_cases hjl : j < l.length
    · rw [if_pos hjl]
      have := h.el j hjl
      omega
    · have e : j = l.length := by omega
      subst e
      rw [if_neg hjl, if_pos rfl]
      have := h.t0
      refine ⟨this, by simp only; omega, hb⟩
  · rw [getD_snoc89, getD_snoc89]
    rw [hl] at hj
    rw [if_pos (by omega)]
    by_cases hjl : j + 1 < l.length
    · rw [if_pos hjl]; exact h.asc j hjl
    · rw [if_neg hjl, if_pos (by omega)]
      exact (h.el j (by omega)).2.1
theorem sights_ok_l (b : List Int) : ∀ (d : Nat) (l : List S89) (t i h : Int), Cur b i → l.length + d ≤ 6 → SoS l t → ∃ l' i' h', Ev (fun k => spec_l03Sights.l0 k l t (d : Int) b i h) (l', i', h') ∧ Cur b i' ∧ GoodS l' := by
  intro d
  induction d with
  | zero =>
    intro l t i h c hl hs
    refine ⟨l, i, h, Ev.step (f := fun _ => some (l, i, h)) (fun k => ?_) (Ev.now _), c, ⟨by omega, fun j hj => ?_, hs.asc, fun p q hpq hq => ?_⟩⟩
    · simp only [spec_l03Sights.l0]
      rw [if_neg (by omega)]
    · have := hs.el j hj
      have := hs.t1
      omega
    · have h1 := hs.el p (by omega)
      have h2 := hs.el q hq
      omega
  | succ d ih =>
    intro l t i h c hl hs
    have ht0 := hs.t0
    have ht1 := hs.t1
    obtain ⟨x, i1, h1, e1, c1⟩ := once_ok b i h c 4
    cases x with
    | true =>
      obtain ⟨x2, i2, h2, e2, p2, q2, _, c2⟩ := below_ok b i1 h1 c1 3
      obtain ⟨x3, i3, h3, e3, m3, c3⟩ := pick_ok b i2 h2 c2 [0, 0, 1, 2, 3, 6] (by simp) (by simp)
      have q2 := q2 (by omega)
      have b3 : 0 ≤ x3 ∧ x3 ≤ 6 := by
        simp only [List.mem_cons, List.not_mem_nil, or_false] at m3
        omega
      have w1 : wrap64 ((wrap64 ((wrap64 (3 * (l.length : Int))) + 1)) + x2) = 3 * (l.length : Int) + 1 + x2 := by unfold wrap64; omega
      have w2 : wrap64 (t + x3) = t + x3 := by unfold wrap64; omega
      obtain ⟨l', i', h', a1, a2, a3⟩ := ih (l ++ [(⟨t, 3 * (l.length : Int) + 1 + x2⟩ : S89)]) (t + x3) i3 h3 c3 (by simp; omega) (hs.snoc b3 _ (.inr (by omega)))
      refine ⟨l', i', h', Ev.step (fun k => ?_) a1, a2, a3⟩
      simp only [spec_l03Sights.l0, e1, e2, e3, Option.bind_some, w1, w2]
      rw [if_pos (by omega), if_pos trivial, if_pos (by omega), wrap_in (x := ((d + 1 : Nat) : Int) - 1) (by omega) (by omega), show ((d + 1 : Nat) : Int) - 1 = (d : Int) by omega]
    | false =>
      obtain ⟨x3, i3, h3, e3, m3, c3⟩ := pick_ok b i1 h1 c1 [0, 0, 1, 2, 3, 6] (by simp) (by simp)
      have b3 : 0 ≤ x3 ∧ x3 ≤ 6 := by
        simp only [List.mem_cons, List.not_mem_nil, or_false] at m3
        omega
      have w2 : wrap64 (t + x3) = t + x3 := by unfold wrap64; omega
      obtain ⟨l', i', h', a1, a2, a3⟩ := ih (l ++ [(⟨t, 0⟩ : S89)]) (t + x3) i3 h3 c3 (by simp; omega) (hs.snoc b3 _ (.inl rfl))
      refine ⟨l', i', h', Ev.step (fun k => ?_) a1, a2, a3⟩
      simp only [spec_l03Sights.l0, e1, e3, Option.bind_some, w2]
      rw [if_pos (by omega), if_neg (by simp), if_pos (by omega), wrap_in (x := ((d + 1 : Nat) : Int) - 1) (by omega) (by omega), show ((d + 1 : Nat) : Int) - 1 = (d : Int) by omega]
theorem sights_ok (b : List Int) (i h : Int) (c : Cur b i) : ∃ l' i' h', Ev (fun k => spec_l03Sights.f k b i h) (l', i', h') ∧ Cur b i' ∧ GoodS l' := by
  obtain ⟨t, i0, h0, e0, p, q, _, c0⟩ := below_ok b i h c 8
  have q := q (by omega)
  obtain ⟨x, i1, h1, e1, p0, p1, _, c1⟩ := below_ok b i0 h0 c0 6
  have p2 := p1 (by omega)
  obtain ⟨l', i', h', a1, a2⟩ := sights_ok_l b x.toNat [] t i1 h1 c1 (by simp; omega) ⟨p, by simp; omega, fun j hj => by simp at hj, fun j hj => by simp at hj⟩
  refine ⟨l', i', h', Ev.congr (fun k => ?_) a1, a2⟩
  simp only [spec_l03Sights.f, e0, e1, Option.bind_some]
  rw [Int.toNat_of_nonneg p0]
end Go.Proofs.Ytdmbfmfdijgdkaa.Pu
