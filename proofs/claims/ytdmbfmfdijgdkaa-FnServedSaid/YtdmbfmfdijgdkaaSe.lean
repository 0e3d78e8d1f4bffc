/- What is served: each image in its time, no more at once than there are operators. -/
import Derived.Test.YtdmbfmfdijgdkaaLs
import Derived.Test.YtdmbfmfdijgdkaaDi
import Derived.Test.YtdmbfmfdijgdkaaPx11
namespace Go.Proofs.Ytdmbfmfdijgdkaa.Pu
open Go.RowKit Go.Proofs.Ytdmbfmfdijgdkaa.Px Go.Proofs.YtdmbfmfdijgdkaaW.PrintWords Go.Proofs.YtdmbfmfdijgdkaaW.PrintLast Go.Proofs.YtdmbfmfdijgdkaaW.PrintMore
set_option linter.unusedVariables false

theorem same_l (l : List Int) (hn : l.length ≤ 1000) : ∀ (d i : Nat), i + d = l.length → Ev (fun k => laws_sameInts.l0 k l l (i : Int)) true := by
  intro d
  induction d with
  | zero =>
    intro i hi
    refine Ev.step (f := fun _ => some true) (fun k => ?_) (Ev.now _)
    simp only [laws_sameInts.l0]
    rw [if_neg (by omega)]
  | succ d ih =>
    intro i hi
    refine Ev.step (f := fun k => laws_sameInts.l0 k l l ((i + 1 : Nat) : Int)) (fun k => ?_) (ih (i + 1) (by omega))
    simp only [laws_sameInts.l0]
    rw [if_pos (by omega), if_pos (by omega), if_pos (by omega), wrap_in (by omega) (by omega)]
    simp
theorem same_ev (l : List Int) (hn : l.length ≤ 1000) : Ev (fun k => laws_sameInts.f k l l) true := by
  refine Ev.congr (f := fun k => laws_sameInts.l0 k l l ((0 : Nat) : Int)) (fun k => ?_) (same_l l hn l.length 0 (by omega))
  simp only [laws_sameInts.f]
  simp
theorem any_l (b : List Int) : ∀ (d : Nat) (l : List S41) (i h : Int), Cur b i → l.length + d = 17 → ∃ l' i' h', Ev (fun k => spec_l04AnyImages.l0 k l b i h) (l', i', h') ∧ Cur b i' ∧ l'.length ≤ 17 := by
  intro d
  induction d with
  | zero =>
    intro l i h c hl
    obtain ⟨x, i1, h1, e1, p0, p1, _, c1⟩ := below_ok b i h c 2
    have p2 := p1 (by omega)
    refine ⟨l, i1, h1, Ev.step (f := fun _ => some (l, i1, h1)) (fun k => ?_) (Ev.now _), c1, by omega⟩
    simp only [spec_l04AnyImages.l0, e1, Option.bind_some]
    rw [wrap_in (by omega) (by omega), if_neg (by omega)]
  | succ d ih =>
    intro l i h c hl
    obtain ⟨x, i1, h1, e1, p0, p1, _, c1⟩ := below_ok b i h c 2
    have p2 := p1 (by omega)
    by_cases hg : (l.length : Int) < 16 + x
    · obtain ⟨l', i', h', a1, a2, a3⟩ := ih (l ++ [(⟨90, 3⟩ : S41)]) i1 h1 c1 (by simp; omega)
      refine ⟨l', i', h', Ev.step (fun k => ?_) a1, a2, a3⟩
      simp only [spec_l04AnyImages.l0, e1, Option.bind_some]
      rw [wrap_in (by omega) (by omega), if_pos hg, if_pos (by omega)]
    · refine ⟨l, i1, h1, Ev.step (f := fun _ => some (l, i1, h1)) (fun k => ?_) (Ev.now _), c1, by omega⟩
      simp only [spec_l04AnyImages.l0, e1, Option.bind_some]
      rw [wrap_in (by omega) (by omega), if_neg hg]
theorem any_ev (b : List Int) (i h : Int) (c : Cur b i) : ∃ l' i' h', Ev (fun k => spec_l04AnyImages.f k b i h) (l', i', h') ∧ Cur b i' ∧ l'.length ≤ 17 := by
  obtain ⟨l, i1, h1, e1, c1, l1, l2⟩ := images_ev b i h c
  obtain ⟨x, i2, h2, e2, p0, p1, _, c2⟩ := below_ok b i1 h1 c1 16
  by_cases x0 : x = 0
  · by_cases hl : (l.length : Int) > 0
    · obtain ⟨y, i3, h3, e3, m3, c3⟩ := pick_ok b i2 h2 c2 [-1, 100000, 3] (by simp) (by simp)
      refine ⟨l.set (0 : Int).toNat (⟨y, (rd_T41 l 0).f1⟩ : S41), i3, h3, Lt.ev (Lt.of e1) fun k q1 => ?_, c3, ?_⟩
      · simp only [spec_l04AnyImages.f, q1, e2, e3, Option.bind_some]
        rw [if_pos x0, if_pos hl, if_pos (by omega)]
      · simp; omega
    · refine ⟨l, i2, h2, Lt.ev (Lt.of e1) fun k q1 => ?_, c2, by omega⟩
      simp only [spec_l04AnyImages.f, q1, e2, Option.bind_some]
      rw [if_pos x0, if_neg hl]
  · by_cases x1 : x = 1
    · by_cases hl : (l.length : Int) > 0
      · obtain ⟨y, i3, h3, e3, m3, c3⟩ := pick_ok b i2 h2 c2 [0, 5000, 5001] (by simp) (by simp)
        refine ⟨l.set ((l.length : Int) - 1).toNat (⟨(rd_T41 l ((l.length : Int) - 1)).f0, y⟩ : S41), i3, h3, Lt.ev (Lt.of e1) fun k q1 => ?_, c3, ?_⟩
        · simp only [spec_l04AnyImages.f, q1, e2, e3, Option.bind_some]
          rw [if_neg x0, if_pos x1, if_pos hl, wrap_in (x := (l.length : Int) - 1) (by omega) (by omega), if_pos (by omega), if_pos (by omega)]
        · simp; omega
      · refine ⟨l, i2, h2, Lt.ev (Lt.of e1) fun k q1 => ?_, c2, by omega⟩
        simp only [spec_l04AnyImages.f, q1, e2, Option.bind_some]
        rw [if_neg x0, if_pos x1, if_neg hl]
    · by_cases x2 : x = 2
      · obtain ⟨l', i3, h3, e3, c3, l3⟩ := any_l b (17 - l.length) l i2 h2 c2 (by omega)
        refine ⟨l', i3, h3, Lt.ev ((Lt.of e1).and (Lt.of e3)) fun k ⟨q1, q3⟩ => ?_, c3, l3⟩
        simp only [spec_l04AnyImages.f, q1, e2, Option.bind_some]
        rw [if_neg x0, if_neg x1, if_pos x2]
        exact q3
      · refine ⟨l, i2, h2, Lt.ev (Lt.of e1) fun k q1 => ?_, c2, by omega⟩
        simp only [spec_l04AnyImages.f, q1, e2, Option.bind_some]
        rw [if_neg x0, if_neg x1, if_neg x2]
theorem draw_serve_ev (b : List Int) (hb : b.length ≤ 1048576) : ∃ l w n, Ev (fun k => spec_DrawServe.f k b) (l, w, n) ∧ l.length ≤ 17 := by
  obtain ⟨h', hn, c⟩ := new_ev b hb
  obtain ⟨l, i1, h1, e1, c1, l1⟩ := any_ev b 0 h' c
  obtain ⟨w, i2, h2, e2, m2, c2⟩ := pick_ok b i1 h1 c1 [0, 0, 1, 2, 4, 9, 5000, (-1), 5001] (by simp) (by simp)
  obtain ⟨n, i3, h3, e3, m3, c3⟩ := pick_ok b i2 h2 c2 [1, 1, 2, 2, 3, 4, 16, 0, 17] (by simp) (by simp)
  refine ⟨l, w, n, Lt.ev ((Lt.of hn).and (Lt.of e1)) fun k ⟨q1, q2⟩ => ?_, l1⟩
  simp only [spec_DrawServe.f, spec_l04Wait.f, spec_l04Staff.f, q1, q2, e2, e3, Option.bind_some]
/-- When each begins. -/
theorem sv_in (w : Int) : ∀ (l : List S41) (f : List Int) (j : Nat), j < l.length → (sv w l f).getD j 0 = -1 ∨ (l.getD j z41).f0 ≤ (sv w l f).getD j 0 ∧ (sv w l f).getD j 0 ≤ (l.getD j z41).f0 + w
  | [], f, j, h => by simp at h
  | x :: r, f, 0, h => by
    simp only [sv]
    have hb : x.f0 ≤ bg f x := by unfold bg mx; split <;> omega
    split
    · exact .inl rfl
    · right
      simp only [List.getD_cons_zero]
      omega
  | x :: r, f, j + 1, h => by
    simp only [sv]
    simp only [List.length_cons] at h
    split
    · simpa using sv_in w r f j (by omega)
    · simpa using sv_in w r (f.set (who f) (bg f x + x.f1)) j (by omega)
/-- How many are looked at when it is t. -/
def busy (t : Int) : List S41 → List Int → Nat
  | x :: r, o :: os => (if 0 ≤ o ∧ o ≤ t ∧ t < o + x.f1 then 1 else 0) + busy t r os
  | _, _ => 0
def past (f : List Int) (t : Int) : Nat := f.countP (fun x => decide (t < x))
theorem past_set (f : List Int) (i : Nat) (h : i < f.length) (v t : Int) : (past (f.set i v) t : Int) = past f t - (if t < f.getD i 0 then 1 else 0) + (if t < v then 1 else 0) := by
  have he : f.getD i 0 = f[i] := by simp [h]
  unfold past
  rw [List.countP_set h, he]
  have hpos : t < f[i] → 0 < f.countP (fun x => decide (t < x)) := fun hh => List.countP_pos_iff.2 ⟨f[i], List.getElem_mem h, by simpa using hh⟩
  by_cases a : t < f[i] <;> by_cases b : t < v <;> simp only [a, b, decide_true, decide_false, if_true, if_false, Bool.false_eq_true] <;> (try have := hpos a) <;> omega
theorem busy_le (w t : Int) : ∀ (l : List S41) (f : List Int), (∀ x ∈ l, inr x) → 0 < f.length → busy t l (sv w l f) + past f t ≤ f.length
  | [], f, _, _ => by
    simp only [busy, Nat.zero_add]
    exact List.countP_le_length
  | x :: r, f, hx, hf => by
    obtain ⟨x0, x1, x2, x3⟩ := hx x (by simp)
    have hb : x.f0 ≤ bg f x ∧ f.getD (who f) 0 ≤ bg f x := by unfold bg mx; split <;> omega
    simp only [sv]
    split
    · simp only [busy]
      rw [if_neg (by omega)]
      have := busy_le w t r f (fun y hy => hx y (by simp [hy])) hf
      omega
    · simp only [busy]
      have := busy_le w t r (f.set (who f) (bg f x + x.f1)) (fun y hy => hx y (by simp [hy])) (by simpa using hf)
      rw [List.length_set] at this
      have c := past_set f (who f) (who_ok f hf).1 (bg f x + x.f1) t
      by_cases h1 : 0 ≤ bg f x ∧ bg f x ≤ t ∧ t < bg f x + x.f1
      · rw [if_pos h1]
        rw [if_neg (by omega), if_pos h1.2.2] at c
        omega
      · rw [if_neg h1]
        by_cases h2 : t < f.getD (who f) 0
        · rw [if_pos h2, if_pos (by omega)] at c
          omega
        · rw [if_neg h2] at c
          have : 0 ≤ (if t < bg f x + x.f1 then (1 : Int) else 0) := by split <;> omega
          omega
end Go.Proofs.Ytdmbfmfdijgdkaa.Pu
