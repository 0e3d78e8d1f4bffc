import Derived.Test.YtheckjlldkkceaaZnDr
import Derived.Test.YtheckjlldkkceaaZnPt
import Derived.Test.YtheckjlldkkceaaZnPx23
import Derived.Test.YtheckjlldkkceaaZnPx24
import Derived.Test.YtheckjlldkkceaaZnPx0
import Derived.Test.YtheckjlldkkceaaZnPx41
namespace Go.Proofs.Ytheckjlldkkceaa.Pu
open Go.RowKit Go.Proofs.Ytheckjlldkkceaa.Px Go.Proofs.YtheckjlldkkceaaW.PrintWords Go.Proofs.YtheckjlldkkceaaW.PrintLast Go.Proofs.YtheckjlldkkceaaW.PrintMore
set_option linter.unusedVariables false
theorem lane_len (l : List (List S30)) (i : Nat) (h : i < l.length) : l[i].length ≤ l.flatten.length := by
  have e1 : l = l.take i ++ l[i] :: l.drop (i + 1) := by rw [← List.drop_eq_getElem_cons h, List.take_append_drop]
  have e3 := congrArg (fun z => z.flatten.length) e1
  simp only [List.flatten_append, List.flatten_cons, List.length_append] at e3
  omega
theorem small_l1 (b : List Int) (a : Int) : ∀ (d : Nat) (x : Nat) (l : List (List S30)) (i h : Int), x + d = 6 → 1 ≤ x → Cur b i → 2 ≤ l.length → l.length ≤ 4 → l.flatten.length + 1 ≤ x →
    ∃ l' i' h', Ev (fun k => spec_l06Small.l1 k (x : Int) b i h a l) (a, l', i', h') ∧ Cur b i' ∧ l'.length ≤ 4 ∧ 1 ≤ l'.length ∧ l'.flatten.length ≤ 5 := by
  intro d
  induction d with
  | zero =>
    intro x l i h hx hx1 c h2 h4 hf
    obtain ⟨y, i1, h1, e1, p1, q1, _, c1⟩ := below_ok b i h c 4
    have q1 := q1 (by omega)
    refine ⟨l, i1, h1, Ev.step (f := fun _ => some (a, l, i1, h1)) (fun k => ?_) (Ev.now _), c1, h4, by omega, by omega⟩
    simp only [spec_l06Small.l1, e1, Option.bind_some]
    rw [if_neg (by rw [wrap_in (by omega) (by omega)]; omega)]
  | succ d ih =>
    intro x l i h hx hx1 c h2 h4 hf
    obtain ⟨y, i1, h1, e1, p1, q1, _, c1⟩ := below_ok b i h c 4
    have q1 := q1 (by omega)
    have wx : wrap64 ((x : Int) + 1) = ((x + 1 : Nat) : Int) := by unfold wrap64; omega
    have wy : wrap64 (2 + y) = 2 + y := by unfold wrap64; omega
    by_cases hc : (x : Int) ≤ 2 + y
    · obtain ⟨z, i2, h2', e2, p2, q2, _, c2⟩ := below_ok b i1 h1 c1 (l.length : Int)
      have q2 := q2 (by omega)
      obtain ⟨j, rfl⟩ : ∃ j : Nat, z = (j : Int) := ⟨z.toNat, by omega⟩
      have hj : j < l.length := by omega
      have hlj := lane_len l j hj
      by_cases hr : ((rd_L2 l (j : Int)).length : Int) < a
      · obtain ⟨t, i3, h3, e3, _, _, _, c3⟩ := below_ok b i2 h2' c2 9
        have hfs := flat_set_len l j (l[j] ++ [⟨(x : Int), t⟩]) hj
        rw [List.length_append, List.length_singleton] at hfs
        obtain ⟨l', i', h', a1, a2, a3, a4, a5⟩ := ih (x + 1) (l.set j (l[j] ++ [⟨(x : Int), t⟩])) i3 h3 (by omega) (by omega) c3 (by simpa using h2) (by simpa using h4) (by omega)
        refine ⟨l', i', h', Ev.step (fun k => ?_) a1, a2, a3, a4, a5⟩
        simp only [spec_l06Small.l1, e1, e2, e3, Option.bind_some, wx, wy, rdL2_nat l j hj, Int.toNat_natCast]
        rw [rdL2_nat l j hj] at hr
        rw [if_pos hc, if_pos (by omega), if_pos (by omega), if_pos hr, if_pos (by omega)]
      · obtain ⟨l', i', h', a1, a2, a3, a4, a5⟩ := ih (x + 1) l i2 h2' (by omega) (by omega) c2 h2 h4 (by omega)
        refine ⟨l', i', h', Ev.step (fun k => ?_) a1, a2, a3, a4, a5⟩
        simp only [spec_l06Small.l1, e1, e2, Option.bind_some, wx, wy]
        rw [if_pos hc, if_pos (by omega), if_pos (by omega), if_neg hr]
    · refine ⟨l, i1, h1, Ev.step (f := fun _ => some (a, l, i1, h1)) (fun k => ?_) (Ev.now _), c1, h4, by omega, by omega⟩
      simp only [spec_l06Small.l1, e1, Option.bind_some, wy]
      rw [if_neg hc]
theorem small_l0 (b : List Int) (a : Int) : ∀ (d : Nat) (l : List (List S30)) (i h : Int), Cur b i → l.flatten = [] → 2 ≤ l.length + d → l.length + d ≤ 4 →
    ∃ l' i' h', Ev (fun k => spec_l06Small.l0 k (d : Int) b i h a l) (a, l', i', h') ∧ Cur b i' ∧ l'.length ≤ 4 ∧ 1 ≤ l'.length ∧ l'.flatten.length ≤ 5 := by
  intro d
  induction d with
  | zero =>
    intro l i h c hf h2 h4
    obtain ⟨l', i', h', a1, a2⟩ := small_l1 b a 5 1 l i h (by omega) (by omega) c (by omega) (by omega) (by rw [hf]; simp)
    refine ⟨l', i', h', Ev.step (fun k => ?_) a1, a2⟩
    simp only [spec_l06Small.l0]
    rw [if_neg (by omega)]
    rfl
  | succ d ih =>
    intro l i h c hf h2 h4
    obtain ⟨l', i', h', a1, a2⟩ := ih (l ++ [[]]) i h c (by simp [hf]) (by simp; omega) (by simp; omega)
    refine ⟨l', i', h', Ev.step (fun k => ?_) a1, a2⟩
    simp only [spec_l06Small.l0]
    rw [if_pos (by omega), if_pos (by omega), wrap_in (x := ((d + 1 : Nat) : Int) - 1) (by omega) (by omega), show ((d + 1 : Nat) : Int) - 1 = (d : Int) by omega]
theorem small_ev (b : List Int) (i h : Int) (c : Cur b i) : ∃ a l i' h', Ev (fun k => spec_l06Small.f k b i h) (a, l, i', h') ∧ Cur b i' ∧ l.length ≤ 4 ∧ 1 ≤ l.length ∧ l.flatten.length ≤ 5 := by
  obtain ⟨x, i1, h1, e1, p1, q1, _, c1⟩ := below_ok b i h c 4
  obtain ⟨y, i2, h2, e2, p2, q2, _, c2⟩ := below_ok b i1 h1 c1 3
  have q2 := q2 (by omega)
  obtain ⟨l', i', h', a1, a2⟩ := small_l0 b (wrap64 (1 + x)) (2 + y).toNat [] i2 h2 c2 rfl (by simp; omega) (by simp; omega)
  refine ⟨_, l', i', h', Ev.congr (fun k => ?_) a1, a2⟩
  simp only [spec_l06Small.f, e1, e2, Option.bind_some]
  rw [wrap_in (x := 2 + y) (by omega) (by omega), Int.toNat_of_nonneg (by omega)]
theorem store_l0 (b : List Int) (a : Int) (ha : 1 ≤ a ∧ a ≤ 5) : ∀ (n : Nat) (x : Int) (l : List (List S30)) (i h : Int), Cur b i → l.length + n ≤ 4 → 1 ≤ l.length + n → l.flatten.length ≤ 5 * l.length →
    ∃ l' i' h', Ev (fun k => spec_l06Store.l0 k x (n : Int) b i h a l) (a, l', i', h') ∧ Cur b i' ∧ l'.length ≤ 4 ∧ 1 ≤ l'.length ∧ l'.flatten.length ≤ 20 := by
  intro n
  induction n with
  | zero =>
    intro x l i h c h4 h1 hf
    refine ⟨l, i, h, Ev.step (f := fun _ => some (a, l, i, h)) (fun k => ?_) (Ev.now _), c, by omega, by omega, by omega⟩
    simp only [spec_l06Store.l0]
    rw [if_neg (by omega)]
  | succ n ih =>
    have L1 : ∀ (d : Nat) (m : List S30) (x : Int) (l : List (List S30)) (i h : Int), Cur b i → l.length + (n + 1) ≤ 4 → l.flatten.length ≤ 5 * l.length → m.length + d ≤ 5 →
        ∃ l' i' h', Ev (fun k => spec_l06Store.l1 k x ((n + 1 : Nat) : Int) m (d : Int) b i h a l) (a, l', i', h') ∧ Cur b i' ∧ l'.length ≤ 4 ∧ 1 ≤ l'.length ∧ l'.flatten.length ≤ 20 := by
      intro d
      induction d with
      | zero =>
        intro m x l i h c h4 hf hm
        obtain ⟨l', i', h', a1, a2⟩ := ih x (l ++ [m]) i h c (by simp; omega) (by simp; omega) (by simp only [List.flatten_append, List.flatten_cons, List.flatten_nil, List.length_append, List.append_nil, List.length_singleton]; omega)
        refine ⟨l', i', h', Ev.step (fun k => ?_) a1, a2⟩
        simp only [spec_l06Store.l1]
        rw [if_neg (by omega), if_pos (by omega), wrap_in (x := ((n + 1 : Nat) : Int) - 1) (by omega) (by omega), show ((n + 1 : Nat) : Int) - 1 = (n : Int) by omega]
      | succ d ihd =>
        intro m x l i h c h4 hf hm
        obtain ⟨y, i1, h1, e1, _, _, _, c1⟩ := below_ok b i h c 2
        obtain ⟨t, i2, h2, e2, _, _, _, c2⟩ := below_ok b i1 h1 c1 12
        obtain ⟨l', i', h', a1, a2⟩ := ihd (m ++ [(⟨wrap64 ((wrap64 (x + 1)) + y), t⟩ : S30)]) (wrap64 ((wrap64 (x + 1)) + y)) l i2 h2 c2 h4 hf (by simp; omega)
        refine ⟨l', i', h', Ev.step (fun k => ?_) a1, a2⟩
        simp only [spec_l06Store.l1, e1, e2, Option.bind_some]
        rw [if_pos (by omega), if_pos (by omega), wrap_in (x := ((d + 1 : Nat) : Int) - 1) (by omega) (by omega), show ((d + 1 : Nat) : Int) - 1 = (d : Int) by omega]
    intro x l i h c h4 h1 hf
    obtain ⟨y, i1, h1', e1, p1, q1, _, c1⟩ := below_ok b i h c (wrap64 (a + 1))
    have wa : wrap64 (a + 1) = a + 1 := by unfold wrap64; omega
    rw [wa] at e1 q1
    have q1 := q1 (by omega)
    obtain ⟨l', i', h', a1, a2⟩ := L1 y.toNat [] x l i1 h1' c1 h4 hf (by simp; omega)
    rw [Int.toNat_of_nonneg p1] at a1
    refine ⟨l', i', h', Ev.step (fun k => ?_) a1, a2⟩
    simp only [spec_l06Store.l0, wa, e1, Option.bind_some]
    rw [if_pos (by omega)]
theorem store_ev (b : List Int) (i h : Int) (c : Cur b i) : ∃ a l i' h', Ev (fun k => spec_l06Store.f k b i h) (a, l, i', h') ∧ Cur b i' ∧ l.length ≤ 4 ∧ 1 ≤ l.length ∧ l.flatten.length ≤ 20 := by
  obtain ⟨x, i1, h1, e1, p1, q1, _, c1⟩ := below_ok b i h c 5
  have q1 := q1 (by omega)
  obtain ⟨y, i2, h2, e2, p2, q2, _, c2⟩ := below_ok b i1 h1 c1 4
  have q2 := q2 (by omega)
  have w1 : wrap64 (1 + x) = 1 + x := by unfold wrap64; omega
  obtain ⟨l', i', h', a1, a2⟩ := store_l0 b (1 + x) (by omega) (1 + y).toNat 0 [] i2 h2 c2 (by simp; omega) (by simp; omega) (by simp)
  refine ⟨_, l', i', h', Ev.congr (fun k => ?_) a1, a2⟩
  simp only [spec_l06Store.f, e1, e2, Option.bind_some, w1]
  rw [wrap_in (x := 1 + y) (by omega) (by omega), Int.toNat_of_nonneg (by omega)]
theorem any_j0 (b : List Int) (a : Int) (l : List (List S30)) (i h : Int) (c : Cur b i) (h4 : l.length ≤ 4) (h1 : 1 ≤ l.length) (hf : l.flatten.length ≤ 20) : ∃ a' l' i' h', Ev (fun k => spec_l06Any.j0 k b i h a l) (a', l', i', h') ∧ Cur b i' ∧ l'.length ≤ 6 ∧ l'.flatten.length ≤ 21 := by
  obtain ⟨x, i1, h1', e1, p1, q1, _, c1⟩ := below_ok b i h c 18
  have h0 : 0 < l.length := by omega
  have e0 : rd_L2 l 0 = l[0] := rdL2_nat l 0 h0
  have hl0 := lane_len l 0 h0
  by_cases x0 : x = 0
  · obtain ⟨y, i2, h2, e2, _, c2⟩ := pick_ok b i1 h1' c1 [0, 6, (-1), 1] (by simp) (by simp)
    refine ⟨y, l, i2, h2, Ev.step (f := fun _ => some (y, l, i2, h2)) (fun k => ?_) (Ev.now _), c2, by omega, by omega⟩
    simp only [spec_l06Any.j0, e1, Option.bind_some]
    rw [if_pos x0]
    simp only [e2, Option.bind_some]
  · by_cases x1 : x = 1
    · refine ⟨a, l ++ [[], []], i1, h1', Ev.step (f := fun _ => some (a, l ++ [[], []], i1, h1')) (fun k => ?_) (Ev.now _), c1, by simp; omega, by simp only [List.flatten_append, List.flatten_cons, List.flatten_nil, List.append_nil]; omega⟩
      simp only [spec_l06Any.j0, e1, Option.bind_some]
      rw [if_neg x0, if_pos x1, if_pos (by omega)]
    · by_cases x2 : x = 2
      · obtain ⟨y, i2, h2, e2, _, c2⟩ := pick_ok b i1 h1' c1 [0, 1, 50] (by simp) (by simp)
        have hfs := flat_set_len l 0 (l[0] ++ [⟨y, 3⟩]) h0
        rw [List.length_append, List.length_singleton] at hfs
        refine ⟨a, l.set 0 (l[0] ++ [⟨y, 3⟩]), i2, h2, Ev.step (f := fun _ => some (a, l.set 0 (l[0] ++ [⟨y, 3⟩]), i2, h2)) (fun k => ?_) (Ev.now _), c2, by simp; omega, by omega⟩
        simp only [spec_l06Any.j0, e1, Option.bind_some, e0]
        rw [if_neg x0, if_neg x1, if_pos x2, if_pos (by omega)]
        simp only [e2, Option.bind_some]
        rw [if_pos (by omega)]
        rfl
      · by_cases x3 : x = 3
        · by_cases hp : (l[0].length : Int) > 0
          · obtain ⟨y, i2, h2, e2, _, c2⟩ := pick_ok b i1 h1' c1 [(-1), 100000, 100001] (by simp) (by simp)
            have hfs := flat_set_len l 0 (l[0].set 0 ⟨(rd_T30 l[0] 0).f0, y⟩) h0
            rw [List.length_set] at hfs
            refine ⟨a, l.set 0 (l[0].set 0 ⟨(rd_T30 l[0] 0).f0, y⟩), i2, h2, Ev.step (f := fun _ => some (a, l.set 0 (l[0].set 0 ⟨(rd_T30 l[0] 0).f0, y⟩), i2, h2)) (fun k => ?_) (Ev.now _), c2, by simp; omega, by omega⟩
            simp only [spec_l06Any.j0, e1, Option.bind_some, e0]
            rw [if_neg x0, if_neg x1, if_neg x2, if_pos x3, if_pos (by omega), if_pos hp]
            simp only [e2, Option.bind_some]
            rw [if_pos (by omega)]
            rfl
          · refine ⟨a, l, i1, h1', Ev.step (f := fun _ => some (a, l, i1, h1')) (fun k => ?_) (Ev.now _), c1, by omega, by omega⟩
            simp only [spec_l06Any.j0, e1, Option.bind_some, e0]
            rw [if_neg x0, if_neg x1, if_neg x2, if_pos x3, if_pos (by omega), if_neg hp]
        · by_cases x4 : x = 4
          · refine ⟨a, [], i1, h1', Ev.step (f := fun _ => some (a, [], i1, h1')) (fun k => ?_) (Ev.now _), c1, by simp, by simp⟩
            simp only [spec_l06Any.j0, e1, Option.bind_some]
            rw [if_neg x0, if_neg x1, if_neg x2, if_neg x3, if_pos x4]
          · refine ⟨a, l, i1, h1', Ev.step (f := fun _ => some (a, l, i1, h1')) (fun k => ?_) (Ev.now _), c1, by omega, by omega⟩
            simp only [spec_l06Any.j0, e1, Option.bind_some]
            rw [if_neg x0, if_neg x1, if_neg x2, if_neg x3, if_neg x4]
theorem any_ev (b : List Int) (i h : Int) (c : Cur b i) : ∃ a l i' h', Ev (fun k => spec_l06Any.f k b i h) (a, l, i', h') ∧ Cur b i' ∧ l.length ≤ 6 ∧ l.flatten.length ≤ 21 := by
  obtain ⟨a, l, i1, h1, a1, c1, p1, p2, p3⟩ := store_ev b i h c
  obtain ⟨x, i2, h2, e2, c2⟩ := once_ok b i1 h1 c1 2
  cases x with
  | true =>
    obtain ⟨a', l', i3, h3, a3, c3, q1, q2, q3⟩ := small_ev b i2 h2 c2
    obtain ⟨a4, l4, i4, h4, e4, c4, r1, r2⟩ := any_j0 b a' l' i3 h3 c3 q1 q2 (by omega)
    refine ⟨a4, l4, i4, h4, ?_, c4, r1, r2⟩
    refine Lt.ev ((Lt.of a1).and ((Lt.of a3).and (Lt.of e4))) fun k ⟨b1, b2, b3⟩ => ?_
    simp only [spec_l06Any.f, b1, Option.bind_some, e2]
    rw [if_pos trivial]
    simp only [b2, Option.bind_some]
    exact b3
  | false =>
    obtain ⟨a4, l4, i4, h4, e4, c4, r1, r2⟩ := any_j0 b a l i2 h2 c2 p1 p2 p3
    refine ⟨a4, l4, i4, h4, ?_, c4, r1, r2⟩
    refine Lt.ev ((Lt.of a1).and (Lt.of e4)) fun k ⟨b1, b3⟩ => ?_
    simp only [spec_l06Any.f, b1, Option.bind_some, e2]
    rw [if_neg (by simp)]
    exact b3
theorem draw_small_ev (b : List Int) (hb : b.length ≤ 1048576) : ∃ a l, Ev (fun k => spec_DrawSmall.f k b) (a, l) ∧ l.length ≤ 6 ∧ l.flatten.length ≤ 5 := by
  obtain ⟨h, e0, c0⟩ := new_ev b hb
  obtain ⟨a, l, i1, h1, e1, c1, p1, p2, p3⟩ := small_ev b 0 h c0
  refine ⟨a, l, ?_, by omega, p3⟩
  refine Lt.ev ((Lt.of e0).and (Lt.of e1)) fun k ⟨b1, b2⟩ => ?_
  simp only [spec_DrawSmall.f, b1, b2, Option.bind_some]
theorem draw_least_ev (b : List Int) (hb : b.length ≤ 1048576) : ∃ a l, Ev (fun k => spec_DrawLeastHops.f k b) (a, l) ∧ l.length ≤ 6 ∧ l.flatten.length ≤ 21 := by
  obtain ⟨h, e0, c0⟩ := new_ev b hb
  obtain ⟨x, i1, h1, e1, c1⟩ := once_ok b 0 h c0 6
  cases x with
  | true =>
    obtain ⟨a, l, i2, h2, e2, c2, p1, p2⟩ := any_ev b i1 h1 c1
    refine ⟨a, l, ?_, p1, p2⟩
    refine Lt.ev ((Lt.of e0).and (Lt.of e2)) fun k ⟨b1, b2⟩ => ?_
    simp only [spec_DrawLeastHops.f, b1, e1, Option.bind_some]
    rw [if_pos trivial]
    simp only [b2, Option.bind_some]
  | false =>
    obtain ⟨a, l, i2, h2, e2, c2, p1, p2, p3⟩ := small_ev b i1 h1 c1
    refine ⟨a, l, ?_, by omega, by omega⟩
    refine Lt.ev ((Lt.of e0).and (Lt.of e2)) fun k ⟨b1, b2⟩ => ?_
    simp only [spec_DrawLeastHops.f, b1, e1, Option.bind_some]
    rw [if_neg (by simp)]
    simp only [b2, Option.bind_some]
end Go.Proofs.Ytheckjlldkkceaa.Pu
