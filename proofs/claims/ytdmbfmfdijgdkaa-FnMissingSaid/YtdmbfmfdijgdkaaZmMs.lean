import Derived.Test.YtdmbfmfdijgdkaaZmAs
import Derived.Test.YtdmbfmfdijgdkaaZmPx11
import Derived.Test.YtdmbfmfdijgdkaaZmPx16
import Derived.Test.YtdmbfmfdijgdkaaZmPx25
import Derived.Test.YtdmbfmfdijgdkaaZmPx26
namespace Go.Proofs.Ytdmbfmfdijgdkaa.Pu
open Go.RowKit Go.Proofs.Ytdmbfmfdijgdkaa.Px Go.Proofs.YtdmbfmfdijgdkaaW.PrintWords Go.Proofs.YtdmbfmfdijgdkaaW.PrintLast Go.Proofs.YtdmbfmfdijgdkaaW.PrintMore
set_option linter.unusedVariables false

theorem sameI_l (l : List Int) (hn : l.length ≤ 1000) : ∀ (d i : Nat), i + d = l.length → Ev (fun k => laws_sameInts.l0 k l l (i : Int)) true := by
  intro d
  induction d with
  | zero =>
    intro i hi
    refine Ev.step (f := fun _ => some true) (fun k => ?_) (Ev.now _)
    simp only [laws_sameInts.l0]
    rw [if_neg (by omega)]
  | succ d ih =>
    intro i hi
    refine Ev.step (f := fun k => laws_sameInts.l0 k l l ((i + 1 : Nat) : Int)) (fun k => ?_) (ih (i + 1) (by omega))
    simp only [laws_sameInts.l0]
    rw [if_pos (by omega), if_pos (by omega), if_pos (by omega), wrap_in (by omega) (by omega)]
    simp
theorem sameI_ev (l : List Int) (hn : l.length ≤ 1000) : Ev (fun k => laws_sameInts.f k l l) true := by
  refine Ev.congr (f := fun k => laws_sameInts.l0 k l l ((0 : Nat) : Int)) (fun k => ?_) (sameI_l l hn l.length 0 (by omega))
  simp only [laws_sameInts.f]
  simp
def late (now : Int) (a : List Int) (x : S52) : Bool := decide (x.f2 < now) && !decide (x.f0 ∈ a)
def gone (now : Int) (a : List Int) (l : List S52) : List Int := (l.filter (late now a)).map (·.f0)
theorem gone_cons (now : Int) (a : List Int) (x : S52) (r : List S52) : gone now a (x :: r) = if late now a x = true then x.f0 :: gone now a r else gone now a r := by
  unfold gone
  rw [List.filter_cons]
  split <;> rfl
theorem impl_ms_l (now : Int) (a : List Int) (ha : a.length ≤ 1000) (l : List S52) (hl : l.length ≤ 6) : ∀ (d i : Nat), i + d = l.length → ∀ out : List Int, out.length ≤ i →
    Ev (fun k => impl_Missing.l0 k now a out l (l.length : Int) (i : Int)) (out ++ gone now a (l.drop i)) ∧ Ev (fun k => spec_Missing.l0 k l now out a (i : Int)) (out ++ gone now a (l.drop i)) := by
  intro d
  induction d with
  | zero =>
    intro i hi out ho
    rw [List.drop_of_length_le (by omega)]
    have e : out ++ gone now a [] = out := by simp [gone]
    rw [e]
    refine ⟨Ev.step (f := fun _ => some out) (fun k => ?_) (Ev.now _), Ev.step (f := fun _ => some out) (fun k => ?_) (Ev.now _)⟩
    · simp only [impl_Missing.l0]
      rw [if_neg (by omega)]
    · simp only [spec_Missing.l0]
      rw [if_neg (by omega)]
  | succ d ih =>
    intro i hi out ho
    have hlt : i < l.length := by omega
    have eg : l[i] = l.getD i z52 := by simp [hlt]
    have hcon := con_ev a (l.getD i z52).f0 (by omega)
    have hhas := has_ev a (l.getD i z52).f0 (by omega)
    rw [List.drop_eq_getElem_cons hlt, gone_cons, eg]
    by_cases c : (l.getD i z52).f2 < now
    · by_cases hm : (l.getD i z52).f0 ∈ a
      · obtain ⟨h1, h2⟩ := ih (i + 1) (by omega) out (by omega)
        rw [if_neg (by unfold late; rw [decide_eq_true hm]; simp)]
        refine ⟨Ev.round ((Lt.of hcon).and (Lt.of h1)) fun k ⟨e1, e2⟩ => ?_, Ev.round ((Lt.of hhas).and (Lt.of h2)) fun k ⟨e1, e2⟩ => ?_⟩
        · simp only [impl_Missing.l0, rd52_getD, e1, Option.bind_some]
          rw [if_pos (by omega), if_pos (by omega), if_pos (by omega), if_pos c, if_pos (decide_eq_true hm), wrap_in (x := (i : Int) + 1) (by omega) (by omega)]
          exact e2
        · simp only [spec_Missing.l0, rd52_getD, e1, Option.bind_some]
          rw [if_pos (by omega), if_pos (by omega), if_pos c, if_pos (decide_eq_true hm), wrap_in (x := (i : Int) + 1) (by omega) (by omega)]
          exact e2
      · obtain ⟨h1, h2⟩ := ih (i + 1) (by omega) (out ++ [(l.getD i z52).f0]) (by simp; omega)
        rw [List.append_assoc] at h1 h2
        rw [if_pos (by unfold late; rw [decide_eq_true c, decide_eq_false hm]; rfl)]
        refine ⟨Ev.round ((Lt.of hcon).and (Lt.of h1)) fun k ⟨e1, e2⟩ => ?_, Ev.round ((Lt.of hhas).and (Lt.of h2)) fun k ⟨e1, e2⟩ => ?_⟩
        · simp only [impl_Missing.l0, rd52_getD, e1, Option.bind_some]
          rw [if_pos (by omega), if_pos (by omega), if_pos (by omega), if_pos c, decide_eq_false hm, if_neg (by simp), if_pos (by omega), wrap_in (x := (i : Int) + 1) (by omega) (by omega)]
          exact e2
        · simp only [spec_Missing.l0, rd52_getD, e1, Option.bind_some]
          rw [if_pos (by omega), if_pos (by omega), if_pos c, decide_eq_false hm, if_neg (by simp), if_pos (by omega), wrap_in (x := (i : Int) + 1) (by omega) (by omega)]
          exact e2
    · obtain ⟨h1, h2⟩ := ih (i + 1) (by omega) out (by omega)
      rw [if_neg (by unfold late; rw [decide_eq_false c]; simp)]
      refine ⟨Ev.step (fun k => ?_) h1, Ev.step (fun k => ?_) h2⟩
      · simp only [impl_Missing.l0, rd52_getD]
        rw [if_pos (by omega), if_pos (by omega), if_pos (by omega), if_neg c, wrap_in (x := (i : Int) + 1) (by omega) (by omega)]
        rfl
      · simp only [spec_Missing.l0, rd52_getD]
        rw [if_pos (by omega), if_pos (by omega), if_neg c, wrap_in (x := (i : Int) + 1) (by omega) (by omega)]
        rfl
def missing (l : List S52) (s : List S89) (now : Int) : List Int := if exOk l = true ∧ sgOk s = true then gone now (assign l s) l else []
theorem missing_len (l : List S52) (s : List S89) (now : Int) : (missing l s now).length ≤ 6 := by
  unfold missing
  split
  · rename_i h
    have := (ex_in h.1).1
    unfold gone
    rw [List.length_map]
    exact Nat.le_trans (List.length_filter_le _ _) this
  · simp
theorem impl_ms_ev (l : List S52) (s : List S89) (now : Int) (hl : l.length ≤ 4611686018427387904) (hs : s.length ≤ 4611686018427387904) : Ev (fun k => impl_Missing.f k l s now) (missing l s now) := by
  unfold missing
  by_cases h : exOk l = true ∧ sgOk s = true
  · rw [if_pos h]
    have hrun := (impl_ms_l now (assign l s) (by have := assign_len l s; omega) l (ex_in h.1).1 l.length 0 (by omega) [] (by simp)).1
    refine Lt.ev ((Lt.of (are_ev l s hl hs)).and ((Lt.of (impl_as_ev l s hl hs)).and (Lt.of hrun))) fun k ⟨e1, e3, e2⟩ => ?_
    simp only [impl_Missing.f, e1, e3, h.1, h.2, Option.bind_some]
    rw [if_pos (by simp)]
    simpa using e2
  · rw [if_neg h]
    refine Lt.ev (Lt.of (are_ev l s hl hs)) fun k e1 => ?_
    simp only [impl_Missing.f, e1, Option.bind_some]
    rw [if_neg (fun hh => h (by simpa using hh))]
theorem spec_ms_ev (l : List S52) (s : List S89) (now : Int) : Ev (fun k => spec_Missing.f k l s now) (missing l s now) := by
  have dead : Ev (fun k => spec_Missing.j0 k l s now [] true) [] := Ev.step (f := fun _ => some []) (fun k => by simp [spec_Missing.j0]) (Ev.now _)
  unfold missing
  by_cases h1 : exOk l = true
  · by_cases h2 : sgOk s = true
    · rw [if_pos ⟨h1, h2⟩]
      have hrun := (impl_ms_l now (assign l s) (by have := assign_len l s; omega) l (ex_in h1).1 l.length 0 (by omega) [] (by simp)).2
      have live : Ev (fun k => spec_Missing.j0 k l s now [] false) (gone now (assign l s) l) := by
        refine Ev.round ((Lt.of (spec_as_ev l s)).and (Lt.of hrun)) fun k ⟨e1, e2⟩ => ?_
        simp only [spec_Missing.j0, e1, Option.bind_some]
        rw [if_neg (by simp)]
        simpa using e2
      refine Lt.ev ((Lt.of (spec_ex_ev l)).and ((Lt.of (spec_sg_ev s)).and (Lt.of live))) fun k ⟨e1, e2, e3⟩ => ?_
      simp only [spec_Missing.f, e1, e2, h1, h2, Option.bind_some]
      rw [if_pos trivial]
      exact e3
    · rw [if_neg (fun hh => h2 hh.2)]
      refine Lt.ev ((Lt.of (spec_ex_ev l)).and ((Lt.of (spec_sg_ev s)).and (Lt.of dead))) fun k ⟨e1, e2, e3⟩ => ?_
      simp only [spec_Missing.f, e1, e2, h1, Option.bind_some]
      rw [if_pos trivial, show sgOk s = false by simpa using h2]
      exact e3
  · rw [if_neg (fun hh => h1 hh.1)]
    refine Lt.ev ((Lt.of (spec_ex_ev l)).and (Lt.of dead)) fun k ⟨e1, e3⟩ => ?_
    simp only [spec_Missing.f, e1, Option.bind_some]
    rw [if_neg h1]
    exact e3
theorem expects_l (b : List Int) : ∀ (d : Nat) (l : List S52) (i h : Int), Cur b i → l.length + d ≤ 6 → ∃ l' i' h', Ev (fun k => spec_l03Expects.l0 k l (d : Int) b i h) (l', i', h') ∧ Cur b i' ∧ l'.length ≤ 6 := by
  intro d
  induction d with
  | zero =>
    intro l i h c hl
    by_cases h1 : (l.length : Int) > 1
    · obtain ⟨x, i1, h1', e1, c1⟩ := once_ok b i h c 2
      cases x with
      | true =>
        refine ⟨(l.set (0 : Int).toNat (⟨(rd_T52 l ((l.length : Int) - 1)).f0, (rd_T52 l ((l.length : Int) - 1)).f1, (rd_T52 l ((l.length : Int) - 1)).f2⟩ : S52)).set ((l.length : Int) - 1).toNat (⟨(rd_T52 l 0).f0, (rd_T52 l 0).f1, (rd_T52 l 0).f2⟩ : S52), i1, h1', Ev.step (f := fun _ => some _) (fun k => ?_) (Ev.now _), c1, by simp; omega⟩
        simp only [spec_l03Expects.l0, e1, Option.bind_some]
        rw [if_neg (by omega), if_pos h1, if_pos trivial, if_pos (by omega), wrap_in (x := (l.length : Int) - 1) (by omega) (by omega), if_pos (by omega), if_pos (by omega)]
      | false =>
        refine ⟨l, i1, h1', Ev.step (f := fun _ => some (l, i1, h1')) (fun k => ?_) (Ev.now _), c1, by omega⟩
        simp only [spec_l03Expects.l0, e1, Option.bind_some]
        rw [if_neg (by omega), if_pos h1, if_neg (by simp)]
    · refine ⟨l, i, h, Ev.step (f := fun _ => some (l, i, h)) (fun k => ?_) (Ev.now _), c, by omega⟩
      simp only [spec_l03Expects.l0]
      rw [if_neg (by omega), if_neg h1]
  | succ d ih =>
    intro l i h c hl
    obtain ⟨x1, i1, h1, e1, _, _, _, c1⟩ := below_ok b i h c 20
    obtain ⟨x2, i2, h2, e2, _, _, _, c2⟩ := below_ok b i1 h1 c1 3
    obtain ⟨x3, i3, h3, e3, _, c3⟩ := pick_ok b i2 h2 c2 [0, 1, 2, 3, 5, 9, 14] (by simp) (by simp)
    obtain ⟨l', i', h', a1, a2, a3⟩ := ih (l ++ [(⟨wrap64 ((wrap64 (1 + (wrap64 (3 * (l.length : Int))))) + x2), x1, wrap64 (x1 + x3)⟩ : S52)]) i3 h3 c3 (by simp; omega)
    refine ⟨l', i', h', Ev.step (fun k => ?_) a1, a2, a3⟩
    simp only [spec_l03Expects.l0, e1, e2, e3, Option.bind_some]
    rw [if_pos (by omega), if_pos (by omega), wrap_in (x := ((d + 1 : Nat) : Int) - 1) (by omega) (by omega), show ((d + 1 : Nat) : Int) - 1 = (d : Int) by omega]
theorem expects_ev (b : List Int) (i h : Int) (c : Cur b i) : ∃ l' i' h', Ev (fun k => spec_l03Expects.f k b i h) (l', i', h') ∧ Cur b i' ∧ l'.length ≤ 6 := by
  obtain ⟨x, i1, h1, e1, p0, p1, _, c1⟩ := below_ok b i h c 6
  have p2 := p1 (by omega)
  obtain ⟨l', i', h', a1, a2⟩ := expects_l b x.toNat [] i1 h1 c1 (by simp; omega)
  refine ⟨l', i', h', Ev.congr (fun k => ?_) a1, a2⟩
  simp only [spec_l03Expects.f, e1, Option.bind_some]
  rw [Int.toNat_of_nonneg p0]
theorem sights_l (b : List Int) : ∀ (d : Nat) (l : List S89) (t i h : Int), Cur b i → l.length + d ≤ 6 → ∃ l' i' h', Ev (fun k => spec_l03Sights.l0 k l t (d : Int) b i h) (l', i', h') ∧ Cur b i' ∧ l'.length ≤ 6 := by
  intro d
  induction d with
  | zero =>
    intro l t i h c hl
    refine ⟨l, i, h, Ev.step (f := fun _ => some (l, i, h)) (fun k => ?_) (Ev.now _), c, by omega⟩
    simp only [spec_l03Sights.l0]
    rw [if_neg (by omega)]
  | succ d ih =>
    intro l t i h c hl
    obtain ⟨x, i1, h1, e1, c1⟩ := once_ok b i h c 4
    cases x with
    | true =>
      obtain ⟨x2, i2, h2, e2, _, _, _, c2⟩ := below_ok b i1 h1 c1 3
      obtain ⟨x3, i3, h3, e3, _, c3⟩ := pick_ok b i2 h2 c2 [0, 0, 1, 2, 3, 6] (by simp) (by simp)
      obtain ⟨l', i', h', a1, a2, a3⟩ := ih (l ++ [(⟨t, wrap64 ((wrap64 ((wrap64 (3 * (l.length : Int))) + 1)) + x2)⟩ : S89)]) (wrap64 (t + x3)) i3 h3 c3 (by simp; omega)
      refine ⟨l', i', h', Ev.step (fun k => ?_) a1, a2, a3⟩
      simp only [spec_l03Sights.l0, e1, e2, e3, Option.bind_some]
      rw [if_pos (by omega), if_pos trivial, if_pos (by omega), wrap_in (x := ((d + 1 : Nat) : Int) - 1) (by omega) (by omega), show ((d + 1 : Nat) : Int) - 1 = (d : Int) by omega]
    | false =>
      obtain ⟨x3, i3, h3, e3, _, c3⟩ := pick_ok b i1 h1 c1 [0, 0, 1, 2, 3, 6] (by simp) (by simp)
      obtain ⟨l', i', h', a1, a2, a3⟩ := ih (l ++ [(⟨t, 0⟩ : S89)]) (wrap64 (t + x3)) i3 h3 c3 (by simp; omega)
      refine ⟨l', i', h', Ev.step (fun k => ?_) a1, a2, a3⟩
      simp only [spec_l03Sights.l0, e1, e3, Option.bind_some]
      rw [if_pos (by omega), if_neg (by simp), if_pos (by omega), wrap_in (x := ((d + 1 : Nat) : Int) - 1) (by omega) (by omega), show ((d + 1 : Nat) : Int) - 1 = (d : Int) by omega]
theorem sights_ev (b : List Int) (i h : Int) (c : Cur b i) : ∃ l' i' h', Ev (fun k => spec_l03Sights.f k b i h) (l', i', h') ∧ Cur b i' ∧ l'.length ≤ 6 := by
  obtain ⟨t, i0, h0, e0, _, _, _, c0⟩ := below_ok b i h c 8
  obtain ⟨x, i1, h1, e1, p0, p1, _, c1⟩ := below_ok b i0 h0 c0 6
  have p2 := p1 (by omega)
  obtain ⟨l', i', h', a1, a2⟩ := sights_l b x.toNat [] t i1 h1 c1 (by simp; omega)
  refine ⟨l', i', h', Ev.congr (fun k => ?_) a1, a2⟩
  simp only [spec_l03Sights.f, e0, e1, Option.bind_some]
  rw [Int.toNat_of_nonneg p0]
theorem anyE_l (b : List Int) : ∀ (d : Nat) (l : List S52) (i h : Int), Cur b i → l.length + d = 7 → ∃ l' i' h', Ev (fun k => spec_l03AnyExpects.l0 k l b i h) (l', i', h') ∧ Cur b i' ∧ l'.length ≤ 7 := by
  intro d
  induction d with
  | zero =>
    intro l i h c hl
    obtain ⟨x, i1, h1, e1, p0, p1, _, c1⟩ := below_ok b i h c 2
    have p2 := p1 (by omega)
    refine ⟨l, i1, h1, Ev.step (f := fun _ => some (l, i1, h1)) (fun k => ?_) (Ev.now _), c1, by omega⟩
    simp only [spec_l03AnyExpects.l0, e1, Option.bind_some]
    rw [wrap_in (by omega) (by omega), if_neg (by omega)]
  | succ d ih =>
    intro l i h c hl
    obtain ⟨x, i1, h1, e1, p0, p1, _, c1⟩ := below_ok b i h c 2
    have p2 := p1 (by omega)
    by_cases hg : (l.length : Int) < 6 + x
    · obtain ⟨l', i', h', a1, a2, a3⟩ := ih (l ++ [(⟨wrap64 (100 + (l.length : Int)), 0, 30⟩ : S52)]) i1 h1 c1 (by simp; omega)
      refine ⟨l', i', h', Ev.step (fun k => ?_) a1, a2, a3⟩
      simp only [spec_l03AnyExpects.l0, e1, Option.bind_some]
      rw [wrap_in (x := 6 + x) (by omega) (by omega), if_pos hg, if_pos (by omega)]
    · refine ⟨l, i1, h1, Ev.step (f := fun _ => some (l, i1, h1)) (fun k => ?_) (Ev.now _), c1, by omega⟩
      simp only [spec_l03AnyExpects.l0, e1, Option.bind_some]
      rw [wrap_in (x := 6 + x) (by omega) (by omega), if_neg hg]
theorem anyE_ev (b : List Int) (i h : Int) (c : Cur b i) : ∃ l' i' h', Ev (fun k => spec_l03AnyExpects.f k b i h) (l', i', h') ∧ Cur b i' ∧ l'.length ≤ 7 := by
  obtain ⟨l, i1, h1, e1, c1, l1⟩ := expects_ev b i h c
  obtain ⟨x, i2, h2, e2, p0, p1, _, c2⟩ := below_ok b i1 h1 c1 16
  by_cases x0 : x = 0
  · by_cases hl : (l.length : Int) > 0
    · obtain ⟨y, i3, h3, e3, m3, c3⟩ := pick_ok b i2 h2 c2 [0, (-1), 7] (by simp) (by simp)
      refine ⟨l.set (0 : Int).toNat (⟨y, (rd_T52 l 0).f1, (rd_T52 l 0).f2⟩ : S52), i3, h3, Lt.ev (Lt.of e1) fun k q1 => ?_, c3, by simp; omega⟩
      simp only [spec_l03AnyExpects.f, q1, e2, e3, Option.bind_some]
      rw [if_pos x0, if_pos hl, if_pos (by omega)]
    · refine ⟨l, i2, h2, Lt.ev (Lt.of e1) fun k q1 => ?_, c2, by omega⟩
      simp only [spec_l03AnyExpects.f, q1, e2, Option.bind_some]
      rw [if_pos x0, if_neg hl]
  · by_cases x1 : x = 1
    · by_cases hl : (l.length : Int) > 0
      · obtain ⟨y, i3, h3, e3, m3, c3⟩ := pick_ok b i2 h2 c2 [(-1), 0, 100000, 100001] (by simp) (by simp)
        refine ⟨l.set ((l.length : Int) - 1).toNat (⟨(rd_T52 l ((l.length : Int) - 1)).f0, (rd_T52 l ((l.length : Int) - 1)).f1, y⟩ : S52), i3, h3, Lt.ev (Lt.of e1) fun k q1 => ?_, c3, by simp; omega⟩
        simp only [spec_l03AnyExpects.f, q1, e2, e3, Option.bind_some]
        rw [if_neg x0, if_pos x1, if_pos hl, wrap_in (x := (l.length : Int) - 1) (by omega) (by omega), if_pos (by omega), if_pos (by omega)]
      · refine ⟨l, i2, h2, Lt.ev (Lt.of e1) fun k q1 => ?_, c2, by omega⟩
        simp only [spec_l03AnyExpects.f, q1, e2, Option.bind_some]
        rw [if_neg x0, if_pos x1, if_neg hl]
    · by_cases x2 : x = 2
      · by_cases hl : (l.length : Int) > 1
        · refine ⟨l.set (1 : Int).toNat (⟨(rd_T52 l 0).f0, (rd_T52 l 1).f1, (rd_T52 l 1).f2⟩ : S52), i2, h2, Lt.ev (Lt.of e1) fun k q1 => ?_, c2, by simp; omega⟩
          simp only [spec_l03AnyExpects.f, q1, e2, Option.bind_some]
          rw [if_neg x0, if_neg x1, if_pos x2, if_pos hl, if_pos (by omega), if_pos (by omega)]
        · refine ⟨l, i2, h2, Lt.ev (Lt.of e1) fun k q1 => ?_, c2, by omega⟩
          simp only [spec_l03AnyExpects.f, q1, e2, Option.bind_some]
          rw [if_neg x0, if_neg x1, if_pos x2, if_neg hl]
      · by_cases x3 : x = 3
        · obtain ⟨l', i3, h3, e3, c3, l3⟩ := anyE_l b (7 - l.length) l i2 h2 c2 (by omega)
          refine ⟨l', i3, h3, Lt.ev ((Lt.of e1).and (Lt.of e3)) fun k ⟨q1, q3⟩ => ?_, c3, l3⟩
          simp only [spec_l03AnyExpects.f, q1, e2, Option.bind_some]
          rw [if_neg x0, if_neg x1, if_neg x2, if_pos x3]
          exact q3
        · refine ⟨l, i2, h2, Lt.ev (Lt.of e1) fun k q1 => ?_, c2, by omega⟩
          simp only [spec_l03AnyExpects.f, q1, e2, Option.bind_some]
          rw [if_neg x0, if_neg x1, if_neg x2, if_neg x3]
theorem anyS_l (b : List Int) : ∀ (d : Nat) (l : List S89) (i h : Int), Cur b i → l.length + d = 7 → ∃ l' i' h', Ev (fun k => spec_l03AnySights.l0 k l b i h) (l', i', h') ∧ Cur b i' ∧ l'.length ≤ 7 := by
  intro d
  induction d with
  | zero =>
    intro l i h c hl
    obtain ⟨x, i1, h1, e1, p0, p1, _, c1⟩ := below_ok b i h c 2
    have p2 := p1 (by omega)
    refine ⟨l, i1, h1, Ev.step (f := fun _ => some (l, i1, h1)) (fun k => ?_) (Ev.now _), c1, by omega⟩
    simp only [spec_l03AnySights.l0, e1, Option.bind_some]
    rw [wrap_in (by omega) (by omega), if_neg (by omega)]
  | succ d ih =>
    intro l i h c hl
    obtain ⟨x, i1, h1, e1, p0, p1, _, c1⟩ := below_ok b i h c 2
    have p2 := p1 (by omega)
    by_cases hg : (l.length : Int) < 6 + x
    · obtain ⟨l', i', h', a1, a2, a3⟩ := ih (l ++ [(⟨60, 0⟩ : S89)]) i1 h1 c1 (by simp; omega)
      refine ⟨l', i', h', Ev.step (fun k => ?_) a1, a2, a3⟩
      simp only [spec_l03AnySights.l0, e1, Option.bind_some]
      rw [wrap_in (x := 6 + x) (by omega) (by omega), if_pos hg, if_pos (by omega)]
    · refine ⟨l, i1, h1, Ev.step (f := fun _ => some (l, i1, h1)) (fun k => ?_) (Ev.now _), c1, by omega⟩
      simp only [spec_l03AnySights.l0, e1, Option.bind_some]
      rw [wrap_in (x := 6 + x) (by omega) (by omega), if_neg hg]
theorem anyS_ev (b : List Int) (i h : Int) (c : Cur b i) : ∃ l' i' h', Ev (fun k => spec_l03AnySights.f k b i h) (l', i', h') ∧ Cur b i' ∧ l'.length ≤ 7 := by
  obtain ⟨l, i1, h1, e1, c1, l1⟩ := sights_ev b i h c
  obtain ⟨x, i2, h2, e2, p0, p1, _, c2⟩ := below_ok b i1 h1 c1 16
  by_cases x0 : x = 0
  · by_cases hl : (l.length : Int) > 0
    · obtain ⟨y, i3, h3, e3, m3, c3⟩ := pick_ok b i2 h2 c2 [(-1), 0, 100000, 100001] (by simp) (by simp)
      refine ⟨l.set ((l.length : Int) - 1).toNat (⟨y, (rd_T89 l ((l.length : Int) - 1)).f1⟩ : S89), i3, h3, Lt.ev (Lt.of e1) fun k q1 => ?_, c3, by simp; omega⟩
      simp only [spec_l03AnySights.f, q1, e2, e3, Option.bind_some]
      rw [if_pos x0, if_pos hl, wrap_in (x := (l.length : Int) - 1) (by omega) (by omega), if_pos (by omega), if_pos (by omega)]
    · refine ⟨l, i2, h2, Lt.ev (Lt.of e1) fun k q1 => ?_, c2, by omega⟩
      simp only [spec_l03AnySights.f, q1, e2, Option.bind_some]
      rw [if_pos x0, if_neg hl]
  · by_cases x1 : x = 1
    · by_cases hl : (l.length : Int) > 1
      · refine ⟨_, i2, h2, Lt.ev (Lt.of e1) (r := ((l.set ((l.length : Int) - 1).toNat (⟨(rd_T89 l ((l.length : Int) - 1)).f0, 2⟩ : S89)).set (0 : Int).toNat (⟨(rd_T89 (l.set ((l.length : Int) - 1).toNat (⟨(rd_T89 l ((l.length : Int) - 1)).f0, 2⟩ : S89)) 0).f0, 2⟩ : S89), i2, h2)) fun k q1 => ?_, c2, by simp; omega⟩
        simp only [spec_l03AnySights.f, q1, e2, Option.bind_some]
        rw [if_neg x0, if_pos x1, if_pos hl, wrap_in (x := (l.length : Int) - 1) (by omega) (by omega), if_pos (by omega), if_pos (by omega), if_pos (by omega)]
      · refine ⟨l, i2, h2, Lt.ev (Lt.of e1) fun k q1 => ?_, c2, by omega⟩
        simp only [spec_l03AnySights.f, q1, e2, Option.bind_some]
        rw [if_neg x0, if_pos x1, if_neg hl]
    · by_cases x2 : x = 2
      · by_cases hl : (l.length : Int) > 0
        · refine ⟨l.set (0 : Int).toNat (⟨(rd_T89 l 0).f0, (-1)⟩ : S89), i2, h2, Lt.ev (Lt.of e1) fun k q1 => ?_, c2, by simp; omega⟩
          simp only [spec_l03AnySights.f, q1, e2, Option.bind_some]
          rw [if_neg x0, if_neg x1, if_pos x2, if_pos hl, if_pos (by omega)]
        · refine ⟨l, i2, h2, Lt.ev (Lt.of e1) fun k q1 => ?_, c2, by omega⟩
          simp only [spec_l03AnySights.f, q1, e2, Option.bind_some]
          rw [if_neg x0, if_neg x1, if_pos x2, if_neg hl]
      · by_cases x3 : x = 3
        · obtain ⟨l', i3, h3, e3, c3, l3⟩ := anyS_l b (7 - l.length) l i2 h2 c2 (by omega)
          refine ⟨l', i3, h3, Lt.ev ((Lt.of e1).and (Lt.of e3)) fun k ⟨q1, q3⟩ => ?_, c3, l3⟩
          simp only [spec_l03AnySights.f, q1, e2, Option.bind_some]
          rw [if_neg x0, if_neg x1, if_neg x2, if_pos x3]
          exact q3
        · refine ⟨l, i2, h2, Lt.ev (Lt.of e1) fun k q1 => ?_, c2, by omega⟩
          simp only [spec_l03AnySights.f, q1, e2, Option.bind_some]
          rw [if_neg x0, if_neg x1, if_neg x2, if_neg x3]
theorem draw_missing_ev (b : List Int) (hb : b.length ≤ 1048576) : ∃ l s now, Ev (fun k => spec_DrawMissing.f k b) (l, s, now) ∧ l.length ≤ 7 ∧ s.length ≤ 7 := by
  obtain ⟨h', hn, c⟩ := new_ev b hb
  obtain ⟨l, i1, h1, e1, c1, l1⟩ := anyE_ev b 0 h' c
  obtain ⟨s, i2, h2, e2, c2, l2⟩ := anyS_ev b i1 h1 c1
  obtain ⟨n, i3, h3, e3, m3, c3⟩ := pick_ok b i2 h2 c2 [(-1), 0, 5, 12, 20, 40, 9223372036854775807] (by simp) (by simp)
  refine ⟨l, s, n, Lt.ev ((Lt.of hn).and ((Lt.of e1).and (Lt.of e2))) fun k ⟨q1, q2, q3⟩ => ?_, l1, l2⟩
  simp only [spec_DrawMissing.f, q1, q2, q3, e3, Option.bind_some]
end Go.Proofs.Ytdmbfmfdijgdkaa.Pu
