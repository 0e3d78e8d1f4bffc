import Derived.Test.YtdmbfmfdijgdkaaZuEx
import Derived.Test.YtdmbfmfdijgdkaaZuDr
import Derived.Test.YtdmbfmfdijgdkaaZuPx1
import Derived.Test.YtdmbfmfdijgdkaaZuPx7
import Derived.Test.YtdmbfmfdijgdkaaZuPx8
import Derived.Test.YtdmbfmfdijgdkaaZuPx0
import Derived.Test.YtdmbfmfdijgdkaaZuPx26
namespace Go.Proofs.Ytdmbfmfdijgdkaa.Pu
open Go.RowKit Go.Proofs.Ytdmbfmfdijgdkaa.Px Go.Proofs.YtdmbfmfdijgdkaaW.PrintWords Go.Proofs.YtdmbfmfdijgdkaaW.PrintLast Go.Proofs.YtdmbfmfdijgdkaaW.PrintMore
set_option linter.unusedVariables false
theorem rdI (f : List Int) (i : Nat) : rd f (i : Int) = f.getD i 0 := by simp [rd]
theorem has_l (l : List Int) (x : Int) (hn : l.length ≤ 4611686018427387904) : ∀ (d i : Nat), i + d = l.length → Ev (fun k => spec_l03Has.l0 k l x (i : Int)) (decide (x ∈ l.drop i)) ∧ Ev (fun k => laws_has.l0 k l x (i : Int)) (decide (x ∈ l.drop i)) := by
  intro d
  induction d with
  | zero =>
    intro i hi
    rw [List.drop_of_length_le (by omega)]
    refine ⟨Ev.step (f := fun _ => some false) (fun k => ?_) (by simpa using Ev.now _), Ev.step (f := fun _ => some false) (fun k => ?_) (by simpa using Ev.now _)⟩
    · simp only [spec_l03Has.l0]
      rw [if_neg (by omega)]
    · simp only [laws_has.l0]
      rw [if_neg (by omega)]
  | succ d ih =>
    intro i hi
    have hlt : i < l.length := by omega
    rw [List.drop_eq_getElem_cons hlt]
    by_cases h : l[i] = x
    · have e : decide (x ∈ l[i] :: l.drop (i + 1)) = true := decide_eq_true (by rw [h]; exact List.mem_cons_self)
      rw [e]
      refine ⟨Ev.step (f := fun _ => some true) (fun k => ?_) (Ev.now _), Ev.step (f := fun _ => some true) (fun k => ?_) (Ev.now _)⟩
      · simp only [spec_l03Has.l0]
        rw [if_pos (by omega), if_pos (by omega), rd_nat l i hlt, if_pos h]
      · simp only [laws_has.l0]
        rw [if_pos (by omega), if_pos (by omega), rd_nat l i hlt, if_pos h]
    · have e : decide (x ∈ l[i] :: l.drop (i + 1)) = decide (x ∈ l.drop (i + 1)) := decide_eq_decide.2 ⟨fun hh => by
        rcases List.mem_cons.1 hh with e | e
        · exact absurd e.symm h
        · exact e, fun hh => List.mem_cons_of_mem _ hh⟩
      rw [e]
      obtain ⟨a, b⟩ := ih (i + 1) (by omega)
      refine ⟨Ev.step (fun k => ?_) a, Ev.step (fun k => ?_) b⟩
      · simp only [spec_l03Has.l0]
        rw [if_pos (by omega), if_pos (by omega), rd_nat l i hlt, if_neg h, wrap_in (x := (i : Int) + 1) (by omega) (by omega)]
        rfl
      · simp only [laws_has.l0]
        rw [if_pos (by omega), if_pos (by omega), rd_nat l i hlt, if_neg h, wrap_in (x := (i : Int) + 1) (by omega) (by omega)]
        rfl
theorem has_ev (l : List Int) (x : Int) (hn : l.length ≤ 4611686018427387904) : Ev (fun k => spec_l03Has.f k l x) (decide (x ∈ l)) :=
  Ev.congr (fun k => by simp only [spec_l03Has.f]; rfl) (has_l l x hn l.length 0 (by omega)).1
def named (s : List S89) (b : Int) : Bool := s.any (fun y => y.f1 == b)
def fitsB (s : List S89) (y : S89) (x : S52) : Bool := decide (y.f1 = 0) && !named s x.f0 && decide (x.f1 ≤ y.f0) && decide (y.f0 ≤ x.f2)
theorem impl_fits_eq (s : List S89) (y : S89) (x : S52) : impl_fits.f s y.f0 y.f1 x.f0 x.f1 x.f2 = some (fitsB s y x) := by
  have hn : impl_isNamed.f s x.f0 = some (named s x.f0) := rfl
  simp only [impl_fits.f, hn, fitsB, Option.bind_some]
  by_cases h : y.f1 = 0
  · rw [if_pos h, decide_eq_true h]
    cases named s x.f0 with
    | true => rfl
    | false =>
      by_cases h1 : y.f0 ≥ x.f1
      · rw [if_neg (by simp), if_pos h1, decide_eq_true (show x.f1 ≤ y.f0 from h1)]
        rfl
      · rw [if_neg (by simp), if_neg h1, decide_eq_false (show ¬ x.f1 ≤ y.f0 from h1)]
        rfl
  · rw [if_neg h, decide_eq_false h]
    rfl
theorem spec_fits_l (l : List S52) (s : List S89) (i j : Nat) (hi : i < s.length) (hj : j < l.length) (hs : s.length ≤ 6) : ∀ (d m : Nat), m + d = s.length → (∀ k, k < m → (s.getD k z89).f1 ≠ (l.getD j z52).f0) →
    Ev (fun k => spec_l03Fits.l0 k l s (i : Int) (j : Int) (m : Int)) (fitsB s (s.getD i z89) (l.getD j z52)) := by
  intro d
  induction d with
  | zero =>
    intro m hm h
    have hnn : named s (l.getD j z52).f0 = false := by
      unfold named
      rw [List.any_eq_false]
      intro y hy
      obtain ⟨k, hk, rfl⟩ := List.getElem_of_mem hy
      have := h k (by omega)
      have e : s.getD k z89 = s[k] := by simp [hk]
      rw [e] at this
      simpa using this
    refine Ev.step (f := fun _ => some (fitsB s (s.getD i z89) (l.getD j z52))) (fun k => ?_) (Ev.now _)
    simp only [spec_l03Fits.l0, rd89_getD, rd52_getD, fitsB, hnn]
    rw [if_neg (by omega), if_pos (by omega), if_pos (by omega)]
    by_cases c : (s.getD i z89).f1 = 0
    · rw [if_pos c, if_pos (by omega), if_pos (by omega), decide_eq_true c]
      simp only [spec_l01In.f]
      by_cases c1 : (s.getD i z89).f0 ≥ (l.getD j z52).f1
      · rw [if_pos c1, decide_eq_true (show (l.getD j z52).f1 ≤ (s.getD i z89).f0 from c1)]
        rfl
      · rw [if_neg c1, decide_eq_false (show ¬ (l.getD j z52).f1 ≤ (s.getD i z89).f0 from c1)]
        rfl
    · rw [if_neg c, decide_eq_false c]
      rfl
  | succ d ih =>
    intro m hm h
    by_cases e : (s.getD m z89).f1 = (l.getD j z52).f0
    · have hnn : named s (l.getD j z52).f0 = true := by
        unfold named
        rw [List.any_eq_true]
        have hml : m < s.length := by omega
        refine ⟨s[m], List.getElem_mem hml, ?_⟩
        have e2 : s.getD m z89 = s[m] := by simp [hml]
        rw [e2] at e
        simpa using e
      have ef : fitsB s (s.getD i z89) (l.getD j z52) = false := by
        simp only [fitsB, hnn, Bool.not_true, Bool.and_false, Bool.false_and]
      rw [ef]
      refine Ev.step (f := fun _ => some false) (fun k => ?_) (Ev.now _)
      simp only [spec_l03Fits.l0, rd89_getD, rd52_getD]
      rw [if_pos (by omega), if_pos (by omega), if_pos (by omega), if_pos (by omega), if_pos e]
    · refine Ev.step (fun k => ?_) (ih (m + 1) (by omega) (fun k hk => by
        by_cases hkm : k = m
        · subst hkm; exact e
        · exact h k (by omega)))
      simp only [spec_l03Fits.l0, rd89_getD, rd52_getD]
      rw [if_pos (by omega), if_pos (by omega), if_pos (by omega), if_pos (by omega), if_neg e, wrap_in (x := (m : Int) + 1) (by omega) (by omega)]
      rfl
theorem spec_fits_ev (l : List S52) (s : List S89) (i j : Nat) (hi : i < s.length) (hj : j < l.length) (hs : s.length ≤ 6) : Ev (fun k => spec_l03Fits.f k l s (i : Int) (j : Int)) (fitsB s (s.getD i z89) (l.getD j z52)) :=
  Ev.congr (fun k => by simp only [spec_l03Fits.f]; rfl) (spec_fits_l l s i j hi hj hs s.length 0 (by omega) (fun k hk => by omega))
theorem ex_in {l : List S52} (h : exOk l = true) : l.length ≤ 6 ∧ ∀ j, j < l.length → 1 ≤ (l.getD j z52).f0 := by
  simp only [exOk, Bool.and_eq_true, decide_eq_true_eq, allF_iff] at h
  refine ⟨h.2, fun j hj => ?_⟩
  have := h.1 j (by omega) (by omega)
  simp only [exAt, Bool.and_eq_true, decide_eq_true_eq] at this
  exact this.1.1.1.1
theorem sg_in {s : List S89} (h : sgOk s = true) : s.length ≤ 6 ∧ ∀ j, j < s.length → 0 ≤ (s.getD j z89).f1 := by
  simp only [sgOk, Bool.and_eq_true, decide_eq_true_eq, allF_iff] at h
  refine ⟨h.2, fun j hj => ?_⟩
  have := h.1 j (by omega) (by omega)
  simp only [sgAt, Bool.and_eq_true, decide_eq_true_eq] at this
  exact this.1.1.2
def same (l : List S52) (b : Int) (e : S52) : Prop := b = -1 ∧ e.f0 = 0 ∨ ∃ j : Nat, b = j ∧ j < l.length ∧ l.getD j z52 = e ∧ 1 ≤ e.f0
end Go.Proofs.Ytdmbfmfdijgdkaa.Pu
