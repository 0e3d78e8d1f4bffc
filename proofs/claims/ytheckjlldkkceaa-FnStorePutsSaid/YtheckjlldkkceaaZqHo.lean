import Derived.Test.YtheckjlldkkceaaZqTk
import Derived.Test.YtheckjlldkkceaaZqPx4
import Derived.Test.YtheckjlldkkceaaZqPx7
import Derived.Test.YtheckjlldkkceaaZqPx8
import Derived.Test.YtheckjlldkkceaaZqPx0
import Derived.Test.YtheckjlldkkceaaZqPx3
import Derived.Test.YtheckjlldkkceaaZqPx11
namespace Go.Proofs.Ytheckjlldkkceaa.Pu
open Go.RowKit Go.Proofs.Ytheckjlldkkceaa.Px Go.Proofs.YtheckjlldkkceaaW.PrintWords Go.Proofs.YtheckjlldkkceaaW.PrintLast Go.Proofs.YtheckjlldkkceaaW.PrintMore
set_option linter.unusedVariables false
theorem copyI_l (a : Int) (l : List (List S30)) (hl : l.length ≤ 1048576) (hm : ∀ x ∈ l, x.length ≤ 1048576) : ∀ (d i : Nat), i + d = l.length → ∀ acc, acc = l.take i → Ev (fun k => impl_copyStore.l0 k l (l.length : Int) (i : Int) a acc) (a, l) := by
  intro d
  induction d with
  | zero =>
    intro i hi acc ha
    rw [List.take_of_length_le (by omega)] at ha
    subst ha
    refine Ev.step (f := fun _ => some (a, acc)) (fun k => ?_) (Ev.now _)
    simp only [impl_copyStore.l0]
    rw [if_neg (by omega)]
  | succ d ih =>
    intro i hi acc ha
    have hlt : i < l.length := by omega
    have hml := hm _ (List.getElem_mem hlt)
    refine Ev.step (fun k => ?_) (ih (i + 1) (by omega) (acc ++ [l[i]]) (by rw [ha, List.take_succ_eq_append_getElem hlt]))
    simp only [impl_copyStore.l0, impl_Kept_90.f]
    rw [if_pos (by omega), if_pos (by omega), if_pos (by omega), rdL2_nat l i hlt, if_pos (by omega)]
    simp only [Option.bind_some]
    rw [if_pos (by rw [ha, List.length_take]; omega), wrap_in (x := (i : Int) + 1) (by omega) (by omega)]
    rfl
theorem copyI_ev (a : Int) (l : List (List S30)) (hl : l.length ≤ 1048576) (hm : ∀ x ∈ l, x.length ≤ 1048576) : Ev (fun k => impl_copyStore.f k a l) (a, l) :=
  Ev.congr (fun k => by simp only [impl_copyStore.f]; rfl) (copyI_l a l hl hm l.length 0 (by omega) [] (by simp))
theorem copyS_l (a : Int) (l : List (List S30)) (hl : l.length ≤ 1048576) (hm : ∀ x ∈ l, x.length ≤ 1048576) : ∀ (d i : Nat), i + d = l.length → ∀ acc, acc = l.take i → Ev (fun k => spec_l06Copy.l0 k acc (i : Int) a l) (a, l) := by
  intro d
  induction d with
  | zero =>
    intro i hi acc ha
    rw [List.take_of_length_le (by omega)] at ha
    subst ha
    refine Ev.step (f := fun _ => some (a, acc)) (fun k => ?_) (Ev.now _)
    simp only [spec_l06Copy.l0]
    rw [if_neg (by omega)]
  | succ d ih =>
    intro i hi acc ha
    have hlt : i < l.length := by omega
    have hml := hm _ (List.getElem_mem hlt)
    refine Ev.step (fun k => ?_) (ih (i + 1) (by omega) (acc ++ [l[i]]) (by rw [ha, List.take_succ_eq_append_getElem hlt]))
    simp only [spec_l06Copy.l0]
    rw [if_pos (by omega)]
    simp only [Option.bind_some]
    rw [if_pos (by omega), rdL2_nat l i hlt, if_pos (by simp; omega), if_pos (by rw [ha, List.length_take]; omega), wrap_in (x := (i : Int) + 1) (by omega) (by omega), List.nil_append]
    rfl
theorem copyS_ev (a : Int) (l : List (List S30)) (hl : l.length ≤ 1048576) (hm : ∀ x ∈ l, x.length ≤ 1048576) : Ev (fun k => spec_l06Copy.f k a l) (a, l) :=
  Ev.congr (fun k => by simp only [spec_l06Copy.f]; rfl) (copyS_l a l hl hm l.length 0 (by omega) [] (by simp))
def hasB (b : Int) (m : List S30) : Bool := m.any fun y => y.f0 == b
def fnd (l : List (List S30)) (b : Int) : Int := Opens.idxB (hasB b) l
theorem find_l1 (a : Int) (l : List (List S30)) (b : Int) (i : Nat) (hi : i < l.length) (hm : l[i].length ≤ 1048576) (r : Int) : ∀ (d j : Nat), j + d = l[i].length →
    (hasB b (l[i].drop j) = true → r = i) → (hasB b (l[i].drop j) = false → Ev (fun k => spec_l06Find.l0 k b (wrap64 ((i : Int) + 1)) a l) r) → Ev (fun k => spec_l06Find.l1 k b (i : Int) (j : Int) a l) r := by
  have ei : rd_L2 l (i : Int) = l[i] := rdL2_nat l i hi
  intro d
  induction d with
  | zero =>
    intro j hj h1 h2
    rw [List.drop_of_length_le (by omega)] at h2
    refine Ev.step (fun k => ?_) (h2 rfl)
    simp only [spec_l06Find.l1, ei]
    rw [if_pos (by omega), if_pos (by omega), if_neg (by omega)]
  | succ d ih =>
    intro j hj h1 h2
    have hjl : j < l[i].length := by omega
    have ej : rd_T30 l[i] (j : Int) = l[i][j] := rd30_nat l[i] j hjl
    rw [List.drop_eq_getElem_cons hjl] at h1 h2
    simp only [hasB, List.any_cons] at h1 h2
    by_cases hb : l[i][j].f0 = b
    · have hr := h1 (by rw [hb]; simp)
      refine Ev.step (f := fun _ => some r) (fun k => ?_) (Ev.now _)
      simp only [spec_l06Find.l1, ei, ej]
      rw [if_pos (by omega), if_pos (by omega), if_pos (by omega), if_pos (by omega), if_pos hb, hr]
    · have hb' : (l[i][j].f0 == b) = false := by simpa using hb
      rw [hb', Bool.false_or] at h1 h2
      refine Ev.step (fun k => ?_) (ih (j + 1) (by omega) h1 h2)
      simp only [spec_l06Find.l1, ei, ej]
      rw [if_pos (by omega), if_pos (by omega), if_pos (by omega), if_pos (by omega), if_neg hb, wrap_in (x := (j : Int) + 1) (by omega) (by omega)]
      rfl
theorem find_l0 (a : Int) (l : List (List S30)) (b : Int) (hl : l.length ≤ 1048576) (hm : ∀ x ∈ l, x.length ≤ 1048576) : ∀ (d i : Nat), i + d = l.length → (∀ j (hj : j < l.length), j < i → hasB b l[j] = false) → Ev (fun k => spec_l06Find.l0 k b (i : Int) a l) (fnd l b) := by
  intro d
  induction d with
  | zero =>
    intro i hi ha
    have e : fnd l b = -1 := Opens.idxB_miss _ l (fun j hj => ha j hj (by omega))
    rw [e]
    refine Ev.step (f := fun _ => some (-1)) (fun k => ?_) (Ev.now _)
    simp only [spec_l06Find.l0]
    rw [if_neg (by omega)]
  | succ d ih =>
    intro i hi ha
    have hlt : i < l.length := by omega
    refine Ev.step (fun k => ?_) (find_l1 a l b i hlt (hm _ (List.getElem_mem hlt)) (fnd l b) l[i].length 0 (by omega) (fun h => ?_) (fun h => ?_))
    · simp only [spec_l06Find.l0]
      rw [if_pos (by omega)]
      rfl
    · rw [List.drop_zero] at h
      exact Opens.idxB_hit _ l i hlt h (fun j hj => ha j (by omega) hj)
    · rw [List.drop_zero] at h
      rw [wrap_in (x := (i : Int) + 1) (by omega) (by omega)]
      refine ih (i + 1) (by omega) (fun j hj hji => ?_)
      by_cases e : j = i
      · subst e; exact h
      · exact ha j hj (by omega)
theorem find_ev (a : Int) (l : List (List S30)) (b : Int) (hl : l.length ≤ 1048576) (hm : ∀ x ∈ l, x.length ≤ 1048576) : Ev (fun k => spec_l06Find.f k a l b) (fnd l b) :=
  Ev.congr (fun k => by simp only [spec_l06Find.f]; rfl) (find_l0 a l b hl hm l.length 0 (by omega) (fun j hj h => absurd h (by omega)))
theorem st_small {a : Int} {l : List (List S30)} (h : stOk a l = true) : l.length ≤ 1048576 ∧ ∀ x ∈ l, x.length ≤ 1048576 := by
  obtain ⟨h1, h2, h3, h4, h5, h6, h7⟩ := st_in h
  exact ⟨by omega, fun x hx => by have := h5 x hx; omega⟩
end Go.Proofs.Ytheckjlldkkceaa.Pu
