import Derived.Test.YtheckjlldkkceaaZnSo
import Derived.Test.YtheckjlldkkceaaZnPx9
import Derived.Test.YtheckjlldkkceaaZnPx0
import Derived.Test.YtheckjlldkkceaaZnPx3
namespace Go.Proofs.Ytheckjlldkkceaa.Pu
open Go.RowKit Go.Proofs.Ytheckjlldkkceaa.Px Go.Proofs.YtheckjlldkkceaaW.PrintWords Go.Proofs.YtheckjlldkkceaaW.PrintLast
set_option linter.unusedVariables false
def nx (b x : S30) : S30 := if x.f1 < b.f1 ∨ x.f1 = b.f1 ∧ x.f0 < b.f0 then x else b
def nxs (b : S30) (l : List (List S30)) : S30 := l.flatten.foldl nx b
theorem spec_nx_l1 (a : Int) (l : List (List S30)) (i : Nat) (hi : i < l.length) (hm : l[i].length ≤ 1048576) (r : Int) : ∀ (d j : Nat), j + d = l[i].length → ∀ b : S30,
    Ev (fun k => spec_NextOut.l0 k (wrap64 ((i : Int) + 1)) a l ((l[i].drop j).foldl nx b).f0 ((l[i].drop j).foldl nx b).f1) r → Ev (fun k => spec_NextOut.l1 k (i : Int) (j : Int) a l b.f0 b.f1) r := by
  have ei : rd_L2 l (i : Int) = l[i] := rdL2_nat l i hi
  intro d
  induction d with
  | zero =>
    intro j hj b h
    rw [List.drop_of_length_le (by omega)] at h
    refine Ev.step (fun k => ?_) h
    simp only [spec_NextOut.l1, ei]
    rw [if_pos (by omega), if_pos (by omega), if_neg (by omega)]
    rfl
  | succ d ih =>
    intro j hj b h
    have hjl : j < l[i].length := by omega
    have ej : rd_T30 l[i] (j : Int) = l[i][j] := rd30_nat l[i] j hjl
    rw [List.drop_eq_getElem_cons hjl, List.foldl_cons] at h
    generalize hx : l[i][j] = x at ej h
    have next := ih (j + 1) (by omega) (nx b x) h
    have yes : x.f1 < b.f1 ∨ x.f1 = b.f1 ∧ x.f0 < b.f0 → Ev (fun k => spec_NextOut.j2 k (i : Int) (j : Int) true a l b.f0 b.f1 x.f0 x.f1) r := by
      intro hc
      have e : nx b x = x := by unfold nx; rw [if_pos hc]
      rw [e] at next
      refine Ev.step (fun k => ?_) next
      simp only [spec_NextOut.j2]
      rw [if_pos trivial, wrap_in (x := (j : Int) + 1) (by omega) (by omega)]
      rfl
    have no : ¬ (x.f1 < b.f1 ∨ x.f1 = b.f1 ∧ x.f0 < b.f0) → Ev (fun k => spec_NextOut.j2 k (i : Int) (j : Int) false a l b.f0 b.f1 x.f0 x.f1) r := by
      intro hc
      have e : nx b x = b := by unfold nx; rw [if_neg hc]
      rw [e] at next
      refine Ev.step (fun k => ?_) next
      simp only [spec_NextOut.j2]
      rw [if_neg (by simp), wrap_in (x := (j : Int) + 1) (by omega) (by omega)]
      rfl
    by_cases c1 : x.f1 < b.f1
    · refine Ev.step (fun k => ?_) (yes (.inl c1))
      simp only [spec_NextOut.l1, ei, ej]
      rw [if_pos (by omega), if_pos (by omega), if_pos (by omega), if_pos (by omega), if_pos c1]
    · by_cases c2 : x.f1 = b.f1
      · by_cases c3 : x.f0 < b.f0
        · refine Ev.step (fun k => ?_) (yes (.inr ⟨c2, c3⟩))
          simp only [spec_NextOut.l1, ei, ej]
          rw [if_pos (by omega), if_pos (by omega), if_pos (by omega), if_pos (by omega), if_neg c1, if_pos c2, decide_eq_true c3]
        · refine Ev.step (fun k => ?_) (no (fun h => by rcases h with h | h; exact c1 h; exact c3 h.2))
          simp only [spec_NextOut.l1, ei, ej]
          rw [if_pos (by omega), if_pos (by omega), if_pos (by omega), if_pos (by omega), if_neg c1, if_pos c2, decide_eq_false c3]
      · refine Ev.step (fun k => ?_) (no (fun h => by rcases h with h | h; exact c1 h; exact c2 h.1))
        simp only [spec_NextOut.l1, ei, ej]
        rw [if_pos (by omega), if_pos (by omega), if_pos (by omega), if_pos (by omega), if_neg c1, if_neg c2]
theorem spec_nx_l0 (a : Int) (l : List (List S30)) (hl : l.length ≤ 1048576) (hm : ∀ x ∈ l, x.length ≤ 1048576) : ∀ (d i : Nat), i + d = l.length → ∀ b : S30, Ev (fun k => spec_NextOut.l0 k (i : Int) a l b.f0 b.f1) (nxs b (l.drop i)).f0 := by
  intro d
  induction d with
  | zero =>
    intro i hi b
    rw [List.drop_of_length_le (by omega)]
    refine Ev.step (f := fun _ => some b.f0) (fun k => ?_) (Ev.now _)
    simp only [spec_NextOut.l0]
    rw [if_neg (by omega)]
  | succ d ih =>
    intro i hi b
    have hlt : i < l.length := by omega
    have h := ih (i + 1) (by omega) (l[i].foldl nx b)
    rw [List.drop_eq_getElem_cons hlt]
    unfold nxs at h ⊢
    rw [List.flatten_cons, List.foldl_append]
    refine Ev.step (fun k => ?_) (spec_nx_l1 a l i hlt (hm _ (List.getElem_mem hlt)) _ l[i].length 0 (by omega) b (by rw [wrap_in (x := (i : Int) + 1) (by omega) (by omega), List.drop_zero]; exact h))
    simp only [spec_NextOut.l0]
    rw [if_pos (by omega)]
    rfl
def ny (b x : S30) : S30 := if b.f0 = 0 ∨ x.f1 < b.f1 ∨ x.f1 = b.f1 ∧ x.f0 < b.f0 then x else b
theorem impl_nx_l1 (l : List (List S30)) (i : Int) (m : List S30) (hm : m.length ≤ 1048576) (r : Int) : ∀ (d j : Nat), j + d = m.length → ∀ b : S30,
    Ev (fun k => impl_nextOut.l0 k l (l.length : Int) (wrap64 (i + 1)) ((m.drop j).foldl ny b).f0 ((m.drop j).foldl ny b).f1) r → Ev (fun k => impl_nextOut.l1 k l (l.length : Int) i m (m.length : Int) (j : Int) b.f0 b.f1) r := by
  intro d
  induction d with
  | zero =>
    intro j hj b h
    rw [List.drop_of_length_le (by omega)] at h
    refine Ev.step (fun k => ?_) h
    simp only [impl_nextOut.l1]
    rw [if_neg (by omega)]
    rfl
  | succ d ih =>
    intro j hj b h
    have hjl : j < m.length := by omega
    have ej : rd_T30 m (j : Int) = m[j] := rd30_nat m j hjl
    rw [List.drop_eq_getElem_cons hjl, List.foldl_cons] at h
    generalize hx : m[j] = x at ej h
    have next := ih (j + 1) (by omega) (ny b x) h
    have yes : b.f0 = 0 ∨ x.f1 < b.f1 ∨ x.f1 = b.f1 ∧ x.f0 < b.f0 → Ev (fun k => impl_nextOut.j2 k l (l.length : Int) i m (m.length : Int) (j : Int) true b.f0 b.f1 x.f0 x.f1) r := by
      intro hc
      have e : ny b x = x := by unfold ny; rw [if_pos hc]
      rw [e] at next
      refine Ev.step (fun k => ?_) next
      simp only [impl_nextOut.j2]
      rw [if_pos trivial, wrap_in (x := (j : Int) + 1) (by omega) (by omega)]
      rfl
    have no : ¬ (b.f0 = 0 ∨ x.f1 < b.f1 ∨ x.f1 = b.f1 ∧ x.f0 < b.f0) → Ev (fun k => impl_nextOut.j2 k l (l.length : Int) i m (m.length : Int) (j : Int) false b.f0 b.f1 x.f0 x.f1) r := by
      intro hc
      have e : ny b x = b := by unfold ny; rw [if_neg hc]
      rw [e] at next
      refine Ev.step (fun k => ?_) next
      simp only [impl_nextOut.j2]
      rw [if_neg (by simp), wrap_in (x := (j : Int) + 1) (by omega) (by omega)]
      rfl
    by_cases c0 : b.f0 = 0
    · refine Ev.step (fun k => ?_) (yes (.inl c0))
      simp only [impl_nextOut.l1, ej]
      rw [if_pos (by omega), if_pos (by omega), if_pos (by omega), if_pos c0]
    · by_cases c1 : x.f1 < b.f1
      · refine Ev.step (fun k => ?_) (yes (.inr (.inl c1)))
        simp only [impl_nextOut.l1, ej]
        rw [if_pos (by omega), if_pos (by omega), if_pos (by omega), if_neg c0, if_pos c1]
      · by_cases c2 : x.f1 = b.f1
        · by_cases c3 : x.f0 < b.f0
          · refine Ev.step (fun k => ?_) (yes (.inr (.inr ⟨c2, c3⟩)))
            simp only [impl_nextOut.l1, ej]
            rw [if_pos (by omega), if_pos (by omega), if_pos (by omega), if_neg c0, if_neg c1, if_pos c2, decide_eq_true c3]
          · refine Ev.step (fun k => ?_) (no (fun h => by rcases h with h | h | h; exact c0 h; exact c1 h; exact c3 h.2))
            simp only [impl_nextOut.l1, ej]
            rw [if_pos (by omega), if_pos (by omega), if_pos (by omega), if_neg c0, if_neg c1, if_pos c2, decide_eq_false c3]
        · refine Ev.step (fun k => ?_) (no (fun h => by rcases h with h | h | h; exact c0 h; exact c1 h; exact c2 h.1))
          simp only [impl_nextOut.l1, ej]
          rw [if_pos (by omega), if_pos (by omega), if_pos (by omega), if_neg c0, if_neg c1, if_neg c2]
theorem impl_nx_l0 (l : List (List S30)) (hl : l.length ≤ 1048576) (hm : ∀ x ∈ l, x.length ≤ 1048576) : ∀ (d i : Nat), i + d = l.length → ∀ b : S30, Ev (fun k => impl_nextOut.l0 k l (l.length : Int) (i : Int) b.f0 b.f1) ((l.drop i).flatten.foldl ny b).f0 := by
  intro d
  induction d with
  | zero =>
    intro i hi b
    rw [List.drop_of_length_le (by omega)]
    refine Ev.step (f := fun _ => some b.f0) (fun k => ?_) (Ev.now _)
    simp only [impl_nextOut.l0]
    rw [if_neg (by omega)]
  | succ d ih =>
    intro i hi b
    have hlt : i < l.length := by omega
    have h := ih (i + 1) (by omega) (l[i].foldl ny b)
    rw [List.drop_eq_getElem_cons hlt, List.flatten_cons, List.foldl_append]
    refine Ev.step (fun k => ?_) (impl_nx_l1 l (i : Int) l[i] (hm _ (List.getElem_mem hlt)) _ l[i].length 0 (by omega) b (by rw [wrap_in (x := (i : Int) + 1) (by omega) (by omega), List.drop_zero]; exact h))
    simp only [impl_nextOut.l0]
    rw [if_pos (by omega), if_pos (by omega), if_pos (by omega), rdL2_nat l i hlt]
    rfl
theorem ny_nx : ∀ (m : List S30) (b : S30), (∀ x ∈ m, okK x = true) → b.f0 ≠ 0 → m.foldl ny b = m.foldl nx b
  | [], b, _, _ => rfl
  | x :: r, b, h, hb => by
    have hx := h x (by simp)
    simp only [okK, Bool.and_eq_true, decide_eq_true_eq] at hx
    have e : ny b x = nx b x := by
      unfold ny nx
      by_cases c : x.f1 < b.f1 ∨ x.f1 = b.f1 ∧ x.f0 < b.f0
      · rw [if_pos (.inr c), if_pos c]
      · rw [if_neg (fun h => by rcases h with h | h; exact hb h; exact c h), if_neg c]
    rw [List.foldl_cons, List.foldl_cons, e]
    refine ny_nx r _ (fun y hy => h y (by simp [hy])) ?_
    unfold nx
    split
    · omega
    · exact hb
theorem first_nx (m : List S30) (h : ∀ x ∈ m, okK x = true) : (m.foldl ny ⟨0, 0⟩).f0 = (m.foldl nx ⟨0, 100001⟩).f0 := by
  cases m with
  | nil => rfl
  | cons x r =>
    have hx := h x (by simp)
    simp only [okK, Bool.and_eq_true, decide_eq_true_eq] at hx
    have e1 : ny ⟨0, 0⟩ x = x := by unfold ny; rw [if_pos (.inl rfl)]
    have e2 : nx ⟨0, 100001⟩ x = x := by unfold nx; rw [if_pos (.inl (show x.f1 < 100001 by omega))]
    rw [List.foldl_cons, List.foldl_cons, e1, e2, ny_nx r x (fun y hy => h y (by simp [hy])) (by omega)]
def nextOut (a : Int) (l : List (List S30)) : Int := if stOk a l = true then (nxs ⟨0, 100001⟩ l).f0 else 0
theorem st_in {a : Int} {l : List (List S30)} (h : stOk a l = true) : 1 ≤ a ∧ a ≤ 5 ∧ 1 ≤ l.length ∧ l.length ≤ 4 ∧ (∀ x ∈ l, (x.length : Int) ≤ a) ∧ (∀ x ∈ l.flatten, okK x = true) ∧ (bags l).Nodup := by
  simp only [stOk, Bool.and_eq_true, decide_eq_true_eq, List.all_eq_true] at h
  exact ⟨h.1.1.1.1.1.1, h.1.1.1.1.1.2, h.1.1.1.1.2, h.1.1.1.2, h.1.1.2, h.1.2, h.2⟩
theorem spec_nx_ev (a : Int) (l : List (List S30)) : Ev (fun k => spec_NextOut.f k a l) (nextOut a l) := by
  unfold nextOut
  by_cases h : stOk a l = true
  · rw [if_pos h]
    obtain ⟨h1, h2, h3, h4, h5, h6, h7⟩ := st_in h
    have hs := spec_nx_l0 a l (by omega) (fun x hx => by have := h5 x hx; omega) l.length 0 (by omega) ⟨0, 100001⟩
    refine Lt.ev ((Lt.of (spec_st_ev a l)).and (Lt.of hs)) fun k ⟨e1, e2⟩ => ?_
    simp only [spec_NextOut.f, e1, h, Option.bind_some]
    rw [if_pos trivial]
    simpa using e2
  · rw [if_neg h]
    refine Lt.ev (Lt.of (spec_st_ev a l)) fun k e1 => ?_
    simp only [spec_NextOut.f, e1, Option.bind_some]
    rw [if_neg h]
end Go.Proofs.Ytheckjlldkkceaa.Pu
