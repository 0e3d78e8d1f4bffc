import Derived.Test.YtheckjlldkkceaaZqLa
namespace Go.Proofs.Ytheckjlldkkceaa.Pu
open Go.RowKit Go.Proofs.Ytheckjlldkkceaa.Px Go.Proofs.YtheckjlldkkceaaW.PrintWords Go.Proofs.YtheckjlldkkceaaW.PrintLast
set_option linter.unusedVariables false
theorem flat_set : ∀ (l : List (List S30)) (i : Nat) (y : List S30), i < l.length → (l.set i y).flatten.Perm (y ++ (l.eraseIdx i).flatten)
  | [], i, y, h => absurd h (by simp)
  | x :: r, 0, y, h => by simp
  | x :: r, i + 1, y, h => by
    simp only [List.set_cons_succ, List.flatten_cons, List.eraseIdx_cons_succ]
    have h1 := flat_set r i y (by simpa using h)
    refine (List.Perm.append_left x h1).trans ?_
    rw [← List.append_assoc, ← List.append_assoc]
    exact List.Perm.append_right _ List.perm_append_comm
theorem flat_at (l : List (List S30)) (i : Nat) (h : i < l.length) : l.flatten.Perm (l[i] ++ (l.eraseIdx i).flatten) := by
  have := flat_set l i l[i] h
  rwa [List.set_getElem_self] at this
theorem flat_on (l : List (List S30)) (t : Nat) (h : t < l.length) (k : S30) : (l.set t (l[t] ++ [k])).flatten.Perm (k :: l.flatten) := by
  refine (flat_set l t _ h).trans ?_
  rw [List.append_assoc, List.singleton_append]
  exact List.perm_middle.trans (List.Perm.cons k (flat_at l t h).symm)
theorem stOk_mk {a : Int} {l : List (List S30)} (h : 1 ≤ a ∧ a ≤ 5 ∧ 1 ≤ l.length ∧ l.length ≤ 4 ∧ (∀ x ∈ l, (x.length : Int) ≤ a) ∧ (∀ x ∈ l.flatten, okK x = true) ∧ (bags l).Nodup) : stOk a l = true := by
  obtain ⟨h1, h2, h3, h4, h5, h6, h7⟩ := h
  simp only [stOk, Bool.and_eq_true, decide_eq_true_eq, List.all_eq_true]
  exact ⟨⟨⟨⟨⟨⟨h1, h2⟩, h3⟩, h4⟩, h5⟩, h6⟩, h7⟩
theorem st_on {a : Int} {l : List (List S30)} (h : stOk a l = true) {t : Nat} (ht : t < l.length) (hr : (l[t].length : Int) < a) {k : S30} (hk : okK k = true) (hn : k.f0 ∉ bags l) : stOk a (l.set t (l[t] ++ [k])) = true := by
  obtain ⟨h1, h2, h3, h4, h5, h6, h7⟩ := st_in h
  have hp := flat_on l t ht k
  refine stOk_mk ⟨h1, h2, by simpa using h3, by simpa using h4, fun x hx => ?_, fun x hx => ?_, ?_⟩
  · rcases List.mem_or_eq_of_mem_set hx with hx | hx
    · exact h5 x hx
    · rw [hx, List.length_append]
      simp
      omega
  · rcases List.mem_cons.1 (hp.mem_iff.1 hx) with rfl | hx
    · exact hk
    · exact h6 x hx
  · unfold bags at h7 hn ⊢
    refine (hp.map (·.f0)).nodup_iff.2 ?_
    rw [List.map_cons, List.nodup_cons]
    exact ⟨hn, h7⟩
theorem bu_snoc (m : List S30) (x : S30) : ∀ (d j : Nat), j + d = m.length → bu (m ++ [x]) (d + 1) j = bu m d j + (if lst 100001 m < x.f1 then 1 else 0)
  | 0, j, h => by
    have hj : j = m.length := by omega
    subst hj
    simp [bu]
  | d + 1, j, h => by
    have ih := bu_snoc m x d (j + 1) (by omega)
    rw [bu, ih]
    simp only [bu]
    rw [List.take_append_of_le_length (by omega), show (m ++ [x]).getD j z30 = m.getD j z30 from by
      rw [List.getD_eq_getElem?_getD, List.getD_eq_getElem?_getD, List.getElem?_append_left (by omega)]]
    omega
theorem bu_last (m : List S30) (x : S30) : bu (m ++ [x]) (m ++ [x]).length 0 = bu m m.length 0 + (if lst 100001 m < x.f1 then 1 else 0) := by
  rw [List.length_append, List.length_singleton]
  exact bu_snoc m x m.length 0 (by omega)
theorem bus_set : ∀ (l : List (List S30)) (i : Nat) (y : List S30) (h : i < l.length), bus (l.set i y) + bu l[i] l[i].length 0 = bus l + bu y y.length 0
  | [], i, y, h => absurd h (by simp)
  | x :: r, 0, y, h => by simp [bus]; omega
  | x :: r, i + 1, y, h => by
    have := bus_set r i y (by simpa using h)
    simp only [List.set_cons_succ, bus, List.getElem_cons_succ]
    omega
end Go.Proofs.Ytheckjlldkkceaa.Pu
