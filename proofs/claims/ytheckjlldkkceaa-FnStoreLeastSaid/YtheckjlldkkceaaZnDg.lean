import Derived.Test.YtheckjlldkkceaaZnLa
namespace Go.Proofs.Ytheckjlldkkceaa.Pu
open Go.RowKit Go.Proofs.Ytheckjlldkkceaa.Px Go.Proofs.YtheckjlldkkceaaW.PrintWords Go.Proofs.YtheckjlldkkceaaW.PrintLast
set_option linter.unusedVariables false
def lx (x b : S30) : Prop := x.f1 < b.f1 ∨ x.f1 = b.f1 ∧ x.f0 < b.f0
theorem nx_yes {b x : S30} (h : lx x b) : nx b x = x := if_pos h
theorem nx_no {b x : S30} (h : ¬ lx x b) : nx b x = b := if_neg h
theorem fold_nx : ∀ (m : List S30) (b : S30), (m.foldl nx b = b ∨ m.foldl nx b ∈ m) ∧ (∀ x ∈ m, ¬ lx x (m.foldl nx b)) ∧ ¬ lx b (m.foldl nx b)
  | [], b => ⟨.inl rfl, by simp, by simp [lx]⟩
  | x :: m, b => by
    rw [List.foldl_cons]
    by_cases h : lx x b
    · rw [nx_yes h]
      obtain ⟨h1, h2, h3⟩ := fold_nx m x
      generalize m.foldl nx x = r at *
      refine ⟨.inr ?_, fun y hy => ?_, fun hb => ?_⟩
      · rcases h1 with h1 | h1
        · rw [h1]; simp
        · exact List.mem_cons_of_mem _ h1
      · rcases List.mem_cons.1 hy with rfl | hy
        · exact h3
        · exact h2 y hy
      · apply h3
        unfold lx at *
        omega
    · rw [nx_no h]
      obtain ⟨h1, h2, h3⟩ := fold_nx m b
      generalize m.foldl nx b = r at *
      refine ⟨?_, fun y hy => ?_, h3⟩
      · rcases h1 with h1 | h1
        · exact .inl h1
        · exact .inr (List.mem_cons_of_mem _ h1)
      · rcases List.mem_cons.1 hy with rfl | hy
        · intro hr
          apply h3
          unfold lx at *
          omega
        · exact h2 y hy
def isNext (l : List (List S30)) (x : S30) : Prop := x ∈ l.flatten ∧ ∀ y ∈ l.flatten, ¬ lx y x
theorem isNext_one {l : List (List S30)} {x y : S30} (hx : isNext l x) (hy : isNext l y) : x = y := by
  have h1 := hx.2 y hy.1
  have h2 := hy.2 x hx.1
  cases x; cases y
  simp only [lx] at h1 h2
  simp only [S30.mk.injEq]
  omega
theorem first_is {l : List (List S30)} (hk : ∀ x ∈ l.flatten, okK x = true) (hn : l.flatten ≠ []) : isNext l (nxs ⟨0, 100001⟩ l) := by
  obtain ⟨h1, h2, h3⟩ := fold_nx l.flatten ⟨0, 100001⟩
  unfold nxs
  refine ⟨?_, h2⟩
  rcases h1 with h1 | h1
  · exfalso
    obtain ⟨x, hx⟩ := List.exists_mem_of_ne_nil _ hn
    have hk' := hk x hx
    simp only [okK, Bool.and_eq_true, decide_eq_true_eq] at hk'
    have := h2 x hx
    rw [h1] at this
    apply this
    left
    show x.f1 < 100001
    omega
  · exact h1
theorem first_none {l : List (List S30)} (hn : l.flatten = []) : nxs ⟨0, 100001⟩ l = ⟨0, 100001⟩ := by
  unfold nxs
  rw [hn]
  rfl
theorem okK_in {x : S30} (h : okK x = true) : 1 ≤ x.f0 ∧ 0 ≤ x.f1 ∧ x.f1 ≤ 100000 := by
  simp only [okK, Bool.and_eq_true, decide_eq_true_eq] at h
  exact ⟨h.1.1, h.1.2, h.2⟩
theorem nodup_inj {α β : Type} (f : α → β) : ∀ {m : List α}, (m.map f).Nodup → ∀ {x y}, x ∈ m → y ∈ m → f x = f y → x = y
  | [], _, x, _, hx, _, _ => by cases hx
  | z :: r, h, x, y, hx, hy, e => by
    rw [List.map_cons, List.nodup_cons] at h
    rcases List.mem_cons.1 hx with hx | hx
    · rcases List.mem_cons.1 hy with hy | hy
      · rw [hx, hy]
      · exfalso
        apply h.1
        rw [← hx, e]
        exact List.mem_map_of_mem hy
    · rcases List.mem_cons.1 hy with hy | hy
      · exfalso
        apply h.1
        rw [← hy, ← e]
        exact List.mem_map_of_mem hx
      · exact nodup_inj f h.2 hx hy e
theorem flat_set : ∀ (l : List (List S30)) (i : Nat) (y : List S30), i < l.length → (l.set i y).flatten.Perm (y ++ (l.eraseIdx i).flatten)
  | [], i, y, h => absurd h (by simp)
  | x :: r, 0, y, h => by simp
  | x :: r, i + 1, y, h => by
    simp only [List.set_cons_succ, List.flatten_cons, List.eraseIdx_cons_succ]
    have h1 := flat_set r i y (by simpa using h)
    refine (List.Perm.append_left x h1).trans ?_
    rw [← List.append_assoc, ← List.append_assoc]
    exact List.Perm.append_right _ List.perm_append_comm
theorem flat_at (l : List (List S30)) (i : Nat) (h : i < l.length) : l.flatten.Perm (l[i] ++ (l.eraseIdx i).flatten) := by
  have := flat_set l i l[i] h
  rwa [List.set_getElem_self] at this
theorem flat_off (l : List (List S30)) (i : Nat) (h : i < l.length) (m : List S30) (k : S30) (e : l[i] = m ++ [k]) : l.flatten.Perm (k :: (l.set i m).flatten) := by
  refine (flat_at l i h).trans ?_
  rw [e]
  refine List.Perm.trans ?_ (List.Perm.cons k (flat_set l i m h).symm)
  rw [List.append_assoc, List.singleton_append]
  exact List.perm_middle
theorem flat_on (l : List (List S30)) (t : Nat) (h : t < l.length) (k : S30) : (l.set t (l[t] ++ [k])).flatten.Perm (k :: l.flatten) := by
  refine (flat_set l t _ h).trans ?_
  rw [List.append_assoc, List.singleton_append]
  exact List.perm_middle.trans (List.Perm.cons k (flat_at l t h).symm)
theorem stOk_mk {a : Int} {l : List (List S30)} (h : 1 ≤ a ∧ a ≤ 5 ∧ 1 ≤ l.length ∧ l.length ≤ 4 ∧ (∀ x ∈ l, (x.length : Int) ≤ a) ∧ (∀ x ∈ l.flatten, okK x = true) ∧ (bags l).Nodup) : stOk a l = true := by
  obtain ⟨h1, h2, h3, h4, h5, h6, h7⟩ := h
  simp only [stOk, Bool.and_eq_true, decide_eq_true_eq, List.all_eq_true]
  exact ⟨⟨⟨⟨⟨⟨h1, h2⟩, h3⟩, h4⟩, h5⟩, h6⟩, h7⟩
theorem st_off {a : Int} {l : List (List S30)} (h : stOk a l = true) {i : Nat} (hi : i < l.length) {m : List S30} {k : S30} (e : l[i] = m ++ [k]) : stOk a (l.set i m) = true := by
  obtain ⟨h1, h2, h3, h4, h5, h6, h7⟩ := st_in h
  have hp := flat_off l i hi m k e
  refine stOk_mk ⟨h1, h2, by simpa using h3, by simpa using h4, fun x hx => ?_, fun x hx => h6 x (hp.mem_iff.2 (List.mem_cons_of_mem _ hx)), ?_⟩
  · rcases List.mem_or_eq_of_mem_set hx with hx | hx
    · exact h5 x hx
    · have := h5 l[i] (List.getElem_mem hi)
      rw [e, List.length_append] at this
      rw [hx]
      simp at this
      omega
  · unfold bags at h7 ⊢
    have := (hp.map (·.f0)).nodup_iff.1 h7
    rw [List.map_cons, List.nodup_cons] at this
    exact this.2
theorem st_on {a : Int} {l : List (List S30)} (h : stOk a l = true) {t : Nat} (ht : t < l.length) (hr : (l[t].length : Int) < a) {k : S30} (hk : okK k = true) (hn : k.f0 ∉ bags l) : stOk a (l.set t (l[t] ++ [k])) = true := by
  obtain ⟨h1, h2, h3, h4, h5, h6, h7⟩ := st_in h
  have hp := flat_on l t ht k
  refine stOk_mk ⟨h1, h2, by simpa using h3, by simpa using h4, fun x hx => ?_, fun x hx => ?_, ?_⟩
  · rcases List.mem_or_eq_of_mem_set hx with hx | hx
    · exact h5 x hx
    · rw [hx, List.length_append]
      simp
      omega
  · rcases List.mem_cons.1 (hp.mem_iff.1 hx) with rfl | hx
    · exact hk
    · exact h6 x hx
  · unfold bags at h7 hn ⊢
    refine (hp.map (·.f0)).nodup_iff.2 ?_
    rw [List.map_cons, List.nodup_cons]
    exact ⟨hn, h7⟩
def hopd (l : List (List S30)) (i t : Nat) (m : List S30) (k : S30) : List (List S30) := (l.set i m).set t (l.getD t [] ++ [k])
theorem hopd_len (l : List (List S30)) (i t : Nat) (m : List S30) (k : S30) : (hopd l i t m k).length = l.length := by simp [hopd]
theorem hopd_eq {l : List (List S30)} {i t : Nat} {m : List S30} {k : S30} (ht : t < l.length) (hti : t ≠ i) : hopd l i t m k = (l.set i m).set t ((l.set i m)[t]'(by simpa using ht) ++ [k]) := by
  unfold hopd
  rw [List.getElem_set_ne (Ne.symm hti), List.getD_eq_getElem?_getD, List.getElem?_eq_getElem ht]
  rfl
theorem hopd_perm {l : List (List S30)} {i t : Nat} {m : List S30} {k : S30} (hi : i < l.length) (ht : t < l.length) (hti : t ≠ i) (e : l[i] = m ++ [k]) : (hopd l i t m k).flatten.Perm l.flatten := by
  rw [hopd_eq ht hti]
  exact (flat_on (l.set i m) t (by simpa using ht) k).trans (flat_off l i hi m k e).symm
theorem st_hop {a : Int} {l : List (List S30)} (h : stOk a l = true) {i t : Nat} (hi : i < l.length) (ht : t < l.length) (hti : t ≠ i) (hr : (l[t].length : Int) < a) {m : List S30} {k : S30} (e : l[i] = m ++ [k]) : stOk a (hopd l i t m k) = true := by
  obtain ⟨h1, h2, h3, h4, h5, h6, h7⟩ := st_in h
  have hp := flat_off l i hi m k e
  rw [hopd_eq ht hti]
  refine st_on (st_off h hi e) (by simpa using ht) (by rw [List.getElem_set_ne (Ne.symm hti)]; exact hr) (h6 k (hp.mem_iff.2 (by simp))) ?_
  unfold bags at h7 ⊢
  have := (hp.map (·.f0)).nodup_iff.1 h7
  rw [List.map_cons, List.nodup_cons] at this
  exact this.1
theorem next_perm {l l' : List (List S30)} (hp : l'.flatten.Perm l.flatten) {x : S30} (h : isNext l x) : isNext l' x :=
  ⟨hp.mem_iff.2 h.1, fun y hy => h.2 y (hp.mem_iff.1 hy)⟩
theorem lane_one {a : Int} {l : List (List S30)} (h : stOk a l = true) {x : S30} {i j : Nat} (hi : i < l.length) (hj : j < l.length) (h1 : x ∈ l[i]) (h2 : x ∈ l[j]) : i = j := by
  obtain ⟨_, _, _, _, _, _, h7⟩ := st_in h
  by_cases e : j = i
  · exact e.symm
  · exfalso
    have hp := (flat_at l i hi).map (·.f0)
    have hn := hp.nodup_iff.1 h7
    rw [List.map_append, List.nodup_append] at hn
    refine hn.2.2 x.f0 (List.mem_map_of_mem h1) x.f0 (List.mem_map_of_mem (List.mem_flatten.2 ⟨l[j], ?_, h2⟩)) rfl
    rw [List.mem_eraseIdx_iff_getElem]
    exact ⟨j, hj, e, rfl⟩
theorem mem_lane {l : List (List S30)} {x : S30} (h : x ∈ l.flatten) : ∃ (i : Nat) (hi : i < l.length), x ∈ l[i] := by
  obtain ⟨m, hm, hx⟩ := List.mem_flatten.1 h
  obtain ⟨i, hi, rfl⟩ := List.getElem_of_mem hm
  exact ⟨i, hi, hx⟩
theorem lane_flat {l : List (List S30)} {i : Nat} (hi : i < l.length) {x : S30} (h : x ∈ l[i]) : x ∈ l.flatten := List.mem_flatten.2 ⟨_, List.getElem_mem hi, h⟩
theorem bag_one {a : Int} {l : List (List S30)} (h : stOk a l = true) {x y : S30} (hx : x ∈ l.flatten) (hy : y ∈ l.flatten) (e : x.f0 = y.f0) : x = y :=
  nodup_inj (m := l.flatten) (fun z : S30 => z.f0) (st_in h).2.2.2.2.2.2 hx hy e
inductive Dig (a : Int) : List (List S30) → Nat → Prop
  | none {l : List (List S30)} (h : l.flatten = []) : Dig a l 0
  | out {l : List (List S30)} {i : Nat} {m : List S30} {x : S30} {n : Nat} (hi : i < l.length) (hx : isNext l x) (e : l[i] = m ++ [x]) (h : Dig a (l.set i m) n) : Dig a l n
  | hop {l : List (List S30)} {i t : Nat} {m : List S30} {x k : S30} {n : Nat} (hi : i < l.length) (ht : t < l.length) (hx : isNext l x) (hm : x ∈ m) (e : l[i] = m ++ [k]) (hti : t ≠ i) (hr : (l[t].length : Int) < a) (h : Dig a (hopd l i t m k) n) : Dig a l (n + 1)
theorem bu_snoc (m : List S30) (x : S30) : ∀ (d j : Nat), j + d = m.length → bu (m ++ [x]) (d + 1) j = bu m d j + (if lst 100001 m < x.f1 then 1 else 0)
  | 0, j, h => by
    have hj : j = m.length := by omega
    subst hj
    simp [bu]
  | d + 1, j, h => by
    have ih := bu_snoc m x d (j + 1) (by omega)
    rw [bu, ih]
    simp only [bu]
    rw [List.take_append_of_le_length (by omega), show (m ++ [x]).getD j z30 = m.getD j z30 from by
      rw [List.getD_eq_getElem?_getD, List.getD_eq_getElem?_getD, List.getElem?_append_left (by omega)]]
    omega
theorem bu_last (m : List S30) (x : S30) : bu (m ++ [x]) (m ++ [x]).length 0 = bu m m.length 0 + (if lst 100001 m < x.f1 then 1 else 0) := by
  rw [List.length_append, List.length_singleton]
  exact bu_snoc m x m.length 0 (by omega)
theorem bus_set : ∀ (l : List (List S30)) (i : Nat) (y : List S30) (h : i < l.length), bus (l.set i y) + bu l[i] l[i].length 0 = bus l + bu y y.length 0
  | [], i, y, h => absurd h (by simp)
  | x :: r, 0, y, h => by simp [bus]; omega
  | x :: r, i + 1, y, h => by
    have := bus_set r i y (by simpa using h)
    simp only [List.set_cons_succ, bus, List.getElem_cons_succ]
    omega
theorem bus_none : ∀ (l : List (List S30)), l.flatten = [] → bus l = 0
  | [], _ => rfl
  | x :: r, h => by
    rw [List.flatten_cons, List.append_eq_nil_iff] at h
    rw [h.1, bus, bus_none r h.2]
    rfl
theorem dig_bus {a : Int} {l : List (List S30)} {n : Nat} (h : Dig a l n) : (∀ x ∈ l.flatten, x.f1 ≤ 100000) → bus l ≤ n := by
  induction h with
  | none h => intro _; rw [bus_none _ h]; omega
  | @out l i m x n hi hx e h ih =>
    intro hk
    have hp := flat_off l i hi m x e
    have h1 := ih (fun y hy => hk y (hp.mem_iff.2 (List.mem_cons_of_mem _ hy)))
    have h2 := bus_set l i m hi
    rw [e, bu_last] at h2
    have h3 : ¬ lst 100001 m < x.f1 := by
      rw [lst_lt]
      rintro (h | ⟨y, hy, h⟩)
      · have := hk x hx.1
        omega
      · exact hx.2 y (lane_flat hi (by rw [e]; simp [hy])) (.inl h)
    rw [if_neg h3] at h2
    omega
  | @hop l i t m x k n hi ht hx hm e hti hr h ih =>
    intro hk
    have hp := hopd_perm hi ht hti e
    have h1 := ih (fun y hy => hk y (hp.mem_iff.1 hy))
    have h2 := bus_set l i m hi
    rw [e, bu_last] at h2
    have h3 := bus_set (l.set i m) t ((l.set i m)[t]'(by simpa using ht) ++ [k]) (by simpa using ht)
    rw [bu_last, ← hopd_eq ht hti] at h3
    have h4 : ∀ (p : Prop) [Decidable p], (0 : Int) ≤ (if p then 1 else 0) ∧ (if p then 1 else 0 : Int) ≤ 1 := by
      intro p _
      split <;> omega
    have h5 := h4 (lst 100001 m < k.f1)
    have h6 := h4 (lst 100001 ((l.set i m)[t]'(by simpa using ht)) < k.f1)
    omega
def Least (a : Int) (l : List (List S30)) (r : Int) : Prop := r = -1 ∧ (∀ n, ¬ Dig a l n) ∨ 0 ≤ r ∧ Dig a l r.toNat ∧ ∀ n : Nat, Dig a l n → r ≤ n
end Go.Proofs.Ytheckjlldkkceaa.Pu
