import Derived.Test.YtheckjlldkkceaaZnDg
namespace Go.Proofs.Ytheckjlldkkceaa.Pu
open Go.RowKit Go.Proofs.Ytheckjlldkkceaa.Px Go.Proofs.YtheckjlldkkceaaW.PrintWords Go.Proofs.YtheckjlldkkceaaW.PrintLast
set_option linter.unusedVariables false
def okL (N : Nat → Int) (a but : Int) (n : Nat) (z : Int) : Prop := 0 ≤ z → ∃ j : Nat, z = (j : Int) ∧ j < n ∧ (j : Int) ≠ but ∧ N j < a
theorem laS_ok (F : Int → Int) (N : Nat → Int) (a time but : Int) (n : Nat) : ∀ (d i : Nat) (o e g : Int), i + d ≤ n → okL N a but n o → okL N a but n e → okL N a but n g → okL N a but n (laS F N a time but d i o e g)
  | 0, i, o, e, g, h, ho, he, hg => by
    simp only [laS, fin3]
    split
    · exact ho
    · split
      · exact he
      · exact hg
  | d + 1, i, o, e, g, h, ho, he, hg => by
    simp only [laS]
    by_cases c1 : (i : Int) = but ∨ N i ≥ a
    · rw [if_pos c1]
      exact laS_ok F N a time but n d (i + 1) o e g (by omega) ho he hg
    · rw [if_neg c1]
      have hi : okL N a but n (i : Int) := fun _ => ⟨i, rfl, by omega, fun e => c1 (.inl e), by omega⟩
      have pick : ∀ (p : Prop) [Decidable p] (z : Int), okL N a but n z → okL N a but n (if p then (i : Int) else z) := by
        intro p _ z hz
        split
        · exact hi
        · exact hz
      by_cases c2 : N i = 0
      · rw [if_pos c2]
        exact laS_ok F N a time but n d (i + 1) o _ g (by omega) ho (pick _ _ he) hg
      · rw [if_neg c2]
        exact laS_ok F N a time but n d (i + 1) _ e _ (by omega) (pick _ _ ho) he (pick _ _ hg)
theorem laneFor_in {a : Int} {l : List (List S30)} {time but : Int} (h : 0 ≤ laneFor a l time but) : ∃ (j : Nat) (hj : j < l.length), laneFor a l time but = (j : Int) ∧ (j : Int) ≠ but ∧ (l[j].length : Int) < a := by
  unfold laneFor at h ⊢
  by_cases c : stOk a l = true ∧ 0 ≤ time ∧ time ≤ 100000
  · rw [if_pos c] at h ⊢
    obtain ⟨j, e, hj, hb, hn⟩ := laS_ok (fS l) (nL l) a time but l.length l.length 0 (-1) (-1) (-1) (by omega) (fun h => absurd h (by omega)) (fun h => absurd h (by omega)) (fun h => absurd h (by omega)) h
    refine ⟨j, hj, e, hb, ?_⟩
    unfold nL at hn
    rwa [rdL2_nat l j hj] at hn
  · rw [if_neg c] at h
    omega
def tk (a : Int) (i : Nat) : Nat → List (List S30) → List S78 → Option (List (List S30) × List S78)
  | 0, l, h => some (l.set i (l.getD i []).dropLast, h)
  | d + 1, l, h =>
    if laneFor a l ((l.getD i []).getLastD z30).f1 (i : Int) < 0 then none
    else tk a i d (hopd l i (laneFor a l ((l.getD i []).getLastD z30).f1 (i : Int)).toNat (l.getD i []).dropLast ((l.getD i []).getLastD z30)) (h ++ [⟨((l.getD i []).getLastD z30).f0, i, laneFor a l ((l.getD i []).getLastD z30).f1 (i : Int)⟩])
theorem getD_at {α : Type} (l : List α) (i : Nat) (z : α) (h : i < l.length) : l.getD i z = l[i] := by rw [List.getD_eq_getElem?_getD, List.getElem?_eq_getElem h]; rfl
theorem last_snoc (m : List S30) (k z : S30) : (m ++ [k]).getLastD z = k := by rw [List.getLastD_eq_getLast?]; simp
theorem hopd_at {l : List (List S30)} {i t : Nat} {m : List S30} {k : S30} (hi : i < l.length) (hti : t ≠ i) : (hopd l i t m k)[i]'(by rw [hopd_len]; exact hi) = m := by
  unfold hopd
  rw [List.getElem_set_ne (by omega), List.getElem_set_self]
theorem tk_is {a : Int} {i : Nat} : ∀ (d : Nat) (l : List (List S30)) (h : List S78) (p q : List S30) (x : S30), stOk a l = true → ∀ (hi : i < l.length), l[i] = p ++ x :: q → q.length = d → ∀ l' h', tk a i d l h = some (l', h') →
    stOk a l' = true ∧ l.flatten.Perm (x :: l'.flatten) ∧ h'.length = h.length + d ∧ l'.length = l.length ∧ (isNext l x → ∀ n, Dig a l' n → Dig a l (n + d))
  | 0, l, h, p, q, x, hs, hi, e, hq, l', h', ht => by
    have hq0 : q = [] := List.eq_nil_of_length_eq_zero hq
    subst hq0
    simp only [tk, getD_at l i [] hi, e] at ht
    rw [List.dropLast_concat] at ht
    injection ht with ht
    injection ht with h1 h2
    subst h1; subst h2
    exact ⟨st_off hs hi e, flat_off l i hi p x e, rfl, by simp, fun hx n hd => Dig.out hi hx e hd⟩
  | d + 1, l, h, p, q, x, hs, hi, e, hq, l', h', ht => by
    obtain ⟨q', k, rfl⟩ : ∃ q' k, q = q' ++ [k] := ⟨q.dropLast, q.getLast (by intro h; rw [h] at hq; cases hq), (List.dropLast_concat_getLast _).symm⟩
    have e' : l[i] = (p ++ x :: q') ++ [k] := by rw [e]; simp
    simp only [tk, getD_at l i [] hi, e'] at ht
    rw [List.dropLast_concat, last_snoc] at ht
    by_cases hc : laneFor a l k.f1 (i : Int) < 0
    · rw [if_pos hc] at ht
      cases ht
    · rw [if_neg hc] at ht
      obtain ⟨t, htl, et, hti, hr⟩ := laneFor_in (a := a) (l := l) (time := k.f1) (but := (i : Int)) (by omega)
      have hti' : t ≠ i := by omega
      rw [et, Int.toNat_natCast] at ht
      have hq' : q'.length = d := by simpa using hq
      obtain ⟨r1, r2, r3, r4, r5⟩ := tk_is d (hopd l i t (p ++ x :: q') k) _ p q' x (st_hop hs hi htl hti' hr e') (by rw [hopd_len]; exact hi) (hopd_at hi hti') hq' l' h' ht
      have hpm := hopd_perm hi htl hti' e'
      refine ⟨r1, hpm.symm.trans r2, by rw [r3]; simp; omega, by rw [r4, hopd_len], fun hx n hd => ?_⟩
      have := r5 (next_perm hpm hx) n hd
      rw [show n + (d + 1) = n + d + 1 by omega]
      exact Dig.hop hi htl hx (by simp) e' hti' hr this
end Go.Proofs.Ytheckjlldkkceaa.Pu
