import Derived.Test.YtheckjlldkkceaaZbHo
import Derived.Test.YtheckjlldkkceaaZbPx13
import Derived.Test.YtheckjlldkkceaaZbPx14
import Derived.Test.YtheckjlldkkceaaZbPx0
import Derived.Test.YtheckjlldkkceaaZbPx3
namespace Go.Proofs.Ytheckjlldkkceaa.Pu
open Go.RowKit Go.Proofs.Ytheckjlldkkceaa.Px Go.Proofs.YtheckjlldkkceaaW.PrintWords Go.Proofs.YtheckjlldkkceaaW.PrintLast Go.Proofs.YtheckjlldkkceaaW.PrintMore
set_option linter.unusedVariables false
theorem spec_tk_l (a : Int) (l0 : List (List S30)) (i : Nat) (x : S30) : ∀ (d : Nat) (l : List (List S30)) (h : List S78) (p q : List S30), stOk a l = true → ∀ (hi : i < l.length), l[i] = p ++ x :: q → q.length = d → h.length + d ≤ 1000 →
    Ev (fun k => spec_TakeBag.l0 k x.f0 h (i : Int) a l0 a l) (tkd a l0 (tk a i d l h))
  | 0, l, h, p, q, hs, hi, e, hq, hh => by
    have hq0 : q = [] := List.eq_nil_of_length_eq_zero hq
    subst hq0
    have hb := (st_small hs).2 _ (List.getElem_mem hi)
    rw [e, List.length_append] at hb
    obtain ⟨e1, e2, e3, e4⟩ := lane_rd hi e (by omega)
    refine Ev.step (f := fun _ => some (tkd a l0 (tk a i 0 l h))) (fun k => ?_) (Ev.now _)
    simp only [spec_TakeBag.l0]
    rw [e2, e3, if_pos (by omega), if_pos (by omega), if_pos (by omega), if_pos (by rw [e1]; simp; omega), if_pos rfl, if_pos (by rw [e1]; simp; omega)]
    simp only [Int.toNat_natCast, e4, tk, tkd, getD_at l i [] hi, e]
    rw [List.dropLast_concat]
  | d + 1, l, h, p, q, hs, hi, e, hq, hh => by
    obtain ⟨q', k, rfl⟩ : ∃ q' k, q = q' ++ [k] := ⟨q.dropLast, q.getLast (by intro h; rw [h] at hq; cases hq), (List.dropLast_concat_getLast _).symm⟩
    have e' : l[i] = (p ++ x :: q') ++ [k] := by rw [e]; simp
    have hb := (st_small hs).2 _ (List.getElem_mem hi)
    rw [e', List.length_append] at hb
    obtain ⟨e1, e2, e3, e4⟩ := lane_rd hi e' (by omega)
    have hne := last_ne hs hi e'
    have hlf := spec_lf_ev a l k.f1 (i : Int)
    have et : tk a i (d + 1) l h = (if laneFor a l k.f1 (i : Int) < 0 then none else tk a i d (hopd l i (laneFor a l k.f1 (i : Int)).toNat (p ++ x :: q') k) (h ++ [⟨k.f0, i, laneFor a l k.f1 (i : Int)⟩])) := by
      simp only [tk, getD_at l i [] hi, e']
      rw [List.dropLast_concat, last_snoc]
    rw [et]
    by_cases hc : laneFor a l k.f1 (i : Int) < 0
    · rw [if_pos hc]
      refine Ev.round (Lt.of hlf) fun n f1 => ?_
      simp only [spec_TakeBag.l0]
      rw [e2, e3, if_pos (by omega), if_pos (by omega), if_pos (by omega), if_pos (by rw [e1]; simp; omega), if_neg hne, f1]
      simp only [Option.bind_some]
      rw [if_pos hc]
      rfl
    · rw [if_neg hc]
      obtain ⟨t, htl, ett, hti, hr⟩ := laneFor_in (a := a) (l := l) (time := k.f1) (but := (i : Int)) (by omega)
      have hti' : t ≠ i := by omega
      have ih := spec_tk_l a l0 i x d (hopd l i t (p ++ x :: q') k) (h ++ [⟨k.f0, i, t⟩]) p q' (st_hop hs hi htl hti' hr e') (by rw [hopd_len]; exact hi) (hopd_at hi hti') (by simpa using hq) (by simp; omega)
      have hh := hop_ev (a := a) (st_small hs).1 (st_small hs).2 hi htl hti' e'
      rw [ett, Int.toNat_natCast]
      rw [ett] at hlf
      refine Ev.round ((Lt.of hlf).and ((Lt.of hh).and (Lt.of ih))) fun n ⟨f1, f2, f3⟩ => ?_
      simp only [spec_TakeBag.l0]
      rw [e2, e3, if_pos (by omega), if_pos (by omega), if_pos (by omega), if_pos (by rw [e1]; simp; omega), if_neg hne, f1]
      simp only [Option.bind_some]
      rw [if_neg (by omega), f2]
      simp only [Option.bind_some]
      rw [if_pos (by omega)]
      exact f3
theorem take_no (a : Int) (l : List (List S30)) (b : Int) (hl : l.length ≤ 1048576) (hf : l.flatten.length ≤ 1048576) (hm : ∀ x ∈ l, x.length ≤ 1048576) (h : ¬ (stOk a l = true ∧ ¬ fnd l b < 0)) :
    Ev (fun k => impl_TakeBag.f k a l b) (a, l, [], false) ∧ Ev (fun k => spec_TakeBag.f k a l b) (a, l, [], false) := by
  have c1 := copyI_ev a l hl hm
  have c2 := copyS_ev a l hl hm
  have j1 : ∀ z, Ev (fun k => impl_TakeBag.j0 k b z true a l) (a, l, [], false) := fun z => Ev.round (Lt.of c1) fun k e => by
    simp only [impl_TakeBag.j0, e, Option.bind_some]
    rw [if_pos trivial]
  have j2 : ∀ z, Ev (fun k => spec_TakeBag.j0 k b [] z true a l) (a, l, [], false) := fun z => Ev.step (f := fun _ => some (a, l, [], false)) (fun k => by
    simp only [spec_TakeBag.j0]
    rw [if_pos trivial]) (Ev.now _)
  constructor
  · refine Lt.ev ((Lt.of (impl_st_ev a l hl hf)).and (Lt.of (j1 (fnd l b)))) fun k ⟨e1, e2⟩ => ?_
    simp only [impl_TakeBag.f, laneOf_ev, Option.bind_some, e1]
    by_cases hs : stOk a l = true
    · rw [if_pos hs, decide_eq_true (show fnd l b < 0 from Classical.byContradiction fun hc => h ⟨hs, hc⟩)]
      exact e2
    · rw [if_neg hs]
      exact e2
  · refine Lt.ev ((Lt.of (spec_st_ev a l)).and ((Lt.of c2).and ((Lt.of (find_ev a l b hl hm)).and (Lt.of (j2 (fnd l b)))))) fun k ⟨e1, e0, e3, e2⟩ => ?_
    simp only [spec_TakeBag.f, e0, Option.bind_some, e3, e1]
    by_cases hs : stOk a l = true
    · rw [if_pos hs, decide_eq_true (show fnd l b < 0 from Classical.byContradiction fun hc => h ⟨hs, hc⟩)]
      exact e2
    · rw [if_neg hs]
      exact e2
theorem flat_small {a : Int} {l : List (List S30)} (h : stOk a l = true) : l.flatten.length ≤ 20 := by
  obtain ⟨h1, h2, h3, h4, h5, h6, h7⟩ := st_in h
  have : ∀ (n : Nat) (m : List (List S30)), m.length = n → (∀ x ∈ m, (x.length : Int) ≤ a) → m.flatten.length ≤ 5 * n := by
    intro n
    induction n with
    | zero => intro m hm _; rw [List.eq_nil_of_length_eq_zero hm]; simp
    | succ n ih =>
      intro m hm hx
      cases m with
      | nil => cases hm
      | cons y r =>
        have h1 := ih r (by simpa using hm) (fun z hz => hx z (by simp [hz]))
        have h2 := hx y (by simp)
        simp only [List.flatten_cons, List.length_append]
        omega
  have := this l.length l rfl h5
  omega
theorem lane_split {m : List S30} {x : S30} (h : x ∈ m) : ∃ p q, m = p ++ x :: q := List.append_of_mem h
theorem lane_short {a : Int} {l : List (List S30)} (h : stOk a l = true) {i : Nat} (hi : i < l.length) {p q : List S30} {x : S30} (e : l[i] = p ++ x :: q) : q.length ≤ 4 := by
  obtain ⟨h1, h2, h3, h4, h5, h6, h7⟩ := st_in h
  have := h5 _ (List.getElem_mem hi)
  rw [e] at this
  simp at this
  omega
theorem take_yes {a : Int} {l : List (List S30)} (h : stOk a l = true) {i : Nat} (hi : i < l.length) {p q : List S30} {x : S30} (e : l[i] = p ++ x :: q) :
    Ev (fun k => impl_TakeBag.f k a l x.f0) (tkd a l (tk a i q.length l [])) ∧ Ev (fun k => spec_TakeBag.f k a l x.f0) (tkd a l (tk a i q.length l [])) := by
  obtain ⟨hl, hm⟩ := st_small h
  have hf := flat_small h
  have hq := lane_short h hi e
  have c1 := copyI_ev a l hl hm
  have c2 := copyS_ev a l hl hm
  have hfd : fnd l x.f0 = i := fnd_at h hi (by rw [e]; simp)
  have j1 : Ev (fun k => impl_TakeBag.j0 k x.f0 (i : Int) false a l) (tkd a l (tk a i q.length l [])) := Ev.round ((Lt.of c1).and (Lt.of (impl_tk_l a l hl hm i x q.length l [] p q h hi e rfl (by simp; omega)))) fun k ⟨e1, e2⟩ => by
    simp only [impl_TakeBag.j0, e1, Option.bind_some]
    rw [if_neg (by simp)]
    exact e2
  have j2 : Ev (fun k => spec_TakeBag.j0 k x.f0 [] (i : Int) false a l) (tkd a l (tk a i q.length l [])) := Ev.round ((Lt.of c2).and (Lt.of (spec_tk_l a l i x q.length l [] p q h hi e rfl (by simp; omega)))) fun k ⟨e1, e2⟩ => by
    simp only [spec_TakeBag.j0, e1, Option.bind_some]
    rw [if_neg (by simp)]
    exact e2
  constructor
  · refine Lt.ev ((Lt.of (impl_st_ev a l hl (by omega))).and (Lt.of j1)) fun k ⟨e1, e2⟩ => ?_
    simp only [impl_TakeBag.f, laneOf_ev, Option.bind_some, e1, hfd]
    rw [if_pos h, decide_eq_false (by omega)]
    exact e2
  · refine Lt.ev ((Lt.of (spec_st_ev a l)).and ((Lt.of c2).and ((Lt.of (find_ev a l x.f0 hl hm)).and (Lt.of j2)))) fun k ⟨e1, e0, e3, e2⟩ => ?_
    simp only [spec_TakeBag.f, e0, Option.bind_some, e3, e1, hfd]
    rw [if_pos h, decide_eq_false (by omega)]
    exact e2
end Go.Proofs.Ytheckjlldkkceaa.Pu
