import Derived.Test.YtheckjlldkkceaaZnHo
import Derived.Test.YtheckjlldkkceaaZnPx14
import Derived.Test.YtheckjlldkkceaaZnPx18
import Derived.Test.YtheckjlldkkceaaZnPx19
import Derived.Test.YtheckjlldkkceaaZnPx28
namespace Go.Proofs.Ytheckjlldkkceaa.Pu
open Go.RowKit Go.Proofs.Ytheckjlldkkceaa.Px Go.Proofs.YtheckjlldkkceaaW.PrintWords Go.Proofs.YtheckjlldkkceaaW.PrintLast Go.Proofs.YtheckjlldkkceaaW.PrintMore
set_option linter.unusedVariables false
theorem spec_tk_l (a : Int) (l0 : List (List S30)) (i : Nat) (x : S30) : ∀ (d : Nat) (l : List (List S30)) (h : List S78) (p q : List S30), stOk a l = true → ∀ (hi : i < l.length), l[i] = p ++ x :: q → q.length = d → h.length + d ≤ 1000 →
    Ev (fun k => spec_TakeBag.l0 k x.f0 h (i : Int) a l0 a l) (tkd a l0 (tk a i d l h))
  | 0, l, h, p, q, hs, hi, e, hq, hh => by
    have hq0 : q = [] := List.eq_nil_of_length_eq_zero hq
    subst hq0
    have hb := (st_small hs).2 _ (List.getElem_mem hi)
    rw [e, List.length_append] at hb
    obtain ⟨e1, e2, e3, e4⟩ := lane_rd hi e (by omega)
    refine Ev.step (f := fun _ => some (tkd a l0 (tk a i 0 l h))) (fun k => ?_) (Ev.now _)
    simp only [spec_TakeBag.l0]
    rw [e2, e3, if_pos (by omega), if_pos (by omega), if_pos (by omega), if_pos (by rw [e1]; simp; omega), if_pos rfl, if_pos (by rw [e1]; simp; omega)]
    simp only [Int.toNat_natCast, e4, tk, tkd, getD_at l i [] hi, e]
    rw [List.dropLast_concat]
  | d + 1, l, h, p, q, hs, hi, e, hq, hh => by
    obtain ⟨q', k, rfl⟩ : ∃ q' k, q = q' ++ [k] := ⟨q.dropLast, q.getLast (by intro h; rw [h] at hq; cases hq), (List.dropLast_concat_getLast _).symm⟩
    have e' : l[i] = (p ++ x :: q') ++ [k] := by rw [e]; simp
    have hb := (st_small hs).2 _ (List.getElem_mem hi)
    rw [e', List.length_append] at hb
    obtain ⟨e1, e2, e3, e4⟩ := lane_rd hi e' (by omega)
    have hne := last_ne hs hi e'
    have hlf := spec_lf_ev a l k.f1 (i : Int)
    have et : tk a i (d + 1) l h = (if laneFor a l k.f1 (i : Int) < 0 then none else tk a i d (hopd l i (laneFor a l k.f1 (i : Int)).toNat (p ++ x :: q') k) (h ++ [⟨k.f0, i, laneFor a l k.f1 (i : Int)⟩])) := by
      simp only [tk, getD_at l i [] hi, e']
      rw [List.dropLast_concat, last_snoc]
    rw [et]
    by_cases hc : laneFor a l k.f1 (i : Int) < 0
    · rw [if_pos hc]
      refine Ev.round (Lt.of hlf) fun n f1 => ?_
      simp only [spec_TakeBag.l0]
      rw [e2, e3, if_pos (by omega), if_pos (by omega), if_pos (by omega), if_pos (by rw [e1]; simp; omega), if_neg hne, f1]
      simp only [Option.bind_some]
      rw [if_pos hc]
      rfl
    · rw [if_neg hc]
      obtain ⟨t, htl, ett, hti, hr⟩ := laneFor_in (a := a) (l := l) (time := k.f1) (but := (i : Int)) (by omega)
      have hti' : t ≠ i := by omega
      have ih := spec_tk_l a l0 i x d (hopd l i t (p ++ x :: q') k) (h ++ [⟨k.f0, i, t⟩]) p q' (st_hop hs hi htl hti' hr e') (by rw [hopd_len]; exact hi) (hopd_at hi hti') (by simpa using hq) (by simp; omega)
      have hh := hop_ev (a := a) (st_small hs).1 (st_small hs).2 hi htl hti' e'
      rw [ett, Int.toNat_natCast]
      rw [ett] at hlf
      refine Ev.round ((Lt.of hlf).and ((Lt.of hh).and (Lt.of ih))) fun n ⟨f1, f2, f3⟩ => ?_
      simp only [spec_TakeBag.l0]
      rw [e2, e3, if_pos (by omega), if_pos (by omega), if_pos (by omega), if_pos (by rw [e1]; simp; omega), if_neg hne, f1]
      simp only [Option.bind_some]
      rw [if_neg (by omega), f2]
      simp only [Option.bind_some]
      rw [if_pos (by omega)]
      exact f3
theorem flat_small {a : Int} {l : List (List S30)} (h : stOk a l = true) : l.flatten.length ≤ 20 := by
  obtain ⟨h1, h2, h3, h4, h5, h6, h7⟩ := st_in h
  have : ∀ (n : Nat) (m : List (List S30)), m.length = n → (∀ x ∈ m, (x.length : Int) ≤ a) → m.flatten.length ≤ 5 * n := by
    intro n
    induction n with
    | zero => intro m hm _; rw [List.eq_nil_of_length_eq_zero hm]; simp
    | succ n ih =>
      intro m hm hx
      cases m with
      | nil => cases hm
      | cons y r =>
        have h1 := ih r (by simpa using hm) (fun z hz => hx z (by simp [hz]))
        have h2 := hx y (by simp)
        simp only [List.flatten_cons, List.length_append]
        omega
  have := this l.length l rfl h5
  omega
theorem lane_split {m : List S30} {x : S30} (h : x ∈ m) : ∃ p q, m = p ++ x :: q := List.append_of_mem h
theorem lane_short {a : Int} {l : List (List S30)} (h : stOk a l = true) {i : Nat} (hi : i < l.length) {p q : List S30} {x : S30} (e : l[i] = p ++ x :: q) : q.length ≤ 4 := by
  obtain ⟨h1, h2, h3, h4, h5, h6, h7⟩ := st_in h
  have := h5 _ (List.getElem_mem hi)
  rw [e] at this
  simp at this
  omega
theorem take_yes {a : Int} {l : List (List S30)} (h : stOk a l = true) {i : Nat} (hi : i < l.length) {p q : List S30} {x : S30} (e : l[i] = p ++ x :: q) :
    Ev (fun k => impl_TakeBag.f k a l x.f0) (tkd a l (tk a i q.length l [])) ∧ Ev (fun k => spec_TakeBag.f k a l x.f0) (tkd a l (tk a i q.length l [])) := by
  obtain ⟨hl, hm⟩ := st_small h
  have hf := flat_small h
  have hq := lane_short h hi e
  have c1 := copyI_ev a l hl hm
  have c2 := copyS_ev a l hl hm
  have hfd : fnd l x.f0 = i := fnd_at h hi (by rw [e]; simp)
  have j1 : Ev (fun k => impl_TakeBag.j0 k x.f0 (i : Int) false a l) (tkd a l (tk a i q.length l [])) := Ev.round ((Lt.of c1).and (Lt.of (impl_tk_l a l hl hm i x q.length l [] p q h hi e rfl (by simp; omega)))) fun k ⟨e1, e2⟩ => by
    simp only [impl_TakeBag.j0, e1, Option.bind_some]
    rw [if_neg (by simp)]
    exact e2
  have j2 : Ev (fun k => spec_TakeBag.j0 k x.f0 [] (i : Int) false a l) (tkd a l (tk a i q.length l [])) := Ev.round ((Lt.of c2).and (Lt.of (spec_tk_l a l i x q.length l [] p q h hi e rfl (by simp; omega)))) fun k ⟨e1, e2⟩ => by
    simp only [spec_TakeBag.j0, e1, Option.bind_some]
    rw [if_neg (by simp)]
    exact e2
  constructor
  · refine Lt.ev ((Lt.of (impl_st_ev a l hl (by omega))).and (Lt.of j1)) fun k ⟨e1, e2⟩ => ?_
    simp only [impl_TakeBag.f, laneOf_ev, Option.bind_some, e1, hfd]
    rw [if_pos h, decide_eq_false (by omega)]
    exact e2
  · refine Lt.ev ((Lt.of (spec_st_ev a l)).and ((Lt.of c2).and ((Lt.of (find_ev a l x.f0 hl hm)).and (Lt.of j2)))) fun k ⟨e1, e0, e3, e2⟩ => ?_
    simp only [spec_TakeBag.f, e0, Option.bind_some, e3, e1, hfd]
    rw [if_pos h, decide_eq_false (by omega)]
    exact e2
theorem nextI_ev {a : Int} {l : List (List S30)} (h : stOk a l = true) : Ev (fun k => impl_nextOut.f k a l) (nextOut a l) := by
  obtain ⟨h1, h2, h3, h4, h5, h6, h7⟩ := st_in h
  have hs := impl_nx_l0 l (by omega) (fun x hx => by have := h5 x hx; omega) l.length 0 (by omega) ⟨0, 0⟩
  rw [List.drop_zero, first_nx _ h6] at hs
  unfold nextOut
  rw [if_pos h]
  refine Lt.ev (Lt.of hs) fun k e2 => ?_
  simp only [impl_nextOut.f]
  exact e2
theorem next_zero {a : Int} {l : List (List S30)} (h : stOk a l = true) (hn : l.flatten = []) : nextOut a l = 0 := by
  unfold nextOut
  rw [if_pos h, first_none hn]
theorem next_is {a : Int} {l : List (List S30)} (h : stOk a l = true) (hn : l.flatten ≠ []) : ∃ x, isNext l x ∧ nextOut a l = x.f0 ∧ 1 ≤ x.f0 := by
  have h6 := (st_in h).2.2.2.2.2.1
  have hx := first_is h6 hn
  refine ⟨_, hx, by unfold nextOut; rw [if_pos h], (okK_in (h6 _ hx.1)).1⟩
theorem hops_ev (a : Int) : ∀ (N : Nat) (l : List (List S30)) (n : Int), stOk a l = true → l.flatten.length = N → 0 ≤ n → n + 5 * N ≤ 1000 →
    ∃ (m : Int) (ok : Bool), Ev (fun k => impl_HopsOf.l0 k n (nextOut a l) a l) (m, ok) ∧ Ev (fun k => spec_HopsOf.l0 k n a l) (m, ok) ∧ (ok = true → n ≤ m ∧ Dig a l (m - n).toNat)
  | 0, l, n, h, hN, h0, h1 => by
    have hn : l.flatten = [] := List.eq_nil_of_length_eq_zero hN
    refine ⟨n, true, ?_, ?_, fun _ => ⟨Int.le_refl _, by rw [Int.sub_self]; exact Dig.none hn⟩⟩
    · refine Ev.step (f := fun _ => some (n, true)) (fun k => ?_) (Ev.now _)
      simp only [impl_HopsOf.l0]
      rw [if_pos (next_zero h hn)]
    · refine Ev.round (Lt.of (spec_nx_ev a l)) fun k e => ?_
      simp only [spec_HopsOf.l0, e, Option.bind_some]
      rw [if_pos (next_zero h hn)]
  | N + 1, l, n, h, hN, h0, h1 => by
    obtain ⟨x, hx, ex, hx1⟩ := next_is h (fun e => by rw [e] at hN; cases hN)
    obtain ⟨i, hi, hxi⟩ := mem_lane hx.1
    obtain ⟨p, q, e⟩ := lane_split hxi
    obtain ⟨t1, t2⟩ := take_yes h hi e
    have hq := lane_short h hi e
    rw [ex]
    cases ht : tk a i q.length l [] with
    | none =>
      rw [ht] at t1 t2
      refine ⟨0, false, ?_, ?_, fun h => by cases h⟩
      · refine Ev.round (Lt.of t1) fun k e => ?_
        simp only [impl_HopsOf.l0, e, Option.bind_some, tkd]
        rw [if_neg (by omega), if_neg (by simp)]
      · refine Ev.round ((Lt.of (spec_nx_ev a l)).and (Lt.of t2)) fun k ⟨e0, e⟩ => ?_
        simp only [spec_HopsOf.l0, e0, Option.bind_some, ex]
        rw [if_neg (by omega), e]
        simp only [Option.bind_some, tkd]
        rw [if_neg (by simp)]
    | some r =>
      obtain ⟨l', h'⟩ := r
      rw [ht] at t1 t2
      obtain ⟨r1, r2, r3, r4, r5⟩ := tk_is q.length l [] p q x h hi e rfl l' h' ht
      have hN' : l'.flatten.length = N := by
        have := r2.length_eq
        rw [hN, List.length_cons] at this
        omega
      rw [List.length_nil, Nat.zero_add] at r3
      obtain ⟨m, ok, i1, i2, i3⟩ := hops_ev a N l' (n + q.length) r1 hN' (by omega) (by omega)
      refine ⟨m, ok, ?_, ?_, fun hok => ?_⟩
      · refine Ev.round ((Lt.of t1).and ((Lt.of (nextI_ev r1)).and (Lt.of i1))) fun k ⟨e, e2, e3⟩ => ?_
        simp only [impl_HopsOf.l0, e, Option.bind_some, tkd]
        rw [if_neg (by omega), if_pos trivial, e2, r3, wrap_in (x := n + (q.length : Int)) (by omega) (by omega)]
        exact e3
      · refine Ev.round ((Lt.of (spec_nx_ev a l)).and ((Lt.of t2).and (Lt.of i2))) fun k ⟨e0, e, e3⟩ => ?_
        simp only [spec_HopsOf.l0, e0, Option.bind_some, ex]
        rw [if_neg (by omega), e]
        simp only [Option.bind_some, tkd]
        rw [if_pos trivial, r3, wrap_in (x := n + (q.length : Int)) (by omega) (by omega)]
        exact e3
      · obtain ⟨g1, g2⟩ := i3 hok
        have := r5 hx _ g2
        refine ⟨by omega, ?_⟩
        rw [show (m - n).toNat = (m - (n + (q.length : Int))).toNat + q.length by omega]
        exact this
theorem hops_both (a : Int) (l : List (List S30)) (hl : l.length ≤ 1048576) (hf : l.flatten.length ≤ 1048576) : ∃ (m : Int) (ok : Bool), Ev (fun k => impl_HopsOf.f k a l) (m, ok) ∧ Ev (fun k => spec_HopsOf.f k a l) (m, ok) ∧ (stOk a l = true → ok = true → 0 ≤ m ∧ Dig a l m.toNat) := by
  by_cases h : stOk a l = true
  · obtain ⟨m, ok, h1, h2, h3⟩ := hops_ev a l.flatten.length l 0 h rfl (by omega) (by have := flat_small h; omega)
    refine ⟨m, ok, ?_, ?_, fun _ hok => by have := h3 hok; rwa [Int.sub_zero] at this⟩
    · refine Lt.ev ((Lt.of (impl_st_ev a l hl hf)).and ((Lt.of (nextI_ev h)).and (Lt.of h1))) fun k ⟨e1, e2, e3⟩ => ?_
      simp only [impl_HopsOf.f, e1, e2, Option.bind_some]
      rw [if_pos h]
      exact e3
    · refine Lt.ev ((Lt.of (spec_st_ev a l)).and (Lt.of h2)) fun k ⟨e1, e3⟩ => ?_
      simp only [spec_HopsOf.f, e1, Option.bind_some]
      rw [if_pos h]
      exact e3
  · refine ⟨0, false, ?_, ?_, fun h2 => absurd h2 h⟩
    · refine Lt.ev (Lt.of (impl_st_ev a l hl hf)) fun k e1 => ?_
      simp only [impl_HopsOf.f, e1, Option.bind_some]
      rw [if_neg h]
    · refine Lt.ev (Lt.of (spec_st_ev a l)) fun k e1 => ?_
      simp only [spec_HopsOf.f, e1, Option.bind_some]
      rw [if_neg h]
end Go.Proofs.Ytheckjlldkkceaa.Pu
