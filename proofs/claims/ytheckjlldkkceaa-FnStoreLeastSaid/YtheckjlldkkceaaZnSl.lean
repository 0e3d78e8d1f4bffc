import Derived.Test.YtheckjlldkkceaaZnDk
import Derived.Test.YtheckjlldkkceaaZnLm
import Derived.Test.YtheckjlldkkceaaZnPx23
import Derived.Test.YtheckjlldkkceaaZnPx41
namespace Go.Proofs.Ytheckjlldkkceaa.Pu
open Go.RowKit Go.Proofs.Ytheckjlldkkceaa.Px Go.Proofs.YtheckjlldkkceaaW.PrintWords Go.Proofs.YtheckjlldkkceaaW.PrintLast Go.Proofs.YtheckjlldkkceaaW.PrintMore
set_option linter.unusedVariables false
theorem ev_one {α : Type} {f : Nat → Option α} {x y : α} (h1 : Ev f x) (h2 : Ev f y) : x = y := by
  obtain ⟨K, hk⟩ := (Lt.of h1).and (Lt.of h2)
  obtain ⟨e1, e2⟩ := hk K (Nat.le_refl _)
  exact Option.some.inj (e1.symm.trans e2)
theorem hops_no (a : Int) (l : List (List S30)) (hl : l.length ≤ 1048576) (hf : l.flatten.length ≤ 1048576) (h : ¬ stOk a l = true) : Ev (fun k => impl_HopsOf.f k a l) (0, false) := by
  refine Lt.ev (Lt.of (impl_st_ev a l hl hf)) fun k e1 => ?_
  simp only [impl_HopsOf.f, e1, Option.bind_some]
  rw [if_neg h]
theorem least_no (a : Int) (l : List (List S30)) (h : ¬ stOk a l = true) : Ev (fun k => spec_LeastHops.f k a l) (0, false) := by
  refine Lt.ev (Lt.of (spec_st_ev a l)) fun k e1 => ?_
  simp only [spec_LeastHops.f, e1, Option.bind_some]
  rw [if_neg h]
theorem least_j0 (b : List Int) (hb : b.length ≤ 1048576) (a : Int) (l : List (List S30)) (hl : l.length ≤ 1048576) (h5 : l.flatten.length ≤ 5) (m h : Int) (ok okh : Bool)
    (h1 : Ev (fun k => spec_LeastHops.f k a l) (m, ok)) (h2 : Ev (fun k => impl_HopsOf.f k a l) (h, okh))
    (h3 : stOk a l = true → (ok = true ∧ 0 ≤ m ∧ Dig a l m.toNat ∧ ∀ n : Nat, Dig a l n → m ≤ n) ∨ (ok = false ∧ ∀ n, ¬ Dig a l n))
    (h4 : stOk a l = true → okh = true → 0 ≤ h ∧ Dig a l h.toNat) : Ev (fun k => laws_FnStoreLeast.j0 k b m ok h okh false a l) true := by
  cases ok with
  | false =>
    have ho : okh = false := by
      by_cases hs : stOk a l = true
      · rcases h3 hs with ⟨g, _⟩ | ⟨_, g⟩
        · exact absurd g (by simp)
        · cases okh with
          | false => rfl
          | true => exact absurd (h4 hs rfl).2 (g _)
      · exact congrArg Prod.snd (ev_one h2 (hops_no a l hl (by omega) hs))
    refine Ev.step (f := fun _ => some true) (fun k => ?_) (Ev.now _)
    simp only [laws_FnStoreLeast.j0, ho]
    rw [if_neg (by simp), if_neg (by simp)]
    rfl
  | true =>
    have hs : stOk a l = true := Classical.byContradiction fun hs => by
      have := congrArg Prod.snd (ev_one h1 (least_no a l hs))
      simp at this
    have g : 0 ≤ m ∧ Dig a l m.toNat ∧ ∀ n : Nat, Dig a l n → m ≤ n := by
      rcases h3 hs with ⟨_, g⟩ | ⟨g, _⟩
      · exact g
      · exact absurd g (by simp)
    obtain ⟨g0, g1, g2⟩ := g
    have hbu : m ≥ buried a l := by
      have := dig_bus g1 (fun x hx => (okK_in ((st_in hs).2.2.2.2.2.1 x hx)).2.2)
      unfold buried
      rw [if_pos hs]
      omega
    have hh : okh = true → h ≥ m := fun ho => by
      obtain ⟨f0, f1⟩ := h4 hs ho
      have := g2 _ f1
      omega
    obtain ⟨a2, l2, d1, d2, d3⟩ := draw_least_ev b hb
    obtain ⟨m2, ok2, i1, i2, _⟩ := least_both a2 l2 (by omega) (by omega)
    refine Ev.round ((Lt.of d1).and ((Lt.of i1).and ((Lt.of i2).and (Lt.of (impl_bu_ev a l hl (by omega)))))) fun k ⟨e1, e2, e3, e4⟩ => ?_
    simp only [laws_FnStoreLeast.j0, e1, e2, e3, e4, Option.bind_some]
    rw [if_neg (by simp), if_pos trivial, if_pos hbu]
    cases okh with
    | false =>
      rw [if_neg (by simp), if_pos trivial]
      simp
    | true =>
      rw [if_pos rfl, if_pos (hh rfl), if_pos trivial]
      simp
theorem least_ev (b : List Int) : Ev (fun k => laws_FnStoreLeast.f k b) true := by
  by_cases h : b.length ≤ 1048576
  · obtain ⟨a, l, d1, d2, d3⟩ := draw_small_ev b h
    obtain ⟨m, ok, i1, i2, i3⟩ := least_both a l (by omega) (by omega)
    obtain ⟨hh, okh, j1, _, j3⟩ := hops_both a l (by omega) (by omega)
    refine Lt.ev ((Lt.of d1).and ((Lt.of i1).and ((Lt.of i2).and ((Lt.of j1).and (Lt.of (least_j0 b h a l (by omega) d3 m hh ok okh i2 j1 (fun hs => i3 hs d3) j3)))))) fun k ⟨e1, e2, e3, e4, e5⟩ => ?_
    simp only [laws_FnStoreLeast.f, laws_big.f, Option.bind_some, e1, e2, e3, e4]
    rw [decide_eq_false (by omega), if_neg (by simp), if_neg (by simp), show (m != m) = false by simp]
    exact e5
  · refine Lt.ev (Lt.of (Ev.now true)) fun k _ => ?_
    simp only [laws_FnStoreLeast.f, laws_big.f, Option.bind_some]
    rw [decide_eq_true (by omega), if_pos rfl]
end Go.Proofs.Ytheckjlldkkceaa.Pu
