import Derived.Test.YtheckjlldkkceaaZnNx
import Derived.Test.YtheckjlldkkceaaZnPx6
import Derived.Test.YtheckjlldkkceaaZnPx12
import Derived.Test.YtheckjlldkkceaaZnPx0
import Derived.Test.YtheckjlldkkceaaZnPx3
namespace Go.Proofs.Ytheckjlldkkceaa.Pu
open Go.RowKit Go.Proofs.Ytheckjlldkkceaa.Px Go.Proofs.YtheckjlldkkceaaW.PrintWords Go.Proofs.YtheckjlldkkceaaW.PrintLast Go.Proofs.YtheckjlldkkceaaW.PrintMore
set_option linter.unusedVariables false
def lst (c : Int) (m : List S30) : Int := m.foldl (fun t x => mn t x.f1) c
theorem lst_lt (t : Int) : ∀ (m : List S30) (c : Int), lst c m < t ↔ c < t ∨ ∃ x ∈ m, x.f1 < t
  | [], c => by simp [lst]
  | x :: r, c => by
    have h := lst_lt t r (mn c x.f1)
    unfold lst at h ⊢
    rw [List.foldl_cons, h]
    unfold mn
    constructor
    · rintro (h | ⟨y, hy, h⟩)
      · split at h
        · exact .inr ⟨x, by simp, h⟩
        · exact .inl h
      · exact .inr ⟨y, by simp [hy], h⟩
    · rintro (h | ⟨y, hy, h⟩)
      · left
        split <;> omega
      · rcases List.mem_cons.1 hy with rfl | hy
        · left
          split <;> omega
        · exact .inr ⟨y, hy, h⟩
theorem lst_l (m : List S30) (hm : m.length ≤ 1048576) : ∀ (d i : Nat), i + d = m.length → ∀ c : Int, Ev (fun k => spec_l06Least.l0 k m c (i : Int)) (lst c (m.drop i)) := by
  intro d
  induction d with
  | zero =>
    intro i hi c
    rw [List.drop_of_length_le (by omega)]
    refine Ev.step (f := fun _ => some c) (fun k => ?_) (Ev.now _)
    simp only [spec_l06Least.l0]
    rw [if_neg (by omega)]
  | succ d ih =>
    intro i hi c
    have hlt : i < m.length := by omega
    have h := ih (i + 1) (by omega) (mn c m[i].f1)
    rw [List.drop_eq_getElem_cons hlt]
    unfold lst at h ⊢
    rw [List.foldl_cons]
    refine Ev.step (fun k => ?_) h
    simp only [spec_l06Least.l0]
    rw [if_pos (by omega), if_pos (by omega), rd30_nat m i hlt, wrap_in (x := (i : Int) + 1) (by omega) (by omega)]
    rfl
theorem lst_ev (m : List S30) (hm : m.length ≤ 1048576) : Ev (fun k => spec_l06Least.f k m) (lst 100001 m) :=
  Ev.congr (fun k => by simp only [spec_l06Least.f]; rfl) (by simpa using lst_l m hm m.length 0 (by omega) 100001)
def bu (m : List S30) : Nat → Nat → Int
  | 0, _ => 0
  | d + 1, j => (if lst 100001 (m.take j) < (m.getD j z30).f1 then 1 else 0) + bu m d (j + 1)
theorem bu_in (m : List S30) : ∀ (d j : Nat), 0 ≤ bu m d j ∧ bu m d j ≤ d
  | 0, j => ⟨Int.le_refl _, Int.le_refl _⟩
  | d + 1, j => by
    have := bu_in m d (j + 1)
    simp only [bu]
    split <;> omega
def bus : List (List S30) → Int
  | [] => 0
  | m :: r => bu m m.length 0 + bus r
theorem impl_bu_l1 (l : List (List S30)) (i : Int) (m : List S30) (hm : m.length ≤ 1000) (hk : ∀ y ∈ m, okK y = true) (r : Int) : ∀ (d j : Nat), j + d = m.length → ∀ n : Int, 0 ≤ n → n + d ≤ 100000 →
    Ev (fun k => impl_Buried.l0 k (n + bu m d j) l (l.length : Int) (wrap64 (i + 1))) r → Ev (fun k => impl_Buried.l1 k n m l (l.length : Int) i m (m.length : Int) (j : Int)) r := by
  intro d
  induction d with
  | zero =>
    intro j hj n h0 h1 h
    simp only [bu, Int.add_zero] at h
    refine Ev.step (fun k => ?_) h
    simp only [impl_Buried.l1]
    rw [if_neg (by omega)]
  | succ d ih =>
    intro j hj n h0 h1 h
    have hjl : j < m.length := by omega
    have ej : rd_T30 m (j : Int) = m.getD j z30 := by simp [rd_T30]
    have hx := hk m[j] (List.getElem_mem hjl)
    have eg : m.getD j z30 = m[j] := by simp [hjl]
    simp only [okK, Bool.and_eq_true, decide_eq_true_eq] at hx
    rw [← eg] at hx
    have hany : ((m.take j).any (vc_impl_Buried_1_any.p (m.getD j z30).f0 (m.getD j z30).f1)) = decide (lst 100001 (m.take j) < (m.getD j z30).f1) := by
      by_cases hc : lst 100001 (m.take j) < (m.getD j z30).f1
      · rw [decide_eq_true hc]
        rcases (lst_lt _ _ _).1 hc with h | ⟨y, hy, h⟩
        · omega
        · exact List.any_eq_true.2 ⟨y, hy, by simpa [vc_impl_Buried_1_any.p] using h⟩
      · rw [decide_eq_false hc, Bool.eq_false_iff]
        intro h
        obtain ⟨y, hy, h⟩ := List.any_eq_true.1 h
        exact hc ((lst_lt _ _ _).2 (.inr ⟨y, hy, by simpa [vc_impl_Buried_1_any.p] using h⟩))
    simp only [bu] at h
    by_cases hc : lst 100001 (m.take j) < (m.getD j z30).f1
    · rw [if_pos hc] at h
      have := ih (j + 1) (by omega) (n + 1) (by omega) (by omega) (by rw [show n + 1 + bu m d (j + 1) = n + (1 + bu m d (j + 1)) by omega]; exact h)
      refine Ev.step (fun k => ?_) this
      simp only [impl_Buried.l1, ej, vc_impl_Buried_1_any.f, Int.toNat_natCast, hany, Option.bind_some]
      rw [if_pos (by omega), if_pos (by omega), if_pos (by omega), if_pos (by omega), decide_eq_true hc, if_pos rfl, wrap_in (x := n + 1) (by omega) (by omega), wrap_in (x := (j : Int) + 1) (by omega) (by omega)]
      rfl
    · rw [if_neg hc, Int.zero_add] at h
      have := ih (j + 1) (by omega) n (by omega) (by omega) h
      refine Ev.step (fun k => ?_) this
      simp only [impl_Buried.l1, ej, vc_impl_Buried_1_any.f, Int.toNat_natCast, hany, Option.bind_some]
      rw [if_pos (by omega), if_pos (by omega), if_pos (by omega), if_pos (by omega), decide_eq_false hc, if_neg (by simp), wrap_in (x := (j : Int) + 1) (by omega) (by omega)]
      rfl
theorem impl_bu_l0 (l : List (List S30)) (hl : l.length ≤ 4) (hm : ∀ x ∈ l, x.length ≤ 5) (hk : ∀ x ∈ l, ∀ y ∈ x, okK y = true) : ∀ (d i : Nat), i + d = l.length → ∀ n : Int, 0 ≤ n → n ≤ 10 * i →
    Ev (fun k => impl_Buried.l0 k n l (l.length : Int) (i : Int)) (n + bus (l.drop i)) := by
  intro d
  induction d with
  | zero =>
    intro i hi n h0 h1
    rw [List.drop_of_length_le (by omega)]
    simp only [bus, Int.add_zero]
    refine Ev.step (f := fun _ => some n) (fun k => ?_) (Ev.now _)
    simp only [impl_Buried.l0]
    rw [if_neg (by omega)]
  | succ d ih =>
    intro i hi n h0 h1
    have hlt : i < l.length := by omega
    have hmi := hm _ (List.getElem_mem hlt)
    have hb := bu_in l[i] l[i].length 0
    have h := ih (i + 1) (by omega) (n + bu l[i] l[i].length 0) (by omega) (by omega)
    rw [List.drop_eq_getElem_cons hlt]
    simp only [bus]
    rw [← Int.add_assoc]
    refine Ev.step (fun k => ?_) (impl_bu_l1 l (i : Int) l[i] (by omega) (hk _ (List.getElem_mem hlt)) _ l[i].length 0 (by omega) n h0 (by omega) (by rw [wrap_in (x := (i : Int) + 1) (by omega) (by omega)]; exact h))
    simp only [impl_Buried.l0]
    rw [if_pos (by omega), if_pos (by omega), if_pos (by omega), rdL2_nat l i hlt]
    rfl
def buried (a : Int) (l : List (List S30)) : Int := if stOk a l = true then bus l else -1
theorem st_in2 {a : Int} {l : List (List S30)} (h : stOk a l = true) : l.length ≤ 4 ∧ (∀ x ∈ l, x.length ≤ 5) ∧ ∀ x ∈ l, ∀ y ∈ x, okK y = true := by
  obtain ⟨h1, h2, h3, h4, h5, h6, h7⟩ := st_in h
  exact ⟨h4, fun x hx => by have := h5 x hx; omega, fun x hx y hy => h6 y (List.mem_flatten.2 ⟨x, hx, hy⟩)⟩
theorem impl_bu_ev (a : Int) (l : List (List S30)) (hl : l.length ≤ 1048576) (ht : l.flatten.length ≤ 1048576) : Ev (fun k => impl_Buried.f k a l) (buried a l) := by
  unfold buried
  by_cases h : stOk a l = true
  · rw [if_pos h]
    obtain ⟨h1, h2, h3⟩ := st_in2 h
    refine Lt.ev ((Lt.of (impl_st_ev a l hl ht)).and (Lt.of (impl_bu_l0 l h1 h2 h3 l.length 0 (by omega) 0 (by omega) (by omega)))) fun k ⟨e1, e2⟩ => ?_
    simp only [impl_Buried.f, e1, h, Option.bind_some]
    rw [if_pos trivial]
    simpa using e2
  · rw [if_neg h]
    refine Lt.ev (Lt.of (impl_st_ev a l hl ht)) fun k e1 => ?_
    simp only [impl_Buried.f, e1, Option.bind_some]
    rw [if_neg h]
end Go.Proofs.Ytheckjlldkkceaa.Pu
