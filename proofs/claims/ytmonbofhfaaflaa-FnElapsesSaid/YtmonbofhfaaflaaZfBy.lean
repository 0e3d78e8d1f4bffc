import Derived.Test.YtmonbofhfaaflaaZfBx
import Derived.Test.YtmonbofhfaaflaaZfBh
import Derived.Test.YtmonbofhfaaflaaZfPx25
namespace Go.Proofs.Ytmonbofhfaaflaa.Pu
open Go.RowKit Go.Proofs.Ytmonbofhfaaflaa.Px Go.Proofs.YtmonbofhfaaflaaW.PrintWords Go.Proofs.YtmonbofhfaaflaaW.PrintLast
set_option linter.unusedVariables false

theorem drawScreen_ev (b : List Int) (hb : b.length ≤ 1048576) : ∃ p lv si v, Ev (fun k => spec_DrawScreen.f k b) (p, lv, si, v) ∧ polOk p = true ∧ scOk lv si v = true ∧ si ≤ 99 := by
  obtain ⟨h0, e0, c0⟩ := new_ev b hb
  obtain ⟨p, i1, h1, e1, hp, hl, c1⟩ := policy_ok b 0 h0 c0
  obtain ⟨lv, si, v, i2, h2, e2, hs, h99, c2⟩ := screen_ok b i1 h1 c1
  refine ⟨p, lv, si, v, Lt.ev (Lt.of e0) (fun n e => ?_), hp, hs, h99⟩
  simp only [spec_DrawScreen.f, e, e1, e2, Option.bind_some]
theorem places_l (b : List Int) : ∀ (d n : Nat) (i h : Int) (l : List Int), n + d = 12 → l.length = n → (∀ x ∈ l, 0 ≤ x ∧ x < 10000) → Cur b i → ∃ r, Ev (fun k => spec_DrawPlaces.l0 k l (n : Int) b i h) r ∧ r.length = 12 ∧ ∀ x ∈ r, 0 ≤ x ∧ x < 10000 := by
  intro d
  induction d with
  | zero =>
    intro n i h l hn hl hx c
    refine ⟨l, Ev.step (f := fun _ => some l) (fun k => ?_) (Ev.now _), by omega, hx⟩
    simp only [spec_DrawPlaces.l0]
    rw [if_neg (by omega)]
  | succ d ih =>
    intro n i h l hn hl hx c
    obtain ⟨x, i', h', e, p, q, _, c'⟩ := below_ok b i h c 10000
    obtain ⟨r, hr, hr2⟩ := ih (n + 1) i' h' (l ++ [x]) (by omega) (by simp; omega) (by
      intro y hy
      rcases List.mem_append.1 hy with hy | hy
      · exact hx y hy
      · rw [List.mem_singleton.1 hy]; exact ⟨p, q (by omega)⟩) c'
    refine ⟨r, Ev.step (fun k => ?_) hr, hr2⟩
    simp only [spec_DrawPlaces.l0, e, Option.bind_some]
    rw [if_pos (by omega), if_pos (by omega), wrap_in (x := (n : Int) + 1) (by omega) (by omega)]
    rfl
theorem drawPlaces_ev (b : List Int) (hb : b.length ≤ 1048576) : ∃ r, Ev (fun k => spec_DrawPlaces.f k b) r ∧ r.length = 12 ∧ ∀ x ∈ r, 0 ≤ x ∧ x < 10000 := by
  obtain ⟨h0, e0, c0⟩ := new_ev b hb
  obtain ⟨r, hr, h2⟩ := places_l b 12 0 0 h0 [] (by omega) rfl (by simp) c0
  refine ⟨r, Lt.ev ((Lt.of e0).and (Lt.of hr)) (fun n ⟨e, e2⟩ => ?_), h2⟩
  simp only [spec_DrawPlaces.f, e, Option.bind_some]
  exact e2
theorem elap_since (p : List Int) (hp : polOk p = true) (a v : Int) : ∀ (d : Nat) (lv si : Int), lv + d = 4 → 1 ≤ lv → si ≤ (elap p a v d lv si).2.1 ∧ ((elap p a v d lv si).2.1 ≤ si ∨ (elap p a v d lv si).2.1 ≤ a)
  | 0, lv, si, h, h1 => by simp [elap]
  | d + 1, lv, si, h, h1 => by
    obtain ⟨w1, w2⟩ := pol_rd p hp (lv - 1) (by omega) (by omega)
    have ih := elap_since p hp a v d (lv + 1) (si + rd p (lv - 1)) (by omega) (by omega)
    simp only [elap]
    split
    · rename_i hc
      omega
    · simp
theorem elap_lv (p : List Int) (a v : Int) : ∀ (d : Nat) (lv si : Int), lv + d = 4 → lv ≤ (elap p a v d lv si).1 ∧ (elap p a v d lv si).1 ≤ 4 ∧ (elap p a v d lv si).2.2 = v
  | 0, lv, si, h => by simp [elap]; omega
  | d + 1, lv, si, h => by
    have ih := elap_lv p a v d (lv + 1) (si + rd p (lv - 1)) (by omega)
    simp only [elap]
    split
    · omega
    · simp
      omega
/-- Time in two parts is time at once. -/
theorem elap_two (p : List Int) (a b v : Int) (hab : a ≤ b) : ∀ (d : Nat) (lv si : Int), lv + d = 4 →
    elap p b v (4 - (elap p a v d lv si).1).toNat (elap p a v d lv si).1 (elap p a v d lv si).2.1 = elap p b v d lv si
  | 0, lv, si, h => by
    have : lv = 4 := by omega
    subst this
    rfl
  | d + 1, lv, si, h => by
    have ih := elap_two p a b v hab d (lv + 1) (si + rd p (lv - 1)) (by omega)
    simp only [elap]
    by_cases hc : v = 0 ∧ a - si > rd p (lv - 1)
    · rw [if_pos hc, if_pos (show v = 0 ∧ b - si > rd p (lv - 1) by omega)]
      exact ih
    · rw [if_neg hc]
      have e : (4 - lv).toNat = d + 1 := by omega
      simp only [e]
      rfl
end Go.Proofs.Ytmonbofhfaaflaa.Pu
