import Derived.Test.YtmonbofhfaaflaaZfBs
import Derived.Test.YtmonbofhfaaflaaZfBp
import Derived.Test.YtmonbofhfaaflaaZfPx9
import Derived.Test.YtmonbofhfaaflaaZfPx12
namespace Go.Proofs.Ytmonbofhfaaflaa.Pu
open Go.RowKit Go.Proofs.Ytmonbofhfaaflaa.Px Go.Proofs.YtmonbofhfaaflaaW.PrintWords Go.Proofs.YtmonbofhfaaflaaW.PrintLast
set_option linter.unusedVariables false

theorem el_same : ∀ (k : Nat) (a : Int) (p : List Int) (b c d : Int), impl_Elapse.l0 k a p b c d = spec_Elapse.l0 k a p b c d ∧ ∀ x, impl_Elapse.j2 k a x p b c d = spec_Elapse.j2 k a x p b c d
  | 0, a, p, b, c, d => ⟨by simp only [impl_Elapse.l0, spec_Elapse.l0], fun x => by simp only [impl_Elapse.j2, spec_Elapse.j2]⟩
  | k + 1, a, p, b, c, d => ⟨by simp only [impl_Elapse.l0, spec_Elapse.l0, (el_same k _ _ _ _ _).2], fun x => by simp only [impl_Elapse.j2, spec_Elapse.j2, (el_same k _ _ _ _ _).1]⟩
/-- From a level and a time on: d levels are left. -/
def elap (p : List Int) (now v : Int) : Nat → Int → Int → Int × Int × Int
  | 0, lv, si => (lv, si, v)
  | d + 1, lv, si => if v = 0 ∧ now - si > rd p (lv - 1) then elap p now v d (lv + 1) (si + rd p (lv - 1)) else (lv, si, v)
theorem pol_rd (p : List Int) (hp : polOk p = true) (i : Int) (h0 : 0 ≤ i) (h1 : i < 3) : 1 ≤ rd p i ∧ rd p i ≤ 5000 := by
  simp only [polOk, Bool.and_eq_true, decide_eq_true_eq] at hp
  have hl : i.toNat < p.length := by omega
  have := List.all_eq_true.1 hp.2 p[i.toNat] (List.getElem_mem hl)
  simp only [polAt, Bool.and_eq_true, decide_eq_true_eq] at this
  have e : rd p i = p[i.toNat] := by simp [rd, hl]
  rw [e]; exact this
theorem pol_len (p : List Int) (hp : polOk p = true) : p.length = 3 := by
  simp only [polOk, Bool.and_eq_true, decide_eq_true_eq] at hp
  exact hp.1
theorem el_l (p : List Int) (hp : polOk p = true) (now v : Int) (hn0 : 0 ≤ now) (hn1 : now ≤ 100000) : ∀ (d : Nat) (lv si : Int), lv + d = 4 → 1 ≤ lv → 0 ≤ si → si ≤ 100000 →
    Ev (fun k => spec_Elapse.l0 k now p lv si v) (elap p now v d lv si) := by
  intro d
  have stop : ∀ lv si, Ev (fun k => spec_Elapse.j2 k now false p lv si v) (lv, si, v) := fun lv si => Ev.step (f := fun _ => some (lv, si, v)) (fun k => by simp only [spec_Elapse.j2]; rw [if_neg (by simp)]) (Ev.now _)
  induction d with
  | zero =>
    intro lv si h1 h2 h3 h4
    refine Ev.step (fun k => ?_) (stop lv si)
    simp only [spec_Elapse.l0]
    by_cases hv : v = 0
    · rw [if_pos hv, if_neg (by omega)]
    · rw [if_neg hv]
  | succ d ih =>
    intro lv si h1 h2 h3 h4
    obtain ⟨w1, w2⟩ := pol_rd p hp (lv - 1) (by omega) (by omega)
    have hl := pol_len p hp
    simp only [elap]
    by_cases hv : v = 0
    · by_cases hg : now - si > rd p (lv - 1)
      · rw [if_pos ⟨hv, hg⟩]
        have go : Ev (fun k => spec_Elapse.j2 k now true p lv si v) (elap p now v d (lv + 1) (si + rd p (lv - 1))) := by
          refine Ev.step (fun k => ?_) (ih (lv + 1) (si + rd p (lv - 1)) (by omega) (by omega) (by omega) (by omega))
          simp only [spec_Elapse.j2]
          rw [if_pos trivial, wrap_in (x := lv - 1) (by omega) (by omega), if_pos (by omega), if_pos (by omega), wrap_in (x := lv + 1) (by omega) (by omega), wrap_in (x := si + rd p (lv - 1)) (by omega) (by omega)]
        refine Ev.step (fun k => ?_) go
        simp only [spec_Elapse.l0]
        rw [if_pos hv, if_pos (show lv < 4 by omega), wrap_in (x := lv - 1) (by omega) (by omega), if_pos (by omega), if_pos (by omega), wrap_in (x := now - si) (by omega) (by omega), decide_eq_true hg]
      · rw [if_neg (fun h => hg h.2)]
        refine Ev.step (fun k => ?_) (stop lv si)
        simp only [spec_Elapse.l0]
        rw [if_pos hv, if_pos (show lv < 4 by omega), wrap_in (x := lv - 1) (by omega) (by omega), if_pos (by omega), if_pos (by omega), wrap_in (x := now - si) (by omega) (by omega), decide_eq_false hg]
    · rw [if_neg (fun h => hv h.1)]
      refine Ev.step (fun k => ?_) (stop lv si)
      simp only [spec_Elapse.l0]
      rw [if_neg hv]
def tick (n : Int) : Bool := decide (0 ≤ n) && decide (n ≤ 100000)
theorem tick_impl (n : Int) : impl_isTick.f n = some (tick n) := by
  simp only [impl_isTick.f, tick]
  by_cases h : n ≥ 0 <;> simp [h]
theorem in_spec (n a b : Int) : spec_l01In.f n a b = some (decide (a ≤ n) && decide (n ≤ b)) := by
  simp only [spec_l01In.f]
  by_cases h : n ≥ a <;> simp [h]
def elapse (p : List Int) (lv si v now : Int) : Int × Int × Int := if polOk p = true ∧ scOk lv si v = true ∧ tick now = true then elap p now v (4 - lv).toNat lv si else (lv, si, v)
theorem sc_in {lv si v : Int} (h : scOk lv si v = true) : 1 ≤ lv ∧ lv ≤ 4 ∧ 0 ≤ si ∧ si ≤ 100000 ∧ (v = 0 ∨ v = 1 ∨ (v = 2 ∧ lv = 4)) := by
  simp only [scOk, Bool.and_eq_true, Bool.or_eq_true, decide_eq_true_eq] at h
  omega
theorem tick_in {n : Int} (h : tick n = true) : 0 ≤ n ∧ n ≤ 100000 := by
  simp only [tick, Bool.and_eq_true, decide_eq_true_eq] at h
  exact h
theorem spec_el_ev (p : List Int) (lv si v now : Int) : Ev (fun k => spec_Elapse.f k p lv si v now) (elapse p lv si v now) := by
  have hdead : Ev (fun k => spec_Elapse.j0 k now true p lv si v) (lv, si, v) := Ev.step (f := fun _ => some (lv, si, v)) (fun k => by simp [spec_Elapse.j0]) (Ev.now _)
  unfold elapse
  by_cases h : polOk p = true ∧ scOk lv si v = true ∧ tick now = true
  · rw [if_pos h]
    obtain ⟨h1, h2, h3⟩ := h
    obtain ⟨a1, a2, a3, a4, _⟩ := sc_in h2
    obtain ⟨b1, b2⟩ := tick_in h3
    have hl := el_l p h1 now v b1 b2 (4 - lv).toNat lv si (by omega) a1 a3 a4
    have hlive : Ev (fun k => spec_Elapse.j0 k now false p lv si v) (elap p now v (4 - lv).toNat lv si) := Ev.step (fun k => by simp [spec_Elapse.j0]) hl
    refine Lt.ev ((Lt.of (spec_pol_ev p)).and (Lt.of hlive)) fun n ⟨e1, e2⟩ => ?_
    have ht : (decide (0 ≤ now) && decide (now ≤ 100000)) = true := h3
    simp only [spec_Elapse.f, e1, Option.bind_some, screen_spec, in_spec, h1, h2, ht, if_pos, Bool.not_true, e2]
  · rw [if_neg h]
    refine Lt.ev ((Lt.of (spec_pol_ev p)).and (Lt.of hdead)) fun n ⟨e1, e2⟩ => ?_
    simp only [spec_Elapse.f, e1, Option.bind_some, screen_spec, in_spec]
    cases hp : polOk p with
    | false => simp [e2]
    | true =>
      cases hs : scOk lv si v with
      | false => simp [e2]
      | true =>
        have ht : (decide (0 ≤ now) && decide (now ≤ 100000)) = false := by
          have : tick now ≠ true := fun h' => h ⟨hp, hs, h'⟩
          simpa [tick] using this
        simp [ht, e2]
theorem impl_el_ev (p : List Int) (lv si v now : Int) : Ev (fun k => impl_Elapse.f k p lv si v now) (elapse p lv si v now) := by
  have hdead : Ev (fun k => impl_Elapse.j0 k now true p lv si v) (lv, si, v) := Ev.step (f := fun _ => some (lv, si, v)) (fun k => by simp [impl_Elapse.j0]) (Ev.now _)
  unfold elapse
  by_cases h : polOk p = true ∧ scOk lv si v = true ∧ tick now = true
  · rw [if_pos h]
    obtain ⟨h1, h2, h3⟩ := h
    obtain ⟨a1, a2, a3, a4, _⟩ := sc_in h2
    obtain ⟨b1, b2⟩ := tick_in h3
    have hl := el_l p h1 now v b1 b2 (4 - lv).toNat lv si (by omega) a1 a3 a4
    have hlive : Ev (fun k => impl_Elapse.j0 k now false p lv si v) (elap p now v (4 - lv).toNat lv si) := Ev.step (fun k => by simp only [impl_Elapse.j0]; rw [if_neg (by simp)]; exact (el_same k _ _ _ _ _).1) hl
    refine Lt.ev (Lt.of hlive) fun n e2 => ?_
    simp only [impl_Elapse.f, impl_pol, Option.bind_some, screen_impl, tick_impl, h1, h2, h3, if_pos, Bool.not_true, e2]
  · rw [if_neg h]
    refine Lt.ev (Lt.of hdead) fun n e2 => ?_
    simp only [impl_Elapse.f, impl_pol, Option.bind_some, screen_impl, tick_impl]
    cases hp : polOk p with
    | false => simp [e2]
    | true =>
      cases hs : scOk lv si v with
      | false => simp [e2]
      | true =>
        have ht : tick now = false := by
          cases ht : tick now with
          | false => rfl
          | true => exact absurd ⟨hp, hs, ht⟩ h
        simp [ht, e2]
end Go.Proofs.Ytmonbofhfaaflaa.Pu
