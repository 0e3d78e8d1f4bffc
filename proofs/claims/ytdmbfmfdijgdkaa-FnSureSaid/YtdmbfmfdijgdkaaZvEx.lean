import Derived.Test.YtdmbfmfdijgdkaaZvBa
import Derived.Test.YtdmbfmfdijgdkaaZvPx1
import Derived.Test.YtdmbfmfdijgdkaaZvPx7
import Derived.Test.YtdmbfmfdijgdkaaZvPx8
namespace Go.Proofs.Ytdmbfmfdijgdkaa.Pu
open Go.RowKit Go.Proofs.Ytdmbfmfdijgdkaa.Px Go.Proofs.YtdmbfmfdijgdkaaW.PrintWords Go.Proofs.YtdmbfmfdijgdkaaW.PrintLast
set_option linter.unusedVariables false
theorem rd52_getD (l : List S52) (i : Nat) : rd_T52 l (i : Int) = l.getD i z52 := by simp [rd_T52]
theorem rd89_getD (l : List S89) (i : Nat) : rd_T89 l (i : Int) = l.getD i z89 := by simp [rd_T89]
theorem any_take {α : Type} (l : List α) (z : α) (p : α → Bool) (i : Nat) (hi : i ≤ l.length) : (l.take i).any p = !allF (fun k => !p (l.getD k z)) 0 i := by
  cases h : allF (fun k => !p (l.getD k z)) 0 i with
  | true =>
    rw [allF_iff] at h
    rw [Bool.not_true, List.any_eq_false]
    intro x hx
    obtain ⟨j, hj, rfl⟩ := List.getElem_of_mem hx
    rw [List.length_take] at hj
    have := h j (by omega) (by omega)
    rw [List.getElem_take]
    have e : l.getD j z = l[j] := by simp [show j < l.length by omega]
    rw [e] at this
    simpa using this
  | false =>
    rw [Bool.not_false, List.any_eq_true]
    have hn : ¬ ∀ j, 0 ≤ j → j < 0 + i → (!p (l.getD j z)) = true := fun hh => by
      have := (allF_iff _ i 0).2 hh
      rw [h] at this
      cases this
    have : ∃ j, j < i ∧ p (l.getD j z) = true := by
      refine Classical.byContradiction fun hc => hn fun j h0 h1 => ?_
      cases hp : p (l.getD j z) with
      | false => rfl
      | true => exact absurd ⟨j, by omega, hp⟩ hc
    obtain ⟨j, hj, hp⟩ := this
    have hjl : j < l.length := by omega
    have e : l.getD j z = l[j] := by simp [hjl]
    rw [e] at hp
    refine ⟨l[j], ?_, hp⟩
    rw [List.mem_take_iff_getElem]
    exact ⟨j, by omega, rfl⟩
def exAt (l : List S52) (j : Nat) : Bool :=
  decide (1 ≤ (l.getD j z52).f0) && decide (0 ≤ (l.getD j z52).f1) && decide ((l.getD j z52).f1 ≤ (l.getD j z52).f2) && decide ((l.getD j z52).f2 ≤ 100000) && allF (fun k => !((l.getD k z52).f0 == (l.getD j z52).f0)) 0 j
def exOk (l : List S52) : Bool := allF (exAt l) 0 l.length && decide (l.length ≤ 6)
theorem impl_ex_l (l : List S52) (hn : l.length ≤ 4611686018427387904) : ∀ (d i : Nat), i + d = l.length → Ev (fun k => impl_ExpectOk.l0 k l l (l.length : Int) (i : Int)) (allF (exAt l) i d && decide (l.length ≤ 6)) := by
  intro d
  induction d with
  | zero =>
    intro i hi
    have e : decide ((l.length : Int) ≤ 6) = (allF (exAt l) i 0 && decide (l.length ≤ 6)) := by
      simp only [allF, Bool.true_and]
      exact decide_eq_decide.2 ⟨fun h => by omega, fun h => by omega⟩
    rw [← e]
    refine Ev.step (f := fun _ => some (decide ((l.length : Int) ≤ 6))) (fun k => ?_) (Ev.now _)
    simp only [impl_ExpectOk.l0]
    rw [if_neg (by omega)]
  | succ d ih =>
    intro i hi
    have hih := ih (i + 1) (by omega)
    have e0 := rd52_getD l i
    have hany := any_take l z52 (vc_impl_ExpectOk_1_any.p (l.getD i z52).f0 (l.getD i z52).f1 (l.getD i z52).f2) i (by omega)
    have hrw : (fun k => !vc_impl_ExpectOk_1_any.p (l.getD i z52).f0 (l.getD i z52).f1 (l.getD i z52).f2 (l.getD k z52)) = (fun k => !((l.getD k z52).f0 == (l.getD i z52).f0)) := rfl
    rw [hrw] at hany
    generalize hs : allF (fun k => !((l.getD k z52).f0 == (l.getD i z52).f0)) 0 i = same at hany
    have hat : exAt l i = (decide (1 ≤ (l.getD i z52).f0) && decide (0 ≤ (l.getD i z52).f1) && decide ((l.getD i z52).f1 ≤ (l.getD i z52).f2) && decide ((l.getD i z52).f2 ≤ 100000) && same) := by
      unfold exAt
      rw [hs]
    have bad : Ev (fun k => impl_ExpectOk.j1 k l l (l.length : Int) (i : Int) true) false := Ev.step (f := fun _ => some false) (fun k => by simp [impl_ExpectOk.j1]) (Ev.now _)
    have good : Ev (fun k => impl_ExpectOk.j1 k l l (l.length : Int) (i : Int) false) (allF (exAt l) (i + 1) d && decide (l.length ≤ 6)) := by
      refine Ev.step (fun k => ?_) hih
      simp only [impl_ExpectOk.j1]
      rw [if_neg (by simp), wrap_in (x := (i : Int) + 1) (by omega) (by omega)]
      rfl
    simp only [allF, hat]
    by_cases c1 : (l.getD i z52).f0 < 1
    · rw [decide_eq_false (show ¬ 1 ≤ (l.getD i z52).f0 by omega)]
      simp only [Bool.false_and]
      refine Ev.step (fun k => ?_) bad
      simp only [impl_ExpectOk.l0, e0]
      rw [if_pos (by omega), if_pos (by omega), if_pos (by omega), if_pos c1]
    · rw [decide_eq_true (show 1 ≤ (l.getD i z52).f0 by omega)]
      by_cases c2 : (l.getD i z52).f1 < 0
      · rw [decide_eq_false (show ¬ 0 ≤ (l.getD i z52).f1 by omega)]
        simp only [Bool.false_and, Bool.and_false]
        refine Ev.step (fun k => ?_) bad
        simp only [impl_ExpectOk.l0, e0]
        rw [if_pos (by omega), if_pos (by omega), if_pos (by omega), if_neg c1, if_pos c2]
      · rw [decide_eq_true (show 0 ≤ (l.getD i z52).f1 by omega)]
        by_cases c3 : (l.getD i z52).f2 < (l.getD i z52).f1
        · rw [decide_eq_false (show ¬ (l.getD i z52).f1 ≤ (l.getD i z52).f2 by omega)]
          simp only [Bool.false_and, Bool.and_false]
          refine Ev.step (fun k => ?_) bad
          simp only [impl_ExpectOk.l0, e0]
          rw [if_pos (by omega), if_pos (by omega), if_pos (by omega), if_neg c1, if_neg c2, if_pos c3]
        · rw [decide_eq_true (show (l.getD i z52).f1 ≤ (l.getD i z52).f2 by omega)]
          by_cases c4 : (l.getD i z52).f2 > 100000
          · rw [decide_eq_false (show ¬ (l.getD i z52).f2 ≤ 100000 by omega)]
            simp only [Bool.false_and, Bool.and_false]
            refine Ev.step (fun k => ?_) bad
            simp only [impl_ExpectOk.l0, e0]
            rw [if_pos (by omega), if_pos (by omega), if_pos (by omega), if_neg c1, if_neg c2, if_neg c3, if_pos c4]
          · rw [decide_eq_true (show (l.getD i z52).f2 ≤ 100000 by omega)]
            simp only [Bool.true_and]
            cases same with
            | true =>
              simp only [Bool.true_and]
              refine Ev.step (fun k => ?_) good
              simp only [impl_ExpectOk.l0, e0, vc_impl_ExpectOk_1_any.f, Int.toNat_natCast, hany, Option.bind_some]
              rw [if_pos (by omega), if_pos (by omega), if_pos (by omega), if_neg c1, if_neg c2, if_neg c3, if_neg c4, if_pos (by omega)]
              rfl
            | false =>
              simp only [Bool.false_and]
              refine Ev.step (fun k => ?_) bad
              simp only [impl_ExpectOk.l0, e0, vc_impl_ExpectOk_1_any.f, Int.toNat_natCast, hany, Option.bind_some]
              rw [if_pos (by omega), if_pos (by omega), if_pos (by omega), if_neg c1, if_neg c2, if_neg c3, if_neg c4, if_pos (by omega)]
              rfl
theorem impl_ex_ev (l : List S52) (hn : l.length ≤ 4611686018427387904) : Ev (fun k => impl_ExpectOk.f k l) (exOk l) :=
  Ev.congr (fun k => by simp only [impl_ExpectOk.f]; rfl) (impl_ex_l l hn l.length 0 (by omega))
theorem spec_ex_l1 (l : List S52) (hn : l.length ≤ 6) (i : Nat) (hi : i < l.length) (r : Bool) (hg : allF (fun k => !((l.getD k z52).f0 == (l.getD i z52).f0)) 0 i = true → Ev (fun k => spec_ExpectOk.l0 k l ((i : Int) + 1)) r) (hb : allF (fun k => !((l.getD k z52).f0 == (l.getD i z52).f0)) 0 i = false → r = false) :
    ∀ (d j : Nat), j + d = i → (∀ k, k < j → (l.getD k z52).f0 ≠ (l.getD i z52).f0) → Ev (fun k => spec_ExpectOk.l1 k l (i : Int) (j : Int)) r := by
  intro d
  induction d with
  | zero =>
    intro j hj h
    have : j = i := by omega
    subst this
    refine Ev.step (fun k => ?_) (hg ((allF_iff _ _ _).2 fun k h0 h1 => by simpa using h k (by omega)))
    simp only [spec_ExpectOk.l1]
    rw [if_neg (by omega), wrap_in (x := (j : Int) + 1) (by omega) (by omega)]
  | succ d ih =>
    intro j hj h
    by_cases e : (l.getD j z52).f0 = (l.getD i z52).f0
    · have : r = false := hb (by
        cases hh : allF (fun k => !((l.getD k z52).f0 == (l.getD i z52).f0)) 0 i with
        | false => rfl
        | true =>
          have := (allF_iff _ _ _).1 hh j (by omega) (by omega)
          rw [e] at this
          simp at this)
      subst this
      refine Ev.step (f := fun _ => some false) (fun k => ?_) (Ev.now _)
      simp only [spec_ExpectOk.l1, rd52_getD]
      rw [if_pos (by omega), if_pos (by omega), if_pos (by omega), if_pos (by omega), if_pos (by omega), if_pos e]
    · refine Ev.step (fun k => ?_) (ih (j + 1) (by omega) (fun k hk => by
        by_cases hkj : k = j
        · subst hkj; exact e
        · exact h k (by omega)))
      simp only [spec_ExpectOk.l1, rd52_getD]
      rw [if_pos (by omega), if_pos (by omega), if_pos (by omega), if_pos (by omega), if_pos (by omega), if_neg e, wrap_in (x := (j : Int) + 1) (by omega) (by omega)]
      rfl
theorem spec_ex_l0 (l : List S52) (hn : l.length ≤ 6) : ∀ (d i : Nat), i + d = l.length → Ev (fun k => spec_ExpectOk.l0 k l (i : Int)) (allF (exAt l) i d) := by
  intro d
  induction d with
  | zero =>
    intro i hi
    refine Ev.step (f := fun _ => some true) (fun k => ?_) (Ev.now _)
    simp only [spec_ExpectOk.l0]
    rw [if_neg (by omega)]
  | succ d ih =>
    intro i hi
    have hih := ih (i + 1) (by omega)
    have e0 := rd52_getD l i
    have bad : Ev (fun k => spec_ExpectOk.j1 k l (i : Int) true) false := Ev.step (f := fun _ => some false) (fun k => by simp [spec_ExpectOk.j1]) (Ev.now _)
    have hl1 := spec_ex_l1 l hn i (by omega) (allF (fun k => !((l.getD k z52).f0 == (l.getD i z52).f0)) 0 i && allF (exAt l) (i + 1) d) (fun h => by rw [h, Bool.true_and]; exact hih) (fun h => by rw [h, Bool.false_and]) i 0 (by omega) (fun k hk => by omega)
    have good : Ev (fun k => spec_ExpectOk.j1 k l (i : Int) false) (allF (fun k => !((l.getD k z52).f0 == (l.getD i z52).f0)) 0 i && allF (exAt l) (i + 1) d) := by
      refine Ev.step (fun k => ?_) hl1
      simp only [spec_ExpectOk.j1]
      rw [if_neg (by simp)]
      rfl
    simp only [allF]
    unfold exAt
    generalize allF (fun k => !((l.getD k z52).f0 == (l.getD i z52).f0)) 0 i = same at good ⊢
    have fold : (fun j => decide (1 ≤ (l.getD j z52).f0) && decide (0 ≤ (l.getD j z52).f1) && decide ((l.getD j z52).f1 ≤ (l.getD j z52).f2) && decide ((l.getD j z52).f2 ≤ 100000) && allF (fun k => !((l.getD k z52).f0 == (l.getD j z52).f0)) 0 j) = exAt l := rfl
    by_cases c1 : (l.getD i z52).f0 < 1
    · rw [decide_eq_false (show ¬ 1 ≤ (l.getD i z52).f0 by omega)]
      simp only [Bool.false_and]
      refine Ev.step (fun k => ?_) bad
      simp only [spec_ExpectOk.l0, e0]
      rw [if_pos (by omega), if_pos (by omega), if_pos c1]
    · rw [decide_eq_true (show 1 ≤ (l.getD i z52).f0 by omega)]
      by_cases c2 : (l.getD i z52).f1 < 0
      · rw [decide_eq_false (show ¬ 0 ≤ (l.getD i z52).f1 by omega)]
        simp only [Bool.false_and, Bool.and_false]
        refine Ev.step (fun k => ?_) bad
        simp only [spec_ExpectOk.l0, e0]
        rw [if_pos (by omega), if_pos (by omega), if_neg c1, if_pos c2]
      · rw [decide_eq_true (show 0 ≤ (l.getD i z52).f1 by omega)]
        by_cases c3 : (l.getD i z52).f2 < (l.getD i z52).f1
        · rw [decide_eq_false (show ¬ (l.getD i z52).f1 ≤ (l.getD i z52).f2 by omega)]
          simp only [Bool.false_and, Bool.and_false]
          refine Ev.step (fun k => ?_) bad
          simp only [spec_ExpectOk.l0, e0]
          rw [if_pos (by omega), if_pos (by omega), if_neg c1, if_neg c2, if_pos c3]
        · rw [decide_eq_true (show (l.getD i z52).f1 ≤ (l.getD i z52).f2 by omega)]
          by_cases c4 : (l.getD i z52).f2 > 100000
          · rw [decide_eq_false (show ¬ (l.getD i z52).f2 ≤ 100000 by omega)]
            simp only [Bool.false_and, Bool.and_false]
            refine Ev.step (fun k => ?_) bad
            simp only [spec_ExpectOk.l0, e0]
            rw [if_pos (by omega), if_pos (by omega), if_neg c1, if_neg c2, if_neg c3, decide_eq_true c4]
          · rw [decide_eq_true (show (l.getD i z52).f2 ≤ 100000 by omega)]
            simp only [Bool.true_and]
            refine Ev.step (fun k => ?_) good
            simp only [spec_ExpectOk.l0, e0]
            rw [if_pos (by omega), if_pos (by omega), if_neg c1, if_neg c2, if_neg c3, decide_eq_false c4]
theorem spec_ex_ev (l : List S52) : Ev (fun k => spec_ExpectOk.f k l) (exOk l) := by
  unfold exOk
  by_cases h : l.length ≤ 6
  · rw [decide_eq_true h, Bool.and_true]
    refine Ev.congr (fun k => ?_) (spec_ex_l0 l h l.length 0 (by omega))
    simp only [spec_ExpectOk.f]
    rw [if_neg (by omega)]
    rfl
  · rw [decide_eq_false h, Bool.and_false]
    refine Ev.congr (f := fun _ => some false) (fun k => ?_) (Ev.now _)
    simp only [spec_ExpectOk.f]
    rw [if_pos (by omega)]
theorem tick_eq (n : Int) : impl_isTick.f n = some (decide (0 ≤ n) && decide (n ≤ 100000)) := by
  simp only [impl_isTick.f]
  by_cases h : n ≥ 0 <;> simp [h]
theorem in_eq (n : Int) : spec_l01In.f n 0 100000 = some (decide (0 ≤ n) && decide (n ≤ 100000)) := by
  simp only [spec_l01In.f]
  by_cases h : n ≥ 0 <;> simp [h]
def sgAt (l : List S89) (j : Nat) : Bool :=
  decide (0 ≤ (l.getD j z89).f0) && decide ((l.getD j z89).f0 ≤ 100000) && decide (0 ≤ (l.getD j z89).f1) && (decide (j = 0) || decide ((l.getD (j - 1) z89).f0 ≤ (l.getD j z89).f0)) && (decide ((l.getD j z89).f1 = 0) || allF (fun k => !((l.getD k z89).f1 == (l.getD j z89).f1)) 0 j)
def sgOk (l : List S89) : Bool := allF (sgAt l) 0 l.length && decide (l.length ≤ 6)
theorem rd89_prev (l : List S89) (i : Nat) (h : i ≠ 0) : rd_T89 l ((i : Int) - 1) = l.getD (i - 1) z89 := by
  have : ((i : Int) - 1).toNat = i - 1 := by omega
  simp [rd_T89, this]
theorem impl_sg_l (l : List S89) (hn : l.length ≤ 4611686018427387904) : ∀ (d i : Nat), i + d = l.length → Ev (fun k => impl_SightsOk.l0 k l l (l.length : Int) (i : Int)) (allF (sgAt l) i d && decide (l.length ≤ 6)) := by
  intro d
  induction d with
  | zero =>
    intro i hi
    have e : decide ((l.length : Int) ≤ 6) = (allF (sgAt l) i 0 && decide (l.length ≤ 6)) := by
      simp only [allF, Bool.true_and]
      exact decide_eq_decide.2 ⟨fun h => by omega, fun h => by omega⟩
    rw [← e]
    refine Ev.step (f := fun _ => some (decide ((l.length : Int) ≤ 6))) (fun k => ?_) (Ev.now _)
    simp only [impl_SightsOk.l0]
    rw [if_neg (by omega)]
  | succ d ih =>
    intro i hi
    have hih := ih (i + 1) (by omega)
    have e0 := rd89_getD l i
    have hany := any_take l z89 (vc_impl_isNamed_1_any.p (l.getD i z89).f1) i (by omega)
    have hrw : (fun k => !vc_impl_isNamed_1_any.p (l.getD i z89).f1 (l.getD k z89)) = (fun k => !((l.getD k z89).f1 == (l.getD i z89).f1)) := rfl
    rw [hrw] at hany
    generalize hs : allF (fun k => !((l.getD k z89).f1 == (l.getD i z89).f1)) 0 i = same at hany
    have hat : sgAt l i = (decide (0 ≤ (l.getD i z89).f0) && decide ((l.getD i z89).f0 ≤ 100000) && decide (0 ≤ (l.getD i z89).f1) && (decide (i = 0) || decide ((l.getD (i - 1) z89).f0 ≤ (l.getD i z89).f0)) && (decide ((l.getD i z89).f1 = 0) || same)) := by
      unfold sgAt
      rw [hs]
    have bad : Ev (fun k => impl_SightsOk.j1 k l (i : Int) l (l.length : Int) (i : Int) true (l.getD i z89).f0 (l.getD i z89).f1) false := Ev.step (f := fun _ => some false) (fun k => by simp [impl_SightsOk.j1]) (Ev.now _)
    have good : Ev (fun k => impl_SightsOk.j1 k l (i : Int) l (l.length : Int) (i : Int) false (l.getD i z89).f0 (l.getD i z89).f1) ((decide ((l.getD i z89).f1 = 0) || same) && (allF (sgAt l) (i + 1) d && decide (l.length ≤ 6))) := by
      by_cases c : (l.getD i z89).f1 = 0
      · rw [decide_eq_true c, Bool.true_or, Bool.true_and]
        refine Ev.step (fun k => ?_) hih
        simp only [impl_SightsOk.j1]
        rw [if_neg (by simp), if_pos c, wrap_in (x := (i : Int) + 1) (by omega) (by omega)]
        rfl
      · rw [decide_eq_false c, Bool.false_or]
        cases same with
        | true =>
          rw [Bool.true_and]
          refine Ev.step (fun k => ?_) hih
          simp only [impl_SightsOk.j1, impl_isNamed.f, vc_impl_isNamed_1_any.f, Int.toNat_natCast, hany, Option.bind_some]
          rw [if_neg (by simp), if_neg c, if_pos (by omega), if_pos (by omega), if_neg (by simp), wrap_in (x := (i : Int) + 1) (by omega) (by omega)]
          rfl
        | false =>
          rw [Bool.false_and]
          refine Ev.step (f := fun _ => some false) (fun k => ?_) (Ev.now _)
          simp only [impl_SightsOk.j1, impl_isNamed.f, vc_impl_isNamed_1_any.f, Int.toNat_natCast, hany, Option.bind_some]
          rw [if_neg (by simp), if_neg c, if_pos (by omega), if_pos (by omega), if_pos (by simp)]
    simp only [allF, hat]
    have tick : impl_isTick.f (l.getD i z89).f0 = some (decide (0 ≤ (l.getD i z89).f0) && decide ((l.getD i z89).f0 ≤ 100000)) := tick_eq _
    generalize ht : (decide (0 ≤ (l.getD i z89).f0) && decide ((l.getD i z89).f0 ≤ 100000)) = tk at tick ⊢
    cases tk with
    | false =>
      simp only [Bool.false_and]
      refine Ev.step (fun k => ?_) bad
      simp only [impl_SightsOk.l0, e0, tick, Option.bind_some]
      rw [if_pos (by omega), if_pos (by omega), if_pos (by omega), if_neg (by simp)]
    | true =>
      simp only [Bool.true_and]
      have last : ∀ b : Bool, b = decide ((l.getD i z89).f1 < 0) → Ev (fun k => impl_SightsOk.j1 k l (i : Int) l (l.length : Int) (i : Int) b (l.getD i z89).f0 (l.getD i z89).f1) (decide (0 ≤ (l.getD i z89).f1) && ((decide ((l.getD i z89).f1 = 0) || same) && (allF (sgAt l) (i + 1) d && decide (l.length ≤ 6)))) := by
        intro b hb
        subst hb
        by_cases c : (l.getD i z89).f1 < 0
        · rw [decide_eq_true c, decide_eq_false (show ¬ 0 ≤ (l.getD i z89).f1 by omega), Bool.false_and]
          exact bad
        · rw [decide_eq_false c, decide_eq_true (show 0 ≤ (l.getD i z89).f1 by omega), Bool.true_and]
          exact good
      by_cases c0 : i = 0
      · have e1 : (decide (0 ≤ (l.getD i z89).f1) && (decide (i = 0) || decide ((l.getD (i - 1) z89).f0 ≤ (l.getD i z89).f0)) && (decide ((l.getD i z89).f1 = 0) || same) && allF (sgAt l) (i + 1) d && decide (l.length ≤ 6)) = (decide (0 ≤ (l.getD i z89).f1) && ((decide ((l.getD i z89).f1 = 0) || same) && (allF (sgAt l) (i + 1) d && decide (l.length ≤ 6)))) := by
          rw [decide_eq_true c0, Bool.true_or, Bool.and_true, Bool.and_assoc, Bool.and_assoc]
        rw [e1]
        refine Ev.step (fun k => ?_) (last _ rfl)
        simp only [impl_SightsOk.l0, e0, tick, Option.bind_some]
        rw [if_pos (by omega), if_pos (by omega), if_pos (by omega), if_pos trivial, if_neg (by omega)]
      · have ep := rd89_prev l i c0
        by_cases c1 : (l.getD i z89).f0 < (l.getD (i - 1) z89).f0
        · have e1 : (decide (0 ≤ (l.getD i z89).f1) && (decide (i = 0) || decide ((l.getD (i - 1) z89).f0 ≤ (l.getD i z89).f0)) && (decide ((l.getD i z89).f1 = 0) || same) && allF (sgAt l) (i + 1) d && decide (l.length ≤ 6)) = false := by
            rw [decide_eq_false c0, decide_eq_false (show ¬ (l.getD (i - 1) z89).f0 ≤ (l.getD i z89).f0 by omega), Bool.false_or, Bool.and_false, Bool.false_and, Bool.false_and, Bool.false_and]
          rw [e1]
          refine Ev.step (fun k => ?_) bad
          simp only [impl_SightsOk.l0, e0, tick, Option.bind_some]
          rw [if_pos (by omega), if_pos (by omega), if_pos (by omega), if_pos trivial, if_pos (by omega), wrap_in (x := (i : Int) - 1) (by omega) (by omega), if_pos (by omega), if_pos (by omega), ep, if_pos c1]
        · have e1 : (decide (0 ≤ (l.getD i z89).f1) && (decide (i = 0) || decide ((l.getD (i - 1) z89).f0 ≤ (l.getD i z89).f0)) && (decide ((l.getD i z89).f1 = 0) || same) && allF (sgAt l) (i + 1) d && decide (l.length ≤ 6)) = (decide (0 ≤ (l.getD i z89).f1) && ((decide ((l.getD i z89).f1 = 0) || same) && (allF (sgAt l) (i + 1) d && decide (l.length ≤ 6)))) := by
            rw [decide_eq_true (show (l.getD (i - 1) z89).f0 ≤ (l.getD i z89).f0 by omega), Bool.or_true, Bool.and_true, Bool.and_assoc, Bool.and_assoc]
          rw [e1]
          refine Ev.step (fun k => ?_) (last _ rfl)
          simp only [impl_SightsOk.l0, e0, tick, Option.bind_some]
          rw [if_pos (by omega), if_pos (by omega), if_pos (by omega), if_pos trivial, if_pos (by omega), wrap_in (x := (i : Int) - 1) (by omega) (by omega), if_pos (by omega), if_pos (by omega), ep, if_neg c1]
theorem impl_sg_ev (l : List S89) (hn : l.length ≤ 4611686018427387904) : Ev (fun k => impl_SightsOk.f k l) (sgOk l) :=
  Ev.congr (fun k => by simp only [impl_SightsOk.f]; rfl) (impl_sg_l l hn l.length 0 (by omega))
theorem spec_sg_l1 (l : List S89) (hn : l.length ≤ 6) (i : Nat) (hi : i < l.length) (r : Bool) (hg : (decide ((l.getD i z89).f1 = 0) || allF (fun k => !((l.getD k z89).f1 == (l.getD i z89).f1)) 0 i) = true → Ev (fun k => spec_SightsOk.l0 k l ((i : Int) + 1)) r) (hb : (decide ((l.getD i z89).f1 = 0) || allF (fun k => !((l.getD k z89).f1 == (l.getD i z89).f1)) 0 i) = false → r = false) :
    ∀ (d j : Nat), j + d = i → ((l.getD i z89).f1 ≠ 0 → ∀ k, k < j → (l.getD k z89).f1 ≠ (l.getD i z89).f1) → Ev (fun k => spec_SightsOk.l1 k l (i : Int) (j : Int)) r := by
  intro d
  induction d with
  | zero =>
    intro j hj h
    have : j = i := by omega
    subst this
    refine Ev.step (fun k => ?_) (hg (by
      by_cases c : (l.getD j z89).f1 = 0
      · rw [decide_eq_true c, Bool.true_or]
      · rw [(allF_iff _ _ _).2 (fun k h0 h1 => by simpa using h c k (by omega)), Bool.or_true]))
    simp only [spec_SightsOk.l1]
    rw [if_neg (by omega), wrap_in (x := (j : Int) + 1) (by omega) (by omega)]
  | succ d ih =>
    intro j hj h
    by_cases c : (l.getD i z89).f1 = 0
    · refine Ev.step (fun k => ?_) (ih (j + 1) (by omega) (fun hc => absurd c hc))
      simp only [spec_SightsOk.l1, rd89_getD]
      rw [if_pos (by omega), if_pos (by omega), if_pos (by omega), if_pos c, wrap_in (x := (j : Int) + 1) (by omega) (by omega)]
      rfl
    · by_cases e : (l.getD j z89).f1 = (l.getD i z89).f1
      · have : r = false := hb (by
          rw [decide_eq_false c, Bool.false_or]
          cases hh : allF (fun k => !((l.getD k z89).f1 == (l.getD i z89).f1)) 0 i with
          | false => rfl
          | true =>
            have := (allF_iff _ _ _).1 hh j (by omega) (by omega)
            rw [e] at this
            simp at this)
        subst this
        refine Ev.step (f := fun _ => some false) (fun k => ?_) (Ev.now _)
        simp only [spec_SightsOk.l1, rd89_getD]
        rw [if_pos (by omega), if_pos (by omega), if_pos (by omega), if_neg c, if_pos (by omega), if_pos (by omega), if_pos e]
      · refine Ev.step (fun k => ?_) (ih (j + 1) (by omega) (fun hc k hk => by
          by_cases hkj : k = j
          · subst hkj; exact e
          · exact h hc k (by omega)))
        simp only [spec_SightsOk.l1, rd89_getD]
        rw [if_pos (by omega), if_pos (by omega), if_pos (by omega), if_neg c, if_pos (by omega), if_pos (by omega), if_neg e, wrap_in (x := (j : Int) + 1) (by omega) (by omega)]
        rfl
theorem spec_sg_l0 (l : List S89) (hn : l.length ≤ 6) : ∀ (d i : Nat), i + d = l.length → Ev (fun k => spec_SightsOk.l0 k l (i : Int)) (allF (sgAt l) i d) := by
  intro d
  induction d with
  | zero =>
    intro i hi
    refine Ev.step (f := fun _ => some true) (fun k => ?_) (Ev.now _)
    simp only [spec_SightsOk.l0]
    rw [if_neg (by omega)]
  | succ d ih =>
    intro i hi
    have hih := ih (i + 1) (by omega)
    have e0 := rd89_getD l i
    generalize hs : (decide ((l.getD i z89).f1 = 0) || allF (fun k => !((l.getD k z89).f1 == (l.getD i z89).f1)) 0 i) = same
    have hl1 := spec_sg_l1 l hn i (by omega) (same && allF (sgAt l) (i + 1) d) (fun h => by rw [hs] at h; rw [h, Bool.true_and]; exact hih) (fun h => by rw [hs] at h; rw [h, Bool.false_and]) i 0 (by omega) (fun _ k hk => by omega)
    have hat : sgAt l i = (decide (0 ≤ (l.getD i z89).f0) && decide ((l.getD i z89).f0 ≤ 100000) && decide (0 ≤ (l.getD i z89).f1) && (decide (i = 0) || decide ((l.getD (i - 1) z89).f0 ≤ (l.getD i z89).f0)) && same) := by
      unfold sgAt
      rw [hs]
    have bad : Ev (fun k => spec_SightsOk.j1 k l (i : Int) true) false := Ev.step (f := fun _ => some false) (fun k => by simp [spec_SightsOk.j1]) (Ev.now _)
    have good : Ev (fun k => spec_SightsOk.j1 k l (i : Int) false) (same && allF (sgAt l) (i + 1) d) := by
      refine Ev.step (fun k => ?_) hl1
      simp only [spec_SightsOk.j1]
      rw [if_neg (by simp)]
      rfl
    simp only [allF, hat]
    have tick : spec_l01In.f (l.getD i z89).f0 0 100000 = some (decide (0 ≤ (l.getD i z89).f0) && decide ((l.getD i z89).f0 ≤ 100000)) := in_eq _
    generalize ht : (decide (0 ≤ (l.getD i z89).f0) && decide ((l.getD i z89).f0 ≤ 100000)) = tk at tick ⊢
    cases tk with
    | false =>
      simp only [Bool.false_and]
      refine Ev.step (fun k => ?_) bad
      simp only [spec_SightsOk.l0, e0, tick, Option.bind_some]
      rw [if_pos (by omega), if_pos (by omega), if_neg (by simp)]
    | true =>
      simp only [Bool.true_and]
      by_cases c : (l.getD i z89).f1 < 0
      · rw [decide_eq_false (show ¬ 0 ≤ (l.getD i z89).f1 by omega)]
        simp only [Bool.false_and]
        refine Ev.step (fun k => ?_) bad
        simp only [spec_SightsOk.l0, e0, tick, Option.bind_some]
        rw [if_pos (by omega), if_pos (by omega), if_pos trivial, if_pos c]
      · rw [decide_eq_true (show 0 ≤ (l.getD i z89).f1 by omega)]
        simp only [Bool.true_and]
        by_cases c0 : i = 0
        · rw [decide_eq_true c0, Bool.true_or, Bool.true_and]
          refine Ev.step (fun k => ?_) good
          simp only [spec_SightsOk.l0, e0, tick, Option.bind_some]
          rw [if_pos (by omega), if_pos (by omega), if_pos trivial, if_neg c, if_neg (by omega)]
        · have ep := rd89_prev l i c0
          by_cases c1 : (l.getD i z89).f0 < (l.getD (i - 1) z89).f0
          · rw [decide_eq_false c0, decide_eq_false (show ¬ (l.getD (i - 1) z89).f0 ≤ (l.getD i z89).f0 by omega)]
            simp only [Bool.or_false, Bool.false_and]
            refine Ev.step (fun k => ?_) bad
            simp only [spec_SightsOk.l0, e0, tick, Option.bind_some]
            rw [if_pos (by omega), if_pos (by omega), if_pos trivial, if_neg c, if_pos (by omega), wrap_in (x := (i : Int) - 1) (by omega) (by omega), if_pos (by omega), if_pos (by omega), ep, decide_eq_true c1]
          · rw [decide_eq_true (show (l.getD (i - 1) z89).f0 ≤ (l.getD i z89).f0 by omega), Bool.or_true, Bool.true_and]
            refine Ev.step (fun k => ?_) good
            simp only [spec_SightsOk.l0, e0, tick, Option.bind_some]
            rw [if_pos (by omega), if_pos (by omega), if_pos trivial, if_neg c, if_pos (by omega), wrap_in (x := (i : Int) - 1) (by omega) (by omega), if_pos (by omega), if_pos (by omega), ep, decide_eq_false c1]
theorem spec_sg_ev (l : List S89) : Ev (fun k => spec_SightsOk.f k l) (sgOk l) := by
  unfold sgOk
  by_cases h : l.length ≤ 6
  · rw [decide_eq_true h, Bool.and_true]
    refine Ev.congr (fun k => ?_) (spec_sg_l0 l h l.length 0 (by omega))
    simp only [spec_SightsOk.f]
    rw [if_neg (by omega)]
    rfl
  · rw [decide_eq_false h, Bool.and_false]
    refine Ev.congr (f := fun _ => some false) (fun k => ?_) (Ev.now _)
    simp only [spec_SightsOk.f]
    rw [if_pos (by omega)]
theorem are_ev (l : List S52) (s : List S89) (hl : l.length ≤ 4611686018427387904) (hs : s.length ≤ 4611686018427387904) : Ev (fun k => impl_areSights.f k l s) (exOk l && sgOk s) := by
  refine Lt.ev ((Lt.of (impl_ex_ev l hl)).and (Lt.of (impl_sg_ev s hs))) fun k ⟨e1, e2⟩ => ?_
  simp only [impl_areSights.f, e1, e2, Option.bind_some]
  cases exOk l <;> rfl
end Go.Proofs.Ytdmbfmfdijgdkaa.Pu
