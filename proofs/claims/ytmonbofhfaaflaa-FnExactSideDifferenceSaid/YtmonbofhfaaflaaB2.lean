/- The two versions of each small function answer alike: SideDifference, ScreenOk, ImagesOk, PolicyOk. -/
import Derived.Test.YtmonbofhfaaflaaB1
namespace Go.Proofs.Ytmonbofhfaaflaa.Pu
open Go.RowKit Go.Proofs.Ytmonbofhfaaflaa.Px Go.Proofs.YtmonbofhfaaflaaW.PrintWords Go.Proofs.YtmonbofhfaaflaaW.PrintLast
set_option linter.unusedVariables false

def inR (x : Int) : Bool := decide (-2000 ≤ x) && decide (x ≤ 2000)
def acc : Int → List Int → List Bool → Int
  | d, x :: l, b :: bs => acc (if b then d + x else d - x) l bs
  | d, _, _ => d
theorem spec_sd_l (l : List Int) (b : List Bool) (hl : l.length = b.length) (hn : l.length ≤ 12) : ∀ (m i : Nat) (d : Int), i + m = l.length → -2000 * i ≤ d → d ≤ 2000 * i →
    Ev (fun k => spec_SideDifference.l0 k l b d (i : Int)) (if (l.drop i).all inR then acc d (l.drop i) (b.drop i) else 0) := by
  intro m
  induction m with
  | zero =>
    intro i d hi h0 h1
    refine Ev.step (f := fun _ => some d) (fun k => ?_) ?_
    · simp only [spec_SideDifference.l0]
      rw [if_neg (by omega)]
    · rw [List.drop_of_length_le (by omega), List.drop_of_length_le (by omega)]
      exact Ev.now _
  | succ m ih =>
    intro i d hi h0 h1
    rw [List.drop_eq_getElem_cons (show i < l.length by omega), List.drop_eq_getElem_cons (show i < b.length by omega)]
    generalize hx : l[i]'(by omega) = x
    generalize hy : b[i]'(by omega) = y
    have hrx : rd l (i : Int) = x := by rw [rd_nat l i (by omega)]; exact hx
    have hry : rdOf false b (i : Int) = y := by rw [rdB_nat b i (by omega)]; exact hy
    by_cases hr : -2000 ≤ x ∧ x ≤ 2000
    · have hin : inR x = true := by simp [inR, hr.1, hr.2]
      have hih := ih (i + 1) (if y then d + x else d - x) (by omega) (by split <;> omega) (by split <;> omega)
      simp only [List.all_cons, hin, Bool.true_and, acc]
      refine Ev.step (f := fun k => spec_SideDifference.l0 k l b (if y then d + x else d - x) ((i + 1 : Nat) : Int)) (fun k => ?_) hih
      simp only [spec_SideDifference.l0, hrx, hry, spec_l01In.f]
      rw [if_pos (by omega), if_pos (by omega), if_pos (by omega)]
      simp only [Option.bind_some]
      rw [if_pos (by simp; omega), if_pos (by omega)]
      rw [wrap_in (x := (i : Int) + 1) (by omega) (by omega), wrap_in (x := d + x) (by omega) (by omega), wrap_in (x := d - x) (by omega) (by omega)]
      cases y <;> simp
    · have hin : inR x = false := by simp [inR]; omega
      simp only [List.all_cons, hin, Bool.false_and, Bool.false_eq_true, if_false]
      refine Ev.step (f := fun _ => some 0) (fun k => ?_) (Ev.now _)
      simp only [spec_SideDifference.l0, hrx, hry, spec_l01In.f]
      rw [if_pos (by omega), if_pos (by omega)]
      by_cases hx1 : x ≥ -2000
      · rw [if_pos hx1]
        simp only [Option.bind_some]
        rw [if_neg (by simp; omega)]
      · rw [if_neg hx1]
        simp
theorem impl_sd_l (l : List Int) (b : List Bool) (hl : l.length = b.length) (hn : l.length ≤ 12) (hr : l.all inR = true) : ∀ (m i : Nat) (d : Int), i + m = l.length → -2000 * i ≤ d → d ≤ 2000 * i →
    Ev (fun k => impl_SideDifference.l0 k b d l (l.length : Int) (i : Int)) (acc d (l.drop i) (b.drop i)) := by
  intro m
  induction m with
  | zero =>
    intro i d hi h0 h1
    refine Ev.step (f := fun _ => some d) (fun k => ?_) ?_
    · simp only [impl_SideDifference.l0]
      rw [if_neg (by omega)]
    · rw [List.drop_of_length_le (by omega), List.drop_of_length_le (by omega)]
      exact Ev.now _
  | succ m ih =>
    intro i d hi h0 h1
    rw [List.drop_eq_getElem_cons (show i < l.length by omega), List.drop_eq_getElem_cons (show i < b.length by omega)]
    have hin : inR (l[i]'(by omega)) = true := List.all_eq_true.1 hr _ (List.getElem_mem _)
    generalize hx : l[i]'(by omega) = x at hin
    generalize hy : b[i]'(by omega) = y
    have hrx : rd l (i : Int) = x := by rw [rd_nat l i (by omega)]; exact hx
    have hry : rdOf false b (i : Int) = y := by rw [rdB_nat b i (by omega)]; exact hy
    simp only [inR, Bool.and_eq_true, decide_eq_true_eq] at hin
    have hih := ih (i + 1) (if y then d + x else d - x) (by omega) (by split <;> omega) (by split <;> omega)
    refine Ev.step (f := fun k => impl_SideDifference.l0 k b (if y then d + x else d - x) l (l.length : Int) ((i + 1 : Nat) : Int)) (fun k => ?_) hih
    simp only [impl_SideDifference.l0, hrx, hry]
    rw [if_pos (by omega), if_pos (by omega), if_pos (by omega), if_pos (by omega)]
    rw [wrap_in (x := (i : Int) + 1) (by omega) (by omega), wrap_in (x := d + x) (by omega) (by omega), wrap_in (x := d - x) (by omega) (by omega)]
    cases y <;> simp
theorem laid_all (l : List Int) : l.any (vc_impl_areLaid_1_any.p (-2000)) = !l.all inR := by
  induction l with
  | nil => rfl
  | cons x l ih =>
    rw [List.any_cons, List.all_cons, ih, Bool.not_and]
    congr 1
    simp only [vc_impl_areLaid_1_any.p, inR]
    by_cases h1 : -2000 ≤ x <;> by_cases h2 : x ≤ 2000 <;> simp [h1, h2] <;> omega
def sideD (l : List Int) (b : List Bool) : Int := if l.length = b.length ∧ l.length ≤ 12 ∧ l.all inR = true then acc 0 l b else 0
theorem spec_sd_ev (l : List Int) (b : List Bool) : Ev (fun k => spec_SideDifference.f k l b) (sideD l b) := by
  unfold sideD
  by_cases hl : l.length = b.length
  · by_cases hn : l.length ≤ 12
    · have h := spec_sd_l l b hl hn l.length 0 0 (by omega) (by omega) (by omega)
      refine Ev.congr (f := fun k => spec_SideDifference.j0 k l b false) (fun k => ?_) (Ev.step (f := fun k => spec_SideDifference.l0 k l b 0 0) (fun k => ?_) ?_)
      · simp only [spec_SideDifference.f]
        rw [if_pos (by omega), decide_eq_false (by omega)]
      · simp [spec_SideDifference.j0]
      · simpa [hl ▸ hn, hl, hn] using h
    · rw [if_neg (by omega)]
      refine Ev.congr (f := fun k => spec_SideDifference.j0 k l b true) (fun k => ?_) (Ev.step (f := fun k => some 0) (fun k => ?_) (Ev.now _))
      · simp only [spec_SideDifference.f]
        rw [if_pos (by omega), decide_eq_true (by omega)]
      · simp [spec_SideDifference.j0]
  · rw [if_neg (by omega)]
    refine Ev.congr (f := fun k => spec_SideDifference.j0 k l b true) (fun k => ?_) (Ev.step (f := fun k => some 0) (fun k => ?_) (Ev.now _))
    · simp only [spec_SideDifference.f]
      rw [if_neg (by omega)]
    · simp [spec_SideDifference.j0]
theorem impl_sd_ev (l : List Int) (b : List Bool) : Ev (fun k => impl_SideDifference.f k l b) (sideD l b) := by
  have hzero : Ev (fun k => impl_SideDifference.j0 k l b true) 0 := Ev.step (f := fun k => some 0) (fun k => by simp [impl_SideDifference.j0]) (Ev.now _)
  unfold sideD
  by_cases hl : l.length = b.length
  · by_cases hn : l.length ≤ 12
    · by_cases hr : l.all inR = true
      · rw [if_pos ⟨hl, hn, hr⟩]
        have h := impl_sd_l l b hl hn hr l.length 0 0 (by omega) (by omega) (by omega)
        refine Ev.congr (f := fun k => impl_SideDifference.j0 k l b false) (fun k => ?_) (Ev.step (f := fun k => impl_SideDifference.l0 k b 0 l (l.length : Int) 0) (fun k => ?_) ?_)
        · simp only [impl_SideDifference.f, impl_areLaid.f, vc_impl_areLaid_1_any.f, laid_all, hr]
          rw [if_pos (by omega), if_pos (by omega)]
          rfl
        · simp [impl_SideDifference.j0]
        · simpa using h
      · rw [if_neg (by simp [hr])]
        refine Ev.congr (fun k => ?_) hzero
        simp only [impl_SideDifference.f, impl_areLaid.f, vc_impl_areLaid_1_any.f, laid_all]
        rw [if_pos (by omega), if_pos (by omega)]
        simp [hr]
    · rw [if_neg (by omega)]
      refine Ev.congr (fun k => ?_) hzero
      simp only [impl_SideDifference.f, impl_areLaid.f]
      rw [if_pos (by omega), if_neg (by omega)]
      rfl
  · rw [if_neg (by omega)]
    refine Ev.congr (fun k => ?_) hzero
    simp only [impl_SideDifference.f]
    rw [if_neg (by omega)]

theorem screen_eq (a b c : Int) : spec_ScreenOk.f a b c = impl_ScreenOk.f a b c := by
  simp only [spec_ScreenOk.f, impl_ScreenOk.f, spec_l01In.f, impl_isTick.f]
  by_cases h1 : a ≥ 1 <;> by_cases h2 : a ≤ 4 <;> by_cases h3 : b ≥ 0 <;> simp [h1, h2, h3]
def scOk (a b c : Int) : Bool := decide (1 ≤ a) && decide (a ≤ 4) && decide (0 ≤ b) && decide (b ≤ 100000) && (decide (c = 0) || decide (c = 1) || (decide (c = 2) && decide (a = 4)))
theorem screen_impl (a b c : Int) : impl_ScreenOk.f a b c = some (scOk a b c) := by
  simp only [impl_ScreenOk.f, impl_isTick.f, scOk]
  by_cases h1 : a ≥ 1
  · by_cases h2 : a ≤ 4
    · by_cases h3 : b ≥ 0
      · by_cases h4 : b ≤ 100000
        · by_cases h5 : c = 0
          · subst h5; simp [h1, h2, h3, h4]
          · by_cases h6 : c = 1
            · subst h6; simp [h1, h2, h3, h4]
            · by_cases h7 : c = 2
              · subst h7; simp [h1, h2, h3, h4]; rfl
              · simp [h1, h2, h3, h4, h5, h6, h7]
        · simp [h1, h2, h3, h4]
      · simp [h1, h2, h3]
    · simp [h1, h2]
  · simp [h1]
theorem screen_spec (a b c : Int) : spec_ScreenOk.f a b c = some (scOk a b c) := (screen_eq a b c).trans (screen_impl a b c)

/-- All of d places from i on. -/
def allF (p : Nat → Bool) : Nat → Nat → Bool
  | _, 0 => true
  | i, d + 1 => p i && allF p (i + 1) d
def imgAt (l : List S77) (j : Nat) : Bool :=
  decide (0 ≤ (l.getD j z77).f0) && decide ((l.getD j z77).f0 ≤ 100000) && decide (1 ≤ (l.getD j z77).f1) && decide ((l.getD j z77).f1 ≤ 5000) && (decide (j = 0) || decide ((l.getD (j - 1) z77).f0 ≤ (l.getD j z77).f0))
theorem spec_img_l (l : List S77) (hn : l.length ≤ 4611686018427387904) : ∀ (d i : Nat), i + d = l.length → Ev (fun k => spec_ImagesOk.l0 k l (i : Int)) (allF (imgAt l) i d) := by
  intro d
  induction d with
  | zero =>
    intro i hi
    refine Ev.step (f := fun _ => some true) (fun k => ?_) (Ev.now _)
    simp only [spec_ImagesOk.l0]
    rw [if_neg (by omega)]
  | succ d ih =>
    intro i hi
    have hih := ih (i + 1) (by omega)
    have e0 : rd_T77 l (i : Int) = l.getD i z77 := by simp [rd_T77]
    generalize hx : l.getD i z77 = x at e0
    have base : ∀ k, spec_ImagesOk.l0 (k + 1) l (i : Int) = if imgAt l i = true then spec_ImagesOk.l0 k l ((i + 1 : Nat) : Int) else some false := by
      intro k
      simp only [spec_ImagesOk.l0, e0, spec_l01In.f, imgAt, hx]
      rw [if_pos (by omega), if_pos (by omega), wrap_in (x := (i : Int) + 1) (by omega) (by omega), wrap_in (x := (i : Int) - 1) (by omega) (by omega)]
      by_cases h1 : x.f0 ≥ 0
      · by_cases h2 : x.f0 ≤ 100000
        · by_cases h3 : x.f1 ≥ 1
          · by_cases h4 : x.f1 ≤ 5000
            · by_cases h5 : i = 0
              · subst h5
                simp [h1, h2, h3, h4]
              · have e1 : rd_T77 l ((i : Int) - 1) = l.getD (i - 1) z77 := by
                  have : ((i : Int) - 1).toNat = i - 1 := by omega
                  simp [rd_T77, this]
                rw [if_pos (show (i : Int) > 0 by omega), if_pos (show 0 ≤ (i : Int) - 1 by omega), if_pos (show (i : Int) - 1 < (l.length : Int) by omega), e1]
                by_cases h6 : (l.getD (i - 1) z77).f0 ≤ x.f0
                · rw [if_neg (show ¬ x.f0 < (l.getD (i - 1) z77).f0 by omega), decide_eq_true h6]
                  simp [h1, h2, h3, h4]
                · rw [if_pos (show x.f0 < (l.getD (i - 1) z77).f0 by omega), decide_eq_false h6]
                  simp [h1, h2, h3, h4, h5]
            · simp [h1, h2, h3, h4]
          · simp [h1, h2, h3]
        · simp [h1, h2]
      · simp [h1]
    simp only [allF]
    cases hp : imgAt l i with
    | true =>
      simp only [Bool.true_and]
      exact Ev.step (fun k => by rw [base k, hp, if_pos rfl]) hih
    | false =>
      simp only [Bool.false_and]
      exact Ev.step (f := fun _ => some false) (fun k => by rw [base k, hp]; rfl) (Ev.now _)
theorem impl_img_l (l : List S77) (hn : l.length ≤ 4611686018427387904) : ∀ (d i : Nat), i + d = l.length → Ev (fun k => impl_ImagesOk.l0 k l l (l.length : Int) (i : Int)) (allF (imgAt l) i d && decide (l.length ≤ 16)) := by
  intro d
  induction d with
  | zero =>
    intro i hi
    refine Ev.step (f := fun _ => some (decide ((l.length : Int) ≤ 16))) (fun k => ?_) ?_
    · simp only [impl_ImagesOk.l0]
      rw [if_neg (by omega)]
    · have : decide ((l.length : Int) ≤ 16) = (allF (imgAt l) i 0 && decide (l.length ≤ 16)) := by
        simp only [allF, Bool.true_and]
        by_cases h : l.length ≤ 16
        · rw [decide_eq_true h, decide_eq_true (by omega)]
        · rw [decide_eq_false h, decide_eq_false (by omega)]
      rw [this]
      exact Ev.now _
  | succ d ih =>
    intro i hi
    have hih := ih (i + 1) (by omega)
    have e0 : rd_T77 l (i : Int) = l.getD i z77 := by simp [rd_T77]
    generalize hx : l.getD i z77 = x at e0
    have base : ∀ k, impl_ImagesOk.l0 (k + 1) l l (l.length : Int) (i : Int) = if imgAt l i = true then impl_ImagesOk.l0 k l l (l.length : Int) ((i + 1 : Nat) : Int) else some false := by
      intro k
      simp only [impl_ImagesOk.l0, e0, impl_isTick.f, impl_isWait.f, imgAt, hx]
      rw [if_pos (by omega), if_pos (by omega), if_pos (by omega), wrap_in (x := (i : Int) + 1) (by omega) (by omega), wrap_in (x := (i : Int) - 1) (by omega) (by omega)]
      by_cases h1 : x.f0 ≥ 0
      · by_cases h2 : x.f0 ≤ 100000
        · by_cases h5 : i = 0
          · subst h5
            by_cases h3 : x.f1 ≥ 1 <;> by_cases h4 : x.f1 ≤ 5000 <;> simp [h1, h2, h3, h4]
          · have e1 : rd_T77 l ((i : Int) - 1) = l.getD (i - 1) z77 := by
              have : ((i : Int) - 1).toNat = i - 1 := by omega
              simp [rd_T77, this]
            rw [if_pos (show (i : Int) > 0 by omega), if_pos (show 0 ≤ (i : Int) - 1 by omega), if_pos (show (i : Int) - 1 < (l.length : Int) by omega), e1]
            by_cases h6 : (l.getD (i - 1) z77).f0 ≤ x.f0
            · rw [if_neg (show ¬ x.f0 < (l.getD (i - 1) z77).f0 by omega), decide_eq_true h6]
              by_cases h3 : x.f1 ≥ 1 <;> by_cases h4 : x.f1 ≤ 5000 <;> simp [h1, h2, h3, h4]
            · rw [if_pos (show x.f0 < (l.getD (i - 1) z77).f0 by omega), decide_eq_false h6]
              simp [h1, h2, h5]
        · simp [h1, h2]
      · simp [h1]
    simp only [allF]
    cases hp : imgAt l i with
    | true =>
      simp only [Bool.true_and]
      exact Ev.step (fun k => by rw [base k, hp, if_pos rfl]) hih
    | false =>
      simp only [Bool.false_and]
      exact Ev.step (f := fun _ => some false) (fun k => by rw [base k, hp]; rfl) (Ev.now _)
def imgsOk (l : List S77) : Bool := allF (imgAt l) 0 l.length && decide (l.length ≤ 16)
theorem spec_img_ev (l : List S77) (hn : l.length ≤ 4611686018427387904) : Ev (fun k => spec_ImagesOk.f k l) (imgsOk l) := by
  unfold imgsOk
  by_cases h : l.length ≤ 16
  · rw [decide_eq_true h, Bool.and_true]
    refine Ev.congr (fun k => ?_) (spec_img_l l hn l.length 0 (by omega))
    simp only [spec_ImagesOk.f]
    rw [if_neg (by omega)]
    rfl
  · rw [decide_eq_false h, Bool.and_false]
    refine Ev.congr (f := fun _ => some false) (fun k => ?_) (Ev.now _)
    simp only [spec_ImagesOk.f]
    rw [if_pos (by omega)]
theorem impl_img_ev (l : List S77) (hn : l.length ≤ 4611686018427387904) : Ev (fun k => impl_ImagesOk.f k l) (imgsOk l) :=
  Ev.congr (fun k => by simp only [impl_ImagesOk.f]; rfl) (impl_img_l l hn l.length 0 (by omega))

def polAt (x : Int) : Bool := decide (1 ≤ x) && decide (x ≤ 5000)
def polOk (l : List Int) : Bool := decide (l.length = 3) && l.all polAt
theorem pol_p (x : Int) : vc_impl_PolicyOk_1_any.p x = !polAt x := by
  simp only [vc_impl_PolicyOk_1_any.p, impl_PolicyOk_1.f, impl_isWait.f, polAt]
  by_cases h : x ≥ 1 <;> simp [h] <;> omega
theorem impl_pol (l : List Int) : impl_PolicyOk.f l = some (polOk l) := by
  have hany : l.any vc_impl_PolicyOk_1_any.p = !l.all polAt := by
    induction l with
    | nil => rfl
    | cons x l ih => rw [List.any_cons, List.all_cons, ih, Bool.not_and, pol_p]
  simp only [impl_PolicyOk.f, vc_impl_PolicyOk_1_any.f, hany, polOk]
  by_cases h : l.length = 3
  · rw [if_pos (by omega)]
    simp [h]
  · rw [if_neg (by omega)]
    simp [h]
theorem spec_pol_l (l : List Int) (hn : l.length = 3) : ∀ (d i : Nat), i + d = l.length → Ev (fun k => spec_PolicyOk.l0 k (i : Int) l) ((l.drop i).all polAt) := by
  intro d
  induction d with
  | zero =>
    intro i hi
    rw [List.drop_of_length_le (by omega)]
    refine Ev.step (f := fun _ => some true) (fun k => ?_) (Ev.now _)
    simp only [spec_PolicyOk.l0]
    rw [if_neg (by omega)]
  | succ d ih =>
    intro i hi
    have hih := ih (i + 1) (by omega)
    rw [List.drop_eq_getElem_cons (show i < l.length by omega), List.all_cons]
    have e0 := rd_nat l i (by omega)
    generalize hx : l[i]'(by omega) = x at e0
    have base : ∀ k, spec_PolicyOk.l0 (k + 1) (i : Int) l = if polAt x = true then spec_PolicyOk.l0 k ((i + 1 : Nat) : Int) l else some false := by
      intro k
      simp only [spec_PolicyOk.l0, e0, spec_l01In.f, polAt]
      rw [if_pos (by omega), if_pos (by omega), wrap_in (x := (i : Int) + 1) (by omega) (by omega)]
      by_cases h1 : x ≥ 1 <;> by_cases h2 : x ≤ 5000 <;> simp [h1, h2]
    cases hp : polAt x with
    | true =>
      simp only [Bool.true_and]
      exact Ev.step (fun k => by rw [base k, hp, if_pos rfl]) hih
    | false =>
      simp only [Bool.false_and]
      exact Ev.step (f := fun _ => some false) (fun k => by rw [base k, hp]; rfl) (Ev.now _)
theorem spec_pol_ev (l : List Int) : Ev (fun k => spec_PolicyOk.f k l) (polOk l) := by
  unfold polOk
  by_cases h : l.length = 3
  · rw [decide_eq_true h, Bool.true_and]
    refine Ev.congr (fun k => ?_) (spec_pol_l l h l.length 0 (by omega))
    simp only [spec_PolicyOk.f]
    rw [if_pos (by omega)]
    rfl
  · rw [decide_eq_false h, Bool.false_and]
    refine Ev.congr (f := fun _ => some false) (fun k => ?_) (Ev.now _)
    simp only [spec_PolicyOk.f]
    rw [if_neg (by omega)]
end Go.Proofs.Ytmonbofhfaaflaa.Pu
