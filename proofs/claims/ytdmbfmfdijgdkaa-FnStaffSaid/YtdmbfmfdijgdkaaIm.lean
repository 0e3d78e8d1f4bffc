/- Images: copied, compared, weighed, valid. -/
import Derived.Test.YtdmbfmfdijgdkaaBa
import Derived.Test.YtdmbfmfdijgdkaaPx1
import Derived.Test.YtdmbfmfdijgdkaaPx4
namespace Go.Proofs.Ytdmbfmfdijgdkaa.Pu
open Go.RowKit Go.Proofs.Ytdmbfmfdijgdkaa.Px Go.Proofs.YtdmbfmfdijgdkaaW.PrintWords Go.Proofs.YtdmbfmfdijgdkaaW.PrintLast
set_option linter.unusedVariables false

theorem Ev.step2 {α : Type} {g f : Nat → Option α} {r : α} (h : ∀ k, g (k + 2) = f k) (hf : Ev f r) : Ev g r := by
  obtain ⟨K, hf⟩ := hf
  refine ⟨K + 2, fun n hn => ?_⟩
  obtain ⟨m, rfl⟩ : ∃ m, n = m + 2 := ⟨n - 2, by omega⟩
  rw [h m]
  exact hf m (by omega)
/-- The images, as the program's own type. -/
def img (x : S70) : S41 := ⟨x.f0, x.f1⟩
theorem rd70_nat (l : List S70) (i : Nat) (h : i < l.length) : rd_T70 l (i : Int) = l[i] := by simp [rd_T70, h]
theorem rd41_nat (l : List S41) (i : Nat) (h : i < l.length) : rd_T41 l (i : Int) = l[i] := by simp [rd_T41, h]
theorem toImageS_l (l : List S70) (hn : l.length ≤ 4611686018427387904) : ∀ (d i : Nat), i + d = l.length → ∀ m : List S41, m.length = (l.map img).length → m.take i = (l.map img).take i → Ev (fun k => laws_toImageS.l0 k l m (i : Int)) (l.map img) := by
  intro d
  induction d with
  | zero =>
    intro i hi m hm ht
    refine Ev.step (f := fun _ => some (l.map img)) (fun k => ?_) (Ev.now _)
    rw [List.take_of_length_le (by simp at hm; omega), List.take_of_length_le (by simp; omega)] at ht
    subst ht
    simp only [laws_toImageS.l0]
    rw [if_neg (by omega)]
  | succ d ih =>
    intro i hi m hm ht
    have hm' : m.length = l.length := by simpa using hm
    refine Ev.step (f := fun k => laws_toImageS.l0 k l (m.set i (l.map img)[i]) ((i + 1 : Nat) : Int)) (fun k => ?_) (ih (i + 1) (by omega) _ (by simp [hm']) (take_set m (l.map img) i hm (by simp; omega) ht))
    simp only [laws_toImageS.l0, laws_toImage.f, Option.bind_some]
    rw [if_pos (by omega), if_pos (by omega), if_pos (by omega), wrap_in (by omega) (by omega), rd70_nat l i (by omega)]
    simp [img]
theorem toImageS_ev (l : List S70) (hn : l.length ≤ 1048576) : Ev (fun k => laws_toImageS.f k l) (l.map img) := by
  refine Ev.congr (f := fun k => laws_toImageS.l0 k l (List.replicate l.length z41) ((0 : Nat) : Int)) (fun k => ?_) (toImageS_l l (by omega) l.length 0 (by omega) _ (by simp) (by simp))
  simp only [laws_toImageS.f]
  rw [if_pos (by omega), if_pos (by omega)]
  simp
theorem eqImageS_l (l : List S41) (hn : l.length ≤ 4611686018427387904) : ∀ (d i : Nat), i + d = l.length → Ev (fun k => laws_eqImageS.l0 k l l (i : Int)) true := by
  intro d
  induction d with
  | zero =>
    intro i hi
    refine Ev.step (f := fun _ => some true) (fun k => ?_) (Ev.now _)
    simp only [laws_eqImageS.l0]
    rw [if_neg (by omega)]
  | succ d ih =>
    intro i hi
    refine Ev.step (f := fun k => laws_eqImageS.l0 k l l ((i + 1 : Nat) : Int)) (fun k => ?_) (ih (i + 1) (by omega))
    simp only [laws_eqImageS.l0, laws_eqImage.f]
    rw [if_pos (by omega), if_pos (by omega), if_pos (by omega), wrap_in (by omega) (by omega)]
    simp
theorem eqImageS_ev (l : List S41) (hn : l.length ≤ 1048576) : Ev (fun k => laws_eqImageS.f k l l) true := by
  refine Ev.congr (f := fun k => laws_eqImageS.l0 k l l ((0 : Nat) : Int)) (fun k => ?_) (eqImageS_l l (by omega) l.length 0 (by omega))
  simp only [laws_eqImageS.f]
  simp
theorem szImageS_big (l : List S70) (h : l.length ≤ 17592186044416) : ∃ t, laws_szImageS.f l 1048576 = some t ∧ (0 ≤ t → l.length ≤ 1048576) := by
  unfold laws_szImageS.f
  rw [wrap_in (by omega) (by omega)]
  split
  · exact ⟨_, rfl, by omega⟩
  · exact ⟨_, rfl, by omega⟩
def imgAt (l : List S41) (j : Nat) : Bool :=
  decide (0 ≤ (l.getD j z41).f0) && decide ((l.getD j z41).f0 ≤ 100000) && decide (1 ≤ (l.getD j z41).f1) && decide ((l.getD j z41).f1 ≤ 5000) && (decide (j = 0) || decide ((l.getD (j - 1) z41).f0 ≤ (l.getD j z41).f0))
theorem spec_img_l (l : List S41) (hn : l.length ≤ 4611686018427387904) : ∀ (d i : Nat), i + d = l.length → Ev (fun k => spec_ImagesOk.l0 k l (i : Int)) (allF (imgAt l) i d) := by
  intro d
  induction d with
  | zero =>
    intro i hi
    refine Ev.step (f := fun _ => some true) (fun k => ?_) (Ev.now _)
    simp only [spec_ImagesOk.l0]
    rw [if_neg (by omega)]
  | succ d ih =>
    intro i hi
    have hih := ih (i + 1) (by omega)
    have e0 : rd_T41 l (i : Int) = l.getD i z41 := by simp [rd_T41]
    generalize hx : l.getD i z41 = x at e0
    have base : ∀ k, spec_ImagesOk.l0 (k + 2) l (i : Int) = if imgAt l i = true then spec_ImagesOk.l0 k l ((i + 1 : Nat) : Int) else some false := by
      intro k
      simp only [spec_ImagesOk.l0, spec_ImagesOk.j1, e0, spec_l01In.f, imgAt, hx]
      rw [if_pos (by omega), if_pos (by omega), wrap_in (x := (i : Int) + 1) (by omega) (by omega), wrap_in (x := (i : Int) - 1) (by omega) (by omega)]
      by_cases h1 : x.f0 ≥ 0
      · by_cases h2 : x.f0 ≤ 100000
        · by_cases h3 : x.f1 ≥ 1
          · by_cases h4 : x.f1 ≤ 5000
            · by_cases h5 : i = 0
              · subst h5
                simp [h1, h2, h3, h4]
              · have e1 : rd_T41 l ((i : Int) - 1) = l.getD (i - 1) z41 := by
                  have : ((i : Int) - 1).toNat = i - 1 := by omega
                  simp [rd_T41, this]
                rw [if_pos (show (i : Int) > 0 by omega), if_pos (show 0 ≤ (i : Int) - 1 by omega), if_pos (show (i : Int) - 1 < (l.length : Int) by omega), e1]
                by_cases h6 : (l.getD (i - 1) z41).f0 ≤ x.f0
                · rw [decide_eq_false (show ¬ x.f0 < (l.getD (i - 1) z41).f0 by omega), decide_eq_true h6]
                  simp [h1, h2, h3, h4]
                · rw [decide_eq_true (show x.f0 < (l.getD (i - 1) z41).f0 by omega), decide_eq_false h6]
                  simp [h1, h2, h3, h4, h5]
            · simp [h1, h2, h3, h4]
          · simp [h1, h2, h3]
        · simp [h1, h2]
      · simp [h1]
    simp only [allF]
    cases hp : imgAt l i with
    | true =>
      simp only [Bool.true_and]
      exact Ev.step2 (fun k => by rw [base k, hp, if_pos rfl]) hih
    | false =>
      simp only [Bool.false_and]
      exact Ev.step2 (f := fun _ => some false) (fun k => by rw [base k, hp]; rfl) (Ev.now _)
theorem impl_img_l (l : List S41) (hn : l.length ≤ 4611686018427387904) : ∀ (d i : Nat), i + d = l.length → Ev (fun k => impl_ImagesOk.l0 k l l (l.length : Int) (i : Int)) (allF (imgAt l) i d && decide (l.length ≤ 16)) := by
  intro d
  induction d with
  | zero =>
    intro i hi
    refine Ev.step (f := fun _ => some (decide ((l.length : Int) ≤ 16))) (fun k => ?_) ?_
    · simp only [impl_ImagesOk.l0]
      rw [if_neg (by omega)]
    · have : decide ((l.length : Int) ≤ 16) = (allF (imgAt l) i 0 && decide (l.length ≤ 16)) := by
        simp only [allF, Bool.true_and]
        by_cases h : l.length ≤ 16
        · rw [decide_eq_true h, decide_eq_true (by omega)]
        · rw [decide_eq_false h, decide_eq_false (by omega)]
      rw [this]
      exact Ev.now _
  | succ d ih =>
    intro i hi
    have hih := ih (i + 1) (by omega)
    have e0 : rd_T41 l (i : Int) = l.getD i z41 := by simp [rd_T41]
    generalize hx : l.getD i z41 = x at e0
    have base : ∀ k, impl_ImagesOk.l0 (k + 2) l l (l.length : Int) (i : Int) = if imgAt l i = true then impl_ImagesOk.l0 k l l (l.length : Int) ((i + 1 : Nat) : Int) else some false := by
      intro k
      simp only [impl_ImagesOk.l0, impl_ImagesOk.j1, e0, impl_isTick.f, impl_isWait.f, imgAt, hx]
      rw [if_pos (by omega), if_pos (by omega), if_pos (by omega), wrap_in (x := (i : Int) + 1) (by omega) (by omega), wrap_in (x := (i : Int) - 1) (by omega) (by omega)]
      by_cases h1 : x.f0 ≥ 0
      · by_cases h2 : x.f0 ≤ 100000
        · by_cases h5 : i = 0
          · subst h5
            by_cases h3 : x.f1 ≥ 1 <;> by_cases h4 : x.f1 ≤ 5000 <;> simp [h1, h2, h3, h4]
          · have e1 : rd_T41 l ((i : Int) - 1) = l.getD (i - 1) z41 := by
              have : ((i : Int) - 1).toNat = i - 1 := by omega
              simp [rd_T41, this]
            rw [if_pos (show (i : Int) > 0 by omega), if_pos (show 0 ≤ (i : Int) - 1 by omega), if_pos (show (i : Int) - 1 < (l.length : Int) by omega), e1]
            by_cases h6 : (l.getD (i - 1) z41).f0 ≤ x.f0
            · rw [if_neg (show ¬ x.f0 < (l.getD (i - 1) z41).f0 by omega), decide_eq_true h6]
              by_cases h3 : x.f1 ≥ 1 <;> by_cases h4 : x.f1 ≤ 5000 <;> simp [h1, h2, h3, h4]
            · rw [if_pos (show x.f0 < (l.getD (i - 1) z41).f0 by omega), decide_eq_false h6]
              simp [h1, h2, h5]
        · simp [h1, h2]
      · simp [h1]
    simp only [allF]
    cases hp : imgAt l i with
    | true =>
      simp only [Bool.true_and]
      exact Ev.step2 (fun k => by rw [base k, hp, if_pos rfl]) hih
    | false =>
      simp only [Bool.false_and]
      exact Ev.step2 (f := fun _ => some false) (fun k => by rw [base k, hp]; rfl) (Ev.now _)
def imgsOk (l : List S41) : Bool := allF (imgAt l) 0 l.length && decide (l.length ≤ 16)
theorem spec_img_ev (l : List S41) (hn : l.length ≤ 4611686018427387904) : Ev (fun k => spec_ImagesOk.f k l) (imgsOk l) := by
  unfold imgsOk
  by_cases h : l.length ≤ 16
  · rw [decide_eq_true h, Bool.and_true]
    refine Ev.congr (fun k => ?_) (spec_img_l l hn l.length 0 (by omega))
    simp only [spec_ImagesOk.f]
    rw [if_neg (by omega)]
    rfl
  · rw [decide_eq_false h, Bool.and_false]
    refine Ev.congr (f := fun _ => some false) (fun k => ?_) (Ev.now _)
    simp only [spec_ImagesOk.f]
    rw [if_pos (by omega)]
theorem impl_img_ev (l : List S41) (hn : l.length ≤ 4611686018427387904) : Ev (fun k => impl_ImagesOk.f k l) (imgsOk l) :=
  Ev.congr (fun k => by simp only [impl_ImagesOk.f]; rfl) (impl_img_l l hn l.length 0 (by omega))

end Go.Proofs.Ytdmbfmfdijgdkaa.Pu
