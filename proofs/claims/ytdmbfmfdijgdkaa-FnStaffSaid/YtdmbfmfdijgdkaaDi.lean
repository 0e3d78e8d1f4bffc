/- What is drawn: images, a wait, a staff, all in their ranges. -/
import Derived.Test.YtdmbfmfdijgdkaaDr
import Derived.Test.YtdmbfmfdijgdkaaSv
import Derived.Test.YtdmbfmfdijgdkaaPx6
namespace Go.Proofs.Ytdmbfmfdijgdkaa.Pu
open Go.RowKit Go.Proofs.Ytdmbfmfdijgdkaa.Px Go.Proofs.YtdmbfmfdijgdkaaW.PrintWords Go.Proofs.YtdmbfmfdijgdkaaW.PrintLast
set_option linter.unusedVariables false

def ord (x y : S41) : Prop := x.f0 ≤ y.f0
theorem imgs_of {l : List S41} (h : ∀ x ∈ l, inr x) (hp : l.Pairwise ord) (hl : l.length ≤ 16) : imgsOk l = true := by
  simp only [imgsOk, Bool.and_eq_true, decide_eq_true_eq, allF_iff]
  refine ⟨fun j h0 h1 => ?_, hl⟩
  have hj : j < l.length := by omega
  obtain ⟨a, b, c, d⟩ := h l[j] (List.getElem_mem hj)
  simp only [imgAt, Bool.and_eq_true, Bool.or_eq_true, decide_eq_true_eq, List.getD_eq_getElem?_getD, List.getElem?_eq_getElem hj, Option.getD_some]
  refine ⟨⟨⟨⟨a, b⟩, c⟩, d⟩, ?_⟩
  by_cases e : j = 0
  · exact .inl e
  · right
    rw [List.getElem?_eq_getElem (show j - 1 < l.length by omega), Option.getD_some]
    exact List.pairwise_iff_getElem.1 hp (j - 1) j (by omega) hj (by omega)
theorem imgs_ord {l : List S41} (h : imgsOk l = true) : l.Pairwise ord := by
  have hr := (imgs_in h).1
  simp only [imgsOk, Bool.and_eq_true, decide_eq_true_eq, allF_iff] at h
  rw [List.pairwise_iff_getElem]
  have step : ∀ j (hj : j < l.length) (hj' : j + 1 < l.length), l[j].f0 ≤ l[j + 1].f0 := by
    intro j hj hj'
    have := h.1 (j + 1) (by omega) (by omega)
    simp only [imgAt, Bool.and_eq_true, Bool.or_eq_true, decide_eq_true_eq, List.getD_eq_getElem?_getD, List.getElem?_eq_getElem hj', Option.getD_some, Nat.add_sub_cancel, List.getElem?_eq_getElem hj] at this
    rcases this.2 with e | e
    · omega
    · exact e
  have far : ∀ (d i : Nat) (hi : i < l.length) (hj : i + d < l.length), l[i].f0 ≤ l[i + d].f0 := by
    intro d
    induction d with
    | zero => intro i hi hj; exact Int.le_refl _
    | succ d ih =>
      intro i hi hj
      exact Int.le_trans (ih i hi (by omega)) (step (i + d) (by omega) (by omega))
  intro i j hi hj hij
  have := far (j - i) i hi (by omega)
  simp only [show i + (j - i) = j by omega] at this
  exact this
theorem images_l (b : List Int) : ∀ (d : Nat) (l : List S41) (t i h : Int), Cur b i → l.length + d ≤ 8 → 0 ≤ t → t ≤ 4 * l.length → (∀ x ∈ l, inr x ∧ x.f0 ≤ t) → l.Pairwise ord →
    ∃ l' i' h', Ev (fun k => spec_l04Images.l0 k l t (d : Int) b i h) (l', i', h') ∧ Cur b i' ∧ l'.length ≤ 8 ∧ imgsOk l' = true := by
  intro d
  induction d with
  | zero =>
    intro l t i h c hl ht0 ht1 hx hp
    refine ⟨l, i, h, Ev.step (f := fun _ => some (l, i, h)) (fun k => ?_) (Ev.now _), c, by omega, imgs_of (fun x hx' => (hx x hx').1) hp (by omega)⟩
    simp only [spec_l04Images.l0]
    rw [if_neg (by omega)]
  | succ d ih =>
    intro l t i h c hl ht0 ht1 hx hp
    obtain ⟨x1, i1, h1, e1, m1, c1⟩ := pick_ok b i h c [0, 0, 1, 1, 2, 4] (by simp) (by simp)
    obtain ⟨x2, i2, h2, e2, m2, c2⟩ := pick_ok b i1 h1 c1 [1, 1, 2, 3, 5, 8, 20] (by simp) (by simp)
    have b1 : 0 ≤ x1 ∧ x1 ≤ 4 := by
      simp only [List.mem_cons, List.not_mem_nil, or_false] at m1
      omega
    have b2 : 1 ≤ x2 ∧ x2 ≤ 20 := by
      simp only [List.mem_cons, List.not_mem_nil, or_false] at m2
      omega
    obtain ⟨l', i', h', a1, a2, a3, a4⟩ := ih (l ++ [(⟨t + x1, x2⟩ : S41)]) (t + x1) i2 h2 c2 (by simp; omega) (by omega) (by simp; omega) (by
      intro x hx'
      rcases List.mem_append.1 hx' with q | q
      · have := hx x q
        exact ⟨this.1, by omega⟩
      · obtain rfl : x = ⟨t + x1, x2⟩ := by simpa using q
        exact ⟨⟨by show 0 ≤ t + x1; omega, by show t + x1 ≤ 100000; omega, by show 1 ≤ x2; omega, by show x2 ≤ 5000; omega⟩, Int.le_refl _⟩) (by
      rw [List.pairwise_append]
      refine ⟨hp, List.pairwise_singleton _ _, fun x q y q' => ?_⟩
      obtain rfl : y = ⟨t + x1, x2⟩ := by simpa using q'
      have := (hx x q).2
      show x.f0 ≤ t + x1
      omega)
    refine ⟨l', i', h', Ev.step (fun k => ?_) a1, a2, a3, a4⟩
    simp only [spec_l04Images.l0, e1, e2, Option.bind_some]
    rw [if_pos (by omega), if_pos (by omega), wrap_in (x := t + x1) (by omega) (by omega), wrap_in (by omega) (by omega)]
    have : ((d + 1 : Nat) : Int) - 1 = (d : Int) := by omega
    rw [this]
theorem images_ev (b : List Int) (i h : Int) (c : Cur b i) : ∃ l' i' h', Ev (fun k => spec_l04Images.f k b i h) (l', i', h') ∧ Cur b i' ∧ l'.length ≤ 8 ∧ imgsOk l' = true := by
  obtain ⟨x, i1, h1, e1, p0, p1, _, c1⟩ := below_ok b i h c 9
  have p2 := p1 (by omega)
  obtain ⟨l', i', h', a1, a2⟩ := images_l b x.toNat [] 0 i1 h1 c1 (by simp; omega) (by omega) (by simp) (by simp) List.Pairwise.nil
  refine ⟨l', i', h', Ev.congr (fun k => ?_) a1, a2⟩
  simp only [spec_l04Images.f, e1, Option.bind_some]
  rw [Int.toNat_of_nonneg p0]
theorem draw_ev (b : List Int) (hb : b.length ≤ 1048576) : ∃ l w n, Ev (fun k => spec_DrawImages.f k b) (l, w, n) ∧ l.length ≤ 8 ∧ imgsOk l = true ∧ 0 ≤ w ∧ w ≤ 9 ∧ 1 ≤ n ∧ n ≤ 4 := by
  obtain ⟨h', hn, c⟩ := new_ev b hb
  obtain ⟨l, i1, h1, e1, c1, l1, l2⟩ := images_ev b 0 h' c
  obtain ⟨w, i2, h2, e2, m2, c2⟩ := pick_ok b i1 h1 c1 [0, 0, 1, 2, 4, 9] (by simp) (by simp)
  obtain ⟨n, i3, h3, e3, p0, p1, _, c3⟩ := below_ok b i2 h2 c2 4
  have p2 := p1 (by omega)
  have b2 : 0 ≤ w ∧ w ≤ 9 := by
    simp only [List.mem_cons, List.not_mem_nil, or_false] at m2
    omega
  refine ⟨l, w, 1 + n, Lt.ev ((Lt.of hn).and (Lt.of e1)) fun k ⟨q1, q2⟩ => ?_, l1, l2, b2.1, b2.2, by omega, by omega⟩
  simp only [spec_DrawImages.f, q1, q2, e2, e3, Option.bind_some]
  rw [wrap_in (by omega) (by omega)]
end Go.Proofs.Ytdmbfmfdijgdkaa.Pu
