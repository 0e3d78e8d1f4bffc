/- Serve: both versions serve alike, and what they answer. -/
import Derived.Test.YtdmbfmfdijgdkaaIm
import Derived.Test.YtdmbfmfdijgdkaaPx1
import Derived.Test.YtdmbfmfdijgdkaaPx2
namespace Go.Proofs.Ytdmbfmfdijgdkaa.Pu
open Go.RowKit Go.Proofs.Ytdmbfmfdijgdkaa.Px Go.Proofs.YtdmbfmfdijgdkaaW.PrintWords Go.Proofs.YtdmbfmfdijgdkaaW.PrintLast Go.Proofs.YtdmbfmfdijgdkaaW.PrintMore
set_option linter.unusedVariables false

/-- Whose turn it is: the first that is least, from place i on, w the best so far. -/
def whoI (f : List Int) : Nat → Nat → Nat → Nat
  | 0, _, w => w
  | d + 1, i, w => whoI f d (i + 1) (if f.getD i 0 < f.getD w 0 then i else w)
def who (f : List Int) : Nat := whoI f f.length 0 0
theorem whoI_ok (f : List Int) : ∀ (d i w : Nat), i + d = f.length → w < f.length → w ≤ i → (∀ j, j < i → f.getD w 0 ≤ f.getD j 0) → (∀ j, j < w → f.getD w 0 < f.getD j 0) →
    whoI f d i w < f.length ∧ (∀ j, j < f.length → f.getD (whoI f d i w) 0 ≤ f.getD j 0) ∧ ∀ j, j < whoI f d i w → f.getD (whoI f d i w) 0 < f.getD j 0
  | 0, i, w, hi, hw, hwi, h1, h2 => ⟨hw, fun j hj => h1 j (by omega), h2⟩
  | d + 1, i, w, hi, hw, hwi, h1, h2 => by
    simp only [whoI]
    by_cases h : f.getD i 0 < f.getD w 0
    · rw [if_pos h]
      refine whoI_ok f d (i + 1) i (by omega) (by omega) (by omega) (fun j hj => ?_) (fun j hj => ?_)
      · by_cases e : j = i
        · subst e; omega
        · have := h1 j (by omega); omega
      · have := h1 j (by omega); omega
    · rw [if_neg h]
      refine whoI_ok f d (i + 1) w (by omega) hw (by omega) (fun j hj => ?_) h2
      by_cases e : j = i
      · subst e; omega
      · exact h1 j (by omega)
theorem who_ok (f : List Int) (h0 : 0 < f.length) : who f < f.length ∧ (∀ j, j < f.length → f.getD (who f) 0 ≤ f.getD j 0) ∧ ∀ j, j < who f → f.getD (who f) 0 < f.getD j 0 :=
  whoI_ok f f.length 0 0 (by omega) h0 (by omega) (fun j hj => by omega) (fun j hj => by omega)
theorem rd_getD (f : List Int) (i : Nat) : rd f (i : Int) = f.getD i 0 := by simp [rd]
/-- When the next image begins, and what all of them come to. -/
def bg (f : List Int) (x : S41) : Int := mx (f.getD (who f) 0) x.f0
def sv (w : Int) : List S41 → List Int → List Int
  | [], _ => []
  | x :: r, f => if bg f x > x.f0 + w then (-1) :: sv w r f else bg f x :: sv w r (f.set (who f) (bg f x + x.f1))
def inr (x : S41) : Prop := 0 ≤ x.f0 ∧ x.f0 ≤ 100000 ∧ 1 ≤ x.f1 ∧ x.f1 ≤ 5000
theorem imgs_in {l : List S41} (h : imgsOk l = true) : (∀ x ∈ l, inr x) ∧ l.length ≤ 16 := by
  simp only [imgsOk, Bool.and_eq_true, decide_eq_true_eq, allF_iff] at h
  refine ⟨fun x hx => ?_, h.2⟩
  obtain ⟨j, hj, rfl⟩ := List.getElem_of_mem hx
  have := h.1 j (by omega) (by omega)
  simp only [imgAt, Bool.and_eq_true, decide_eq_true_eq, List.getD_eq_getElem?_getD, List.getElem?_eq_getElem hj, Option.getD_some] at this
  exact ⟨this.1.1.1.1, this.1.1.1.2, this.1.1.2, this.1.2⟩
def fin (f : List Int) : Prop := ∀ j, 0 ≤ f.getD j 0 ∧ f.getD j 0 ≤ 110000
theorem fin_set {f : List Int} (h : fin f) (i : Nat) (v : Int) (h0 : 0 ≤ v) (h1 : v ≤ 110000) : fin (f.set i v) := by
  intro j
  have := h j
  simp only [List.getD_eq_getElem?_getD, List.getElem?_set] at this ⊢
  split
  · split
    · exact ⟨h0, h1⟩
    · simp
  · exact this
theorem fin_zero (n : Nat) : fin (List.replicate n 0) := by
  intro j
  simp only [List.getD_eq_getElem?_getD, List.getElem?_replicate]
  split <;> simp
theorem bg_in {f : List Int} (h : fin f) {x : S41} (hx : inr x) : 0 ≤ bg f x ∧ bg f x ≤ 110000 ∧ x.f0 ≤ bg f x := by
  have := h (who f)
  obtain ⟨a, b, _⟩ := hx
  unfold bg mx
  split <;> omega
theorem spec_who_l (l : List S41) (w : Int) (out f : List Int) (I : Int) (r : List Int) (hl : f.length ≤ 1000) : ∀ (d i b : Nat), i + d = f.length → b < f.length →
    Ev (fun k => spec_Serve.l1 k l w (f.length : Int) out f I ((whoI f d i b : Nat) : Int) (f.length : Int)) r → Ev (fun k => spec_Serve.l1 k l w (f.length : Int) out f I (b : Int) (i : Int)) r := by
  intro d
  induction d with
  | zero =>
    intro i b hi hb h
    have : i = f.length := by omega
    subst this
    exact h
  | succ d ih =>
    intro i b hi hb h
    simp only [whoI] at h
    refine Ev.step (fun k => ?_) (ih (i + 1) _ (by omega) (by split <;> omega) h)
    simp only [spec_Serve.l1]
    rw [if_pos (by omega), if_pos (by omega), if_pos (by omega), if_pos (by omega), if_pos (by omega), wrap_in (x := (i : Int) + 1) (by omega) (by omega), rd_getD, rd_getD]
    split <;> simp
theorem rd41_getD (l : List S41) (i : Nat) : rd_T41 l (i : Int) = l.getD i z41 := by simp [rd_T41]
theorem spec_sv_l (l : List S41) (w : Int) (hr : ∀ x ∈ l, inr x) (hl : l.length ≤ 16) (hw0 : 0 ≤ w) (hw1 : w ≤ 5000) (n : Nat) (hn0 : 0 < n) (hn1 : n ≤ 16) : ∀ (d i : Nat), i + d = l.length → ∀ out f : List Int, out.length = i → f.length = n → fin f →
    Ev (fun k => spec_Serve.l0 k l w (n : Int) out f (i : Int)) (out ++ sv w (l.drop i) f) := by
  intro d
  induction d with
  | zero =>
    intro i hi out f ho hf hfin
    rw [List.drop_of_length_le (by omega)]
    refine Ev.step (f := fun _ => some out) (fun k => ?_) (by simpa [sv] using Ev.now _)
    simp only [spec_Serve.l0]
    rw [if_neg (by omega)]
  | succ d ih =>
    intro i hi out f ho hf hfin
    have hlt : i < l.length := by omega
    have hx := hr l[i] (List.getElem_mem hlt)
    have e : l.drop i = l[i] :: l.drop (i + 1) := List.drop_eq_getElem_cons hlt
    have er : rd_T41 l (i : Int) = l[i] := by rw [rd41_getD]; simp [hlt]
    obtain ⟨b0, b1, b2⟩ := bg_in hfin hx
    obtain ⟨w0, _, _⟩ := who_ok f (by omega)
    subst hf
    have hbg : mx (rd f ((who f : Nat) : Int)) (rd_T41 l (i : Int)).f0 = bg f l[i] := by rw [er, rd_getD]; rfl
    obtain ⟨x0, x1, x2, x3⟩ := hx
    have last : Ev (fun k => spec_Serve.l1 k l w (f.length : Int) out f (i : Int) ((who f : Nat) : Int) (f.length : Int)) (out ++ sv w (l[i] :: l.drop (i + 1)) f) := by
      by_cases hc : bg f l[i] > l[i].f0 + w
      · have := ih (i + 1) (by omega) (out ++ [-1]) f (by simp [ho]) rfl hfin
        simp only [sv]
        rw [if_pos hc]
        rw [List.append_assoc] at this
        refine Ev.step (fun k => ?_) this
        simp only [spec_Serve.l1]
        rw [if_neg (by omega), if_pos (by omega), if_pos (by omega), if_pos (by omega), if_pos (by omega), hbg, er, wrap_in (x := l[i].f0 + w) (by omega) (by omega), if_pos hc, if_pos (by omega), wrap_in (x := (i : Int) + 1) (by omega) (by omega)]
        rfl
      · have := ih (i + 1) (by omega) (out ++ [bg f l[i]]) (f.set (who f) (bg f l[i] + l[i].f1)) (by simp [ho]) (by simp) (fin_set hfin _ _ (by omega) (by omega))
        simp only [sv]
        rw [if_neg hc]
        rw [List.append_assoc] at this
        refine Ev.step (fun k => ?_) this
        simp only [spec_Serve.l1]
        rw [if_neg (by omega), if_pos (by omega), if_pos (by omega), if_pos (by omega), if_pos (by omega), hbg, er, wrap_in (x := l[i].f0 + w) (by omega) (by omega), if_neg hc, if_pos (by omega), wrap_in (x := (i : Int) + 1) (by omega) (by omega), wrap_in (x := bg f l[i] + l[i].f1) (by omega) (by omega)]
        simp
    rw [e]
    refine Ev.step (fun k => ?_) (spec_who_l l w out f (i : Int) _ (by omega) f.length 0 0 (by omega) (by omega) last)
    simp only [spec_Serve.l0]
    rw [if_pos (by omega)]
    rfl
theorem min_l (f : List Int) (h0 : 0 < f.length) (hl : f.length ≤ 1000) : ∀ (d i : Nat), i + d = f.length → ∀ m : Int, (∃ j, j < i ∧ m = f.getD j 0) → (∀ j, j < i → m ≤ f.getD j 0) → Ev (fun k => slices_Min_int_int.l0 k f m (i : Int)) (f.getD (who f) 0) := by
  obtain ⟨w0, w1, w2⟩ := who_ok f h0
  intro d
  induction d with
  | zero =>
    intro i hi m ⟨j, hj, hm⟩ ha
    have : m = f.getD (who f) 0 := by
      have a := ha (who f) (by omega)
      have b := w1 j (by omega)
      omega
    subst this
    refine Ev.step (f := fun _ => some (f.getD (who f) 0)) (fun k => ?_) (Ev.now _)
    simp only [slices_Min_int_int.l0]
    rw [if_neg (by omega)]
  | succ d ih =>
    intro i hi m ⟨j, hj, hm⟩ ha
    have hih := ih (i + 1) (by omega) (mn m (f.getD i 0)) (by
      unfold mn
      split
      · exact ⟨i, by omega, rfl⟩
      · exact ⟨j, by omega, hm⟩) (by
      intro k hk
      unfold mn
      by_cases e : k = i
      · subst e; split <;> omega
      · have := ha k (by omega)
        split <;> omega)
    refine Ev.step (fun k => ?_) hih
    simp only [slices_Min_int_int.l0]
    rw [if_pos (by omega), if_pos (by omega), wrap_in (x := (i : Int) + 1) (by omega) (by omega), rd_getD]
    rfl
theorem min_ev (f : List Int) (h0 : 0 < f.length) (hl : f.length ≤ 1000) : Ev (fun k => slices_Min_int_int.f k f) (f.getD (who f) 0) := by
  refine Ev.congr (fun k => ?_) (min_l f h0 hl (f.length - 1) 1 (by omega) (f.getD 0 0) ⟨0, by omega, rfl⟩ (fun j hj => by
    obtain rfl : j = 0 := by omega
    exact Int.le_refl _))
  simp only [slices_Min_int_int.f]
  rw [if_neg (by omega), if_pos (by omega)]
  rfl
theorem index_l (f : List Int) (h0 : 0 < f.length) (hl : f.length ≤ 1000) : ∀ (d i : Nat), i + d = f.length → i ≤ who f → Ev (fun k => slices_Index_int_int.l0 k f (f.getD (who f) 0) (f.length : Int) (i : Int)) ((who f : Nat) : Int) := by
  obtain ⟨w0, w1, w2⟩ := who_ok f h0
  intro d
  induction d with
  | zero =>
    intro i hi hw
    omega
  | succ d ih =>
    intro i hi hw
    by_cases h : f.getD (who f) 0 = f.getD i 0
    · have : i = who f := by
        rcases Nat.lt_or_ge i (who f) with hh | hh
        · have := w2 i hh
          omega
        · omega
      refine Ev.step (f := fun _ => some ((who f : Nat) : Int)) (fun k => ?_) (Ev.now _)
      simp only [slices_Index_int_int.l0]
      rw [if_pos (by omega), if_pos (by omega), if_pos (by omega), rd_getD, if_pos h, this]
    · have : i ≠ who f := fun e => h (by rw [e])
      refine Ev.step (fun k => ?_) (ih (i + 1) (by omega) (by omega))
      simp only [slices_Index_int_int.l0]
      rw [if_pos (by omega), if_pos (by omega), if_pos (by omega), rd_getD, if_neg h, wrap_in (x := (i : Int) + 1) (by omega) (by omega)]
      rfl
theorem index_ev (f : List Int) (h0 : 0 < f.length) (hl : f.length ≤ 1000) : Ev (fun k => slices_Index_int_int.f k f (f.getD (who f) 0)) ((who f : Nat) : Int) :=
  Ev.congr (fun k => by simp only [slices_Index_int_int.f]; rfl) (index_l f h0 hl f.length 0 (by omega) (by omega))
theorem impl_sv_l (l : List S41) (w : Int) (hr : ∀ x ∈ l, inr x) (hl : l.length ≤ 16) (hw0 : 0 ≤ w) (hw1 : w ≤ 5000) (n : Nat) (hn0 : 0 < n) (hn1 : n ≤ 16) : ∀ (d i : Nat), i + d = l.length → ∀ out f : List Int, out.length = i → f.length = n → fin f →
    Ev (fun k => impl_Serve.l0 k w f out l (l.length : Int) (i : Int)) (out ++ sv w (l.drop i) f) := by
  intro d
  induction d with
  | zero =>
    intro i hi out f ho hf hfin
    rw [List.drop_of_length_le (by omega)]
    refine Ev.step (f := fun _ => some out) (fun k => ?_) (by simpa [sv] using Ev.now _)
    simp only [impl_Serve.l0]
    rw [if_neg (by omega)]
  | succ d ih =>
    intro i hi out f ho hf hfin
    have hlt : i < l.length := by omega
    have hx := hr l[i] (List.getElem_mem hlt)
    have e : l.drop i = l[i] :: l.drop (i + 1) := List.drop_eq_getElem_cons hlt
    have er : rd_T41 l (i : Int) = l[i] := by rw [rd41_getD]; simp [hlt]
    obtain ⟨b0, b1, b2⟩ := bg_in hfin hx
    obtain ⟨w0, _, _⟩ := who_ok f (by omega)
    have hbg : mx (rd f ((who f : Nat) : Int)) (rd_T41 l (i : Int)).f0 = bg f l[i] := by rw [er, rd_getD]; rfl
    obtain ⟨x0, x1, x2, x3⟩ := hx
    have hmi := (Lt.of (min_ev f (by omega) (by omega))).and (Lt.of (index_ev f (by omega) (by omega)))
    rw [e]
    by_cases hc : bg f l[i] > l[i].f0 + w
    · have := ih (i + 1) (by omega) (out ++ [-1]) f (by simp [ho]) hf hfin
      simp only [sv]
      rw [if_pos hc]
      rw [List.append_assoc] at this
      refine Ev.round (hmi.and (Lt.of this)) fun k ⟨⟨e1, e2⟩, e3⟩ => ?_
      simp only [impl_Serve.l0, e1, e2, Option.bind_some]
      rw [if_pos (by omega), if_pos (by omega), if_pos (by omega), if_pos (by omega), if_pos (by omega), hbg, er, wrap_in (x := l[i].f0 + w) (by omega) (by omega), if_pos hc, if_pos (by omega), wrap_in (x := (i : Int) + 1) (by omega) (by omega)]
      exact e3
    · have := ih (i + 1) (by omega) (out ++ [bg f l[i]]) (f.set (who f) (bg f l[i] + l[i].f1)) (by simp [ho]) (by simp [hf]) (fin_set hfin _ _ (by omega) (by omega))
      simp only [sv]
      rw [if_neg hc]
      rw [List.append_assoc] at this
      refine Ev.round (hmi.and (Lt.of this)) fun k ⟨⟨e1, e2⟩, e3⟩ => ?_
      simp only [impl_Serve.l0, e1, e2, Option.bind_some]
      rw [if_pos (by omega), if_pos (by omega), if_pos (by omega), if_pos (by omega), if_pos (by omega), hbg, er, wrap_in (x := l[i].f0 + w) (by omega) (by omega), if_neg hc, if_pos (by omega), wrap_in (x := (i : Int) + 1) (by omega) (by omega), wrap_in (x := bg f l[i] + l[i].f1) (by omega) (by omega)]
      exact e3
def rt (l : List S41) (w n : Int) : Bool := imgsOk l && decide (0 ≤ w) && decide (w ≤ 5000) && decide (1 ≤ n) && decide (n ≤ 16)
theorem rt_in {l : List S41} {w n : Int} (h : rt l w n = true) : imgsOk l = true ∧ 0 ≤ w ∧ w ≤ 5000 ∧ 1 ≤ n ∧ n ≤ 16 := by
  simp only [rt, Bool.and_eq_true, decide_eq_true_eq] at h
  exact ⟨h.1.1.1.1, h.1.1.1.2, h.1.1.2, h.1.2, h.2⟩
theorem right_ev (l : List S41) (hn : l.length ≤ 4611686018427387904) (w n : Int) : Ev (fun k => spec_l04Right.f k l w n) (rt l w n) := by
  refine Lt.ev (Lt.of (spec_img_ev l hn)) fun k e => ?_
  simp only [spec_l04Right.f, e, Option.bind_some, spec_l01In.f, rt]
  cases imgsOk l with
  | false => simp
  | true => by_cases h1 : w ≥ 0 <;> by_cases h2 : w ≤ 5000 <;> by_cases h3 : n ≥ 1 <;> by_cases h4 : n ≤ 16 <;> simp [h1, h2, h3, h4]
def serve (l : List S41) (w n : Int) : List Int := if rt l w n = true then sv w l (List.replicate n.toNat 0) else []
theorem spec_sv_ev (l : List S41) (hn : l.length ≤ 4611686018427387904) (w n : Int) : Ev (fun k => spec_Serve.f k l w n) (serve l w n) := by
  unfold serve
  by_cases h : rt l w n = true
  · rw [if_pos h]
    obtain ⟨h1, h2, h3, h4, h5⟩ := rt_in h
    obtain ⟨a1, a2⟩ := imgs_in h1
    have hs := spec_sv_l l w a1 a2 h2 h3 n.toNat (by omega) (by omega) l.length 0 (by omega) [] (List.replicate n.toNat 0) rfl (by simp) (fin_zero _)
    rw [Int.toNat_of_nonneg (by omega)] at hs
    refine Lt.ev ((Lt.of (right_ev l hn w n)).and (Lt.of hs)) fun k ⟨e1, e2⟩ => ?_
    simp only [spec_Serve.f, e1, h, Option.bind_some, if_pos]
    rw [if_pos (by omega), if_pos (by omega)]
    simpa using e2
  · rw [if_neg h]
    refine Lt.ev (Lt.of (right_ev l hn w n)) fun k e1 => ?_
    simp only [spec_Serve.f, e1, Option.bind_some]
    rw [if_neg h]
theorem impl_sv_ev (l : List S41) (hn : l.length ≤ 4611686018427387904) (w n : Int) : Ev (fun k => impl_Serve.f k l w n) (serve l w n) := by
  have dead : Ev (fun k => impl_Serve.j0 k l w n true) [] := Ev.step (f := fun _ => some []) (fun k => by simp [impl_Serve.j0]) (Ev.now _)
  unfold serve
  by_cases h : rt l w n = true
  · rw [if_pos h]
    obtain ⟨h1, h2, h3, h4, h5⟩ := rt_in h
    obtain ⟨a1, a2⟩ := imgs_in h1
    have hs := impl_sv_l l w a1 a2 h2 h3 n.toNat (by omega) (by omega) l.length 0 (by omega) [] (List.replicate n.toNat 0) rfl (by simp) (fin_zero _)
    have live : Ev (fun k => impl_Serve.j0 k l w n false) (sv w l (List.replicate n.toNat 0)) := by
      refine Ev.step (fun k => ?_) hs
      simp only [impl_Serve.j0]
      rw [if_neg (by simp), if_pos (by omega), if_pos (by omega)]
      rfl
    refine Lt.ev ((Lt.of (impl_img_ev l hn)).and (Lt.of live)) fun k ⟨e1, e2⟩ => ?_
    simp only [impl_Serve.f, e1, h1, Option.bind_some, impl_isWait.f]
    simp [h2, h3, show ¬ n < 1 by omega, show ¬ n > 16 by omega, e2]
  · rw [if_neg h]
    refine Lt.ev ((Lt.of (impl_img_ev l hn)).and (Lt.of dead)) fun k ⟨e1, e2⟩ => ?_
    simp only [impl_Serve.f, e1, Option.bind_some, impl_isWait.f]
    cases hi : imgsOk l with
    | false => simp [e2]
    | true =>
      by_cases h1 : w ≥ 0
      · by_cases h2 : w ≤ 5000
        · by_cases h3 : n < 1
          · simp [h1, h2, h3, e2]
          · have h4 : n > 16 := by
              have : ¬ (n ≤ 16) := fun h4 => h (by simp only [rt, hi, Bool.and_eq_true, decide_eq_true_eq]; exact ⟨⟨⟨⟨trivial, by omega⟩, h2⟩, by omega⟩, h4⟩)
              omega
            simp [h1, h2, h3, h4, e2]
        · simp [h1, h2, e2]
      · simp [h1, e2]
end Go.Proofs.Ytdmbfmfdijgdkaa.Pu
