import Derived.Test.YtmjhbdmicejppaaZrSt
import Derived.Test.YtmjhbdmicejppaaZrPx13
import Derived.Test.YtmjhbdmicejppaaZrPx0
import Derived.Test.YtmjhbdmicejppaaZrPx3
import Derived.Test.YtmjhbdmicejppaaZrPx6
import Derived.Test.YtmjhbdmicejppaaZrPx8
import Derived.Test.YtmjhbdmicejppaaZrPx1
import Derived.Test.YtmjhbdmicejppaaZrPx2
namespace Go.Proofs.Ytmjhbdmicejppaa.Pu
open Go.RowKit Go.Proofs.Ytmjhbdmicejppaa.Px Go.Proofs.YtmjhbdmicejppaaW.PrintWords Go.Proofs.YtmjhbdmicejppaaW.PrintLast Go.Proofs.YtmjhbdmicejppaaW.PrintMore
set_option linter.unusedVariables false
theorem lp_Vl {t : List Int} {a : Int} {c : List S69} {w : List S74} (h : lpOk t a c w = true) (hwb : ∀ x ∈ w, x.f1.length ≤ 1048576) : Vl t.length t a c w := by
  simp only [lpOk, szOk, Bool.and_eq_true, decide_eq_true_eq] at h
  obtain ⟨⟨⟨⟨⟨⟨h1, h2⟩, h3⟩, h4⟩, hc⟩, hw⟩, h5, h6, h7⟩ := h
  refine ⟨rfl, h1, h2, h3, by omega, hc, fun x hx => ?_, hw, hwb⟩
  obtain ⟨j, hj, rfl⟩ := List.mem_iff_getElem.1 hx
  have h8 := (allF_iff _ _ _).1 h5 j (by omega) (by omega)
  have e : c.getD j z69 = c[j] := by simp [hj]
  simp only [chF, chOk, e, Bool.and_eq_true, decide_eq_true_eq] at h8
  omega
theorem lp_bags {t : List Int} {a : Int} {c : List S69} {w : List S74} (h : lpOk t a c w = true) : (∀ x ∈ bagsL t c, 1 ≤ x) ∧ (bagsL t c).Nodup := by
  simp only [lpOk, Bool.and_eq_true] at h
  have h2 := h.2.2.1
  rw [bg_eq, Bool.and_eq_true, List.all_eq_true, decide_eq_true_eq] at h2
  exact ⟨fun x hx => by simpa using h2.1 x hx, h2.2⟩
theorem lp_tray {t : List Int} {a : Int} {c : List S69} {w : List S74} (h : lpOk t a c w = true) {b : Int} (hb : b ∈ t) : b = 0 ∨ 1 ≤ b := by
  by_cases h0 : b = 0
  · exact .inl h0
  · exact .inr ((lp_bags h).1 b (List.mem_append_left _ (List.mem_filter.2 ⟨hb, by simp [h0]⟩)))
def stepsV (wa : List S74) (b : Int) : Nat → Nat → List Int → Int → List S69 → Int × Bool
  | 0, _, _, _, _ => (0, false)
  | d + 1, i, tr, T, ch => if b ∈ (nxS tr T ch wa).1 then stepsV wa b d (i + 1) (nxS tr T ch wa).1 (nxT tr T) (nxS tr T ch wa).2 else (((i + 1 : Nat) : Int), true)
theorem impl_so_l {n : Nat} {wa : List S74} (b : Int) : ∀ (d i : Nat) (tr : List Int) (T : Int) (ch : List S69), i + d = 600 → Vl n tr T ch wa → Ev (fun k => impl_StepsOf.l0 k b ((i + 1 : Nat) : Int) tr T ch wa) (stepsV wa b d i tr T ch) := by
  intro d
  induction d with
  | zero =>
    intro i tr T ch hi h
    refine Ev.step (f := fun _ => some (0, false)) (fun k => ?_) (Ev.now _)
    simp only [impl_StepsOf.l0]
    rw [if_neg (by omega)]
  | succ d ih =>
    intro i tr T ch hi h
    have hT := impl_turn_ev h
    have hV := nxS_V h
    have hcn := contains_ev (nxS tr T ch wa).1 b (by have := hV.len; have := hV.n60; omega)
    have wr : wrap64 (((i + 1 : Nat) : Int) + 1) = ((i + 1 + 1 : Nat) : Int) := by rw [wrap_in (by omega) (by omega)]; rfl
    unfold stepsV
    by_cases hb : b ∈ (nxS tr T ch wa).1
    · rw [if_pos hb]
      refine Ev.round ((Lt.of hT).and ((Lt.of hcn).and (Lt.of (ih (i + 1) _ _ _ (by omega) hV)))) fun k ⟨e1, e2, e3⟩ => ?_
      simp only [impl_StepsOf.l0, e1, Option.bind_some, e2, decide_eq_true hb, wr]
      rw [if_pos (by omega), if_pos (by simp)]
      exact e3
    · rw [if_neg hb]
      refine Ev.round ((Lt.of hT).and (Lt.of hcn)) fun k ⟨e1, e2⟩ => ?_
      simp only [impl_StepsOf.l0, e1, Option.bind_some, e2, decide_eq_false hb]
      rw [if_pos (by omega), if_neg (by simp)]
def soV (t : List Int) (a : Int) (c : List S69) (w : List S74) (b : Int) : Int × Bool :=
  if lpOk t a c w = true ∧ b ≠ 0 ∧ b ∈ t then stepsV w b 600 0 t a c else (0, false)
theorem impl_so_ev (t : List Int) (a : Int) (c : List S69) (w : List S74) (b : Int) (ht : t.length ≤ 1048576) (hf : t.length + (c.flatMap (fun x => x.f2)).length ≤ 1048576) (hwb : ∀ x ∈ w, x.f1.length ≤ 1048576) : Ev (fun k => impl_StepsOf.f k t a c w b) (soV t a c w b) := by
  have hlp := impl_lp_ev t a c w ht hf hwb
  unfold soV
  by_cases h : lpOk t a c w = true
  · rw [h] at hlp
    have hV := lp_Vl h hwb
    by_cases h0 : b = 0
    · rw [if_neg (fun hh => hh.2.1 h0)]
      refine Lt.ev (Lt.of hlp) fun k e => ?_
      simp only [impl_StepsOf.f, e, Option.bind_some]
      rw [if_pos (by simp), if_pos h0]
    · have hcn := contains_ev t b ht
      by_cases hb : b ∈ t
      · rw [if_pos ⟨h, h0, hb⟩]
        obtain ⟨s1, s2, s3, s4⟩ := vl_small hV
        refine Lt.ev ((Lt.of hlp).and ((Lt.of hcn).and ((Lt.of (icopy_ev a t c w s1 s2 s3 s4 hwb)).and (Lt.of (impl_so_l b 600 0 t a c (by omega) hV))))) fun k ⟨e, e1, e2, e3⟩ => ?_
        simp only [impl_StepsOf.f, e, Option.bind_some, e1, e2, decide_eq_true hb]
        rw [if_pos (by simp), if_neg h0, if_pos (by simp)]
        exact e3
      · rw [if_neg (fun hh => hb hh.2.2)]
        refine Lt.ev ((Lt.of hlp).and (Lt.of hcn)) fun k ⟨e, e1⟩ => ?_
        simp only [impl_StepsOf.f, e, Option.bind_some, e1, decide_eq_false hb]
        rw [if_pos (by simp), if_neg h0, if_neg (by simp)]
  · rw [if_neg (fun hh => h hh.1)]
    have h' : lpOk t a c w = false := by simpa using h
    rw [h'] at hlp
    refine Lt.ev (Lt.of hlp) fun k e => ?_
    simp only [impl_StepsOf.f, e, Option.bind_some]
    rw [if_neg (by simp)]
theorem spec_so_l {n : Nat} {wa : List S74} (b : Int) : ∀ (d i : Nat) (tr : List Int) (T : Int) (ch : List S69), i + d = 600 → Vl n tr T ch wa → b ∈ tr → Ev (fun k => spec_StepsOf.l0 k b (i : Int) tr T ch wa) (stepsV wa b d i tr T ch) := by
  intro d
  induction d with
  | zero =>
    intro i tr T ch hi h hb
    have hh := has_ev tr b (by have := h.len; have := h.n60; omega)
    have dead : Ev (fun k => spec_StepsOf.l0 k b ((i + 1 : Nat) : Int) (nxS tr T ch wa).1 (nxT tr T) (nxS tr T ch wa).2 wa) (0, false) := by
      refine Ev.step (f := fun _ => some (0, false)) (fun k => ?_) (Ev.now _)
      simp only [spec_StepsOf.l0]
      rw [if_neg (by omega)]
    have wr : wrap64 ((i : Int) + 1) = ((i + 1 : Nat) : Int) := by rw [wrap_in (by omega) (by omega)]; rfl
    refine Ev.round ((Lt.of hh).and ((Lt.of (spec_step_ev h)).and (Lt.of dead))) fun k ⟨e1, e2, e3⟩ => ?_
    simp only [spec_StepsOf.l0, e1, Option.bind_some, e2, decide_eq_true hb, wr]
    rw [if_pos (by omega), if_pos (by simp)]
    exact e3
  | succ d ih =>
    intro i tr T ch hi h hb
    have hV := nxS_V h
    have hh := has_ev tr b (by have := h.len; have := h.n60; omega)
    have wr : wrap64 ((i : Int) + 1) = ((i + 1 : Nat) : Int) := by rw [wrap_in (by omega) (by omega)]; rfl
    have go : ∀ r, Ev (fun k => spec_StepsOf.l0 k b ((i + 1 : Nat) : Int) (nxS tr T ch wa).1 (nxT tr T) (nxS tr T ch wa).2 wa) r → Ev (fun k => spec_StepsOf.l0 k b (i : Int) tr T ch wa) r := fun r hr => by
      refine Ev.round ((Lt.of hh).and ((Lt.of (spec_step_ev h)).and (Lt.of hr))) fun k ⟨e1, e2, e3⟩ => ?_
      simp only [spec_StepsOf.l0, e1, Option.bind_some, e2, decide_eq_true hb, wr]
      rw [if_pos (by omega), if_pos (by simp)]
      exact e3
    refine go _ ?_
    unfold stepsV
    by_cases hb2 : b ∈ (nxS tr T ch wa).1
    · rw [if_pos hb2]
      exact ih (i + 1) _ _ _ (by omega) hV hb2
    · rw [if_neg hb2]
      have hh2 := has_ev (nxS tr T ch wa).1 b (by have := hV.len; have := hV.n60; omega)
      refine Ev.round (Lt.of hh2) fun k e1 => ?_
      simp only [spec_StepsOf.l0, e1, Option.bind_some, decide_eq_false hb2]
      rw [if_pos (by omega), if_neg (by simp)]
theorem spec_so_ev (t : List Int) (a : Int) (c : List S69) (w : List S74) (b : Int) (ht : t.length ≤ 1048576) (hf : t.length + (c.flatMap (fun x => x.f2)).length ≤ 1048576) (hwb : ∀ x ∈ w, x.f1.length ≤ 1048576) : Ev (fun k => spec_StepsOf.f k t a c w b) (soV t a c w b) := by
  have hlp := spec_lp_ev t a c w ht hf hwb
  have dead : Ev (fun k => spec_StepsOf.j0 k b true t a c w) (0, false) := Ev.step (f := fun _ => some (0, false)) (fun k => by simp [spec_StepsOf.j0]) (Ev.now _)
  unfold soV
  by_cases h : lpOk t a c w = true
  · rw [h] at hlp
    have hV := lp_Vl h hwb
    by_cases h0 : b < 1
    · rw [if_neg (fun hh => by have := lp_tray h hh.2.2; omega)]
      refine Lt.ev ((Lt.of hlp).and (Lt.of dead)) fun k ⟨e, e1⟩ => ?_
      simp only [spec_StepsOf.f, e, Option.bind_some]
      rw [if_pos (by simp), if_pos h0]
      exact e1
    · have hh := has_ev t b (by omega)
      by_cases hb : b ∈ t
      · rw [if_pos ⟨h, by omega, hb⟩]
        have live : Ev (fun k => spec_StepsOf.j0 k b false t a c w) (stepsV w b 600 0 t a c) := Ev.round (Lt.of (spec_so_l b 600 0 t a c (by omega) hV hb)) fun k e => by
          simp only [spec_StepsOf.j0]
          rw [if_neg (by simp)]
          exact e
        refine Lt.ev ((Lt.of hlp).and ((Lt.of hh).and (Lt.of live))) fun k ⟨e, e1, e2⟩ => ?_
        simp only [spec_StepsOf.f, e, Option.bind_some, e1, decide_eq_true hb, Bool.not_true]
        rw [if_pos (by simp), if_neg h0]
        exact e2
      · rw [if_neg (fun hh => hb hh.2.2)]
        refine Lt.ev ((Lt.of hlp).and ((Lt.of hh).and (Lt.of dead))) fun k ⟨e, e1, e2⟩ => ?_
        simp only [spec_StepsOf.f, e, Option.bind_some, e1, decide_eq_false hb, Bool.not_false]
        rw [if_pos (by simp), if_neg h0]
        exact e2
  · rw [if_neg (fun hh => h hh.1)]
    have h' : lpOk t a c w = false := by simpa using h
    rw [h'] at hlp
    refine Lt.ev ((Lt.of hlp).and (Lt.of dead)) fun k ⟨e, e1⟩ => ?_
    simp only [spec_StepsOf.f, e, Option.bind_some]
    rw [if_neg (by simp)]
    exact e1
end Go.Proofs.Ytmjhbdmicejppaa.Pu
