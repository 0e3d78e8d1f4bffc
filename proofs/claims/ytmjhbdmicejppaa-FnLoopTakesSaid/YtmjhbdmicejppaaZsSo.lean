import Derived.Test.YtmjhbdmicejppaaZsSt
import Derived.Test.YtmjhbdmicejppaaZsPx4
import Derived.Test.YtmjhbdmicejppaaZsPx5
namespace Go.Proofs.Ytmjhbdmicejppaa.Pu
open Go.RowKit Go.Proofs.Ytmjhbdmicejppaa.Px Go.Proofs.YtmjhbdmicejppaaW.PrintWords Go.Proofs.YtmjhbdmicejppaaW.PrintLast Go.Proofs.YtmjhbdmicejppaaW.PrintMore
set_option linter.unusedVariables false
theorem lp_Vl {t : List Int} {a : Int} {c : List S69} {w : List S74} (h : lpOk t a c w = true) (hwb : ∀ x ∈ w, x.f1.length ≤ 1048576) : Vl t.length t a c w := by
  simp only [lpOk, szOk, Bool.and_eq_true, decide_eq_true_eq] at h
  obtain ⟨⟨⟨⟨⟨⟨h1, h2⟩, h3⟩, h4⟩, hc⟩, hw⟩, h5, h6, h7⟩ := h
  refine ⟨rfl, h1, h2, h3, by omega, hc, fun x hx => ?_, hw, hwb⟩
  obtain ⟨j, hj, rfl⟩ := List.mem_iff_getElem.1 hx
  have h8 := (allF_iff _ _ _).1 h5 j (by omega) (by omega)
  have e : c.getD j z69 = c[j] := by simp [hj]
  simp only [chF, chOk, e, Bool.and_eq_true, decide_eq_true_eq] at h8
  omega
theorem lp_bags {t : List Int} {a : Int} {c : List S69} {w : List S74} (h : lpOk t a c w = true) : (∀ x ∈ bagsL t c, 1 ≤ x) ∧ (bagsL t c).Nodup := by
  simp only [lpOk, Bool.and_eq_true] at h
  have h2 := h.2.2.1
  rw [bg_eq, Bool.and_eq_true, List.all_eq_true, decide_eq_true_eq] at h2
  exact ⟨fun x hx => by simpa using h2.1 x hx, h2.2⟩
def emptyV (wa : List S74) (at_ : Int) : Nat → Nat → List Int → Int → List S69 → Int × Bool
  | 0, _, _, _, _ => (0, false)
  | d + 1, i, tr, T, ch => if rd tr (trayV tr T at_) = 0 then ((i : Int), true) else emptyV wa at_ d (i + 1) (nxS tr T ch wa).1 (nxT tr T) (nxS tr T ch wa).2
theorem tray_at {n : Nat} {tr : List Int} {T : Int} {ch : List S69} {wa : List S74} (h : Vl n tr T ch wa) {x : Int} (x0 : 0 ≤ x) (x1 : x < n) : 0 ≤ trayV tr T x ∧ trayV tr T x < n := by
  have h1 := h.len
  have h2 := h.n2
  have h3 := h.n60
  have h4 := h.t0
  have h5 := h.t1
  unfold trayV
  rw [h1, wrap_in (x := x - T) (by omega) (by omega), wrap_in (by omega) (by omega), Int.tmod_eq_emod_of_nonneg (by omega)]
  exact ⟨Int.emod_nonneg _ (by omega), Int.emod_lt_of_pos _ (by omega)⟩
theorem impl_em_l {n : Nat} {wa : List S74} (at_ : Int) (x0 : 0 ≤ at_) (x1 : at_ < n) : ∀ (d i : Nat) (tr : List Int) (T : Int) (ch : List S69), i + d = 601 → Vl n tr T ch wa → Ev (fun k => impl_EmptyAt.l0 k at_ (i : Int) tr T ch wa) (emptyV wa at_ d i tr T ch) := by
  intro d
  induction d with
  | zero =>
    intro i tr T ch hi h
    refine Ev.step (f := fun _ => some (0, false)) (fun k => ?_) (Ev.now _)
    simp only [impl_EmptyAt.l0]
    rw [if_neg (by omega)]
  | succ d ih =>
    intro i tr T ch hi h
    have hT := impl_turn_ev h
    have hV := nxS_V h
    have hlen := h.len
    have hn2 := h.n2
    obtain ⟨t0, t1⟩ := tray_at h x0 x1
    have et : impl_trayAt.f tr T ch wa at_ = some (trayV tr T at_) := by
      simp only [impl_trayAt.f, trayV]
      rw [if_neg (by omega)]
    have wr : wrap64 ((i : Int) + 1) = ((i + 1 : Nat) : Int) := by rw [wrap_in (by omega) (by omega)]; rfl
    unfold emptyV
    by_cases hb : rd tr (trayV tr T at_) = 0
    · rw [if_pos hb]
      refine Ev.round Lt.true fun k _ => ?_
      simp only [impl_EmptyAt.l0, et, Option.bind_some]
      rw [if_pos (by omega), if_pos t0, if_pos (by omega), if_pos hb]
    · rw [if_neg hb]
      refine Ev.round ((Lt.of hT).and (Lt.of (ih (i + 1) _ _ _ (by omega) hV))) fun k ⟨e1, e3⟩ => ?_
      simp only [impl_EmptyAt.l0, et, e1, Option.bind_some, wr]
      rw [if_pos (by omega), if_pos t0, if_pos (by omega), if_neg hb]
      exact e3
def emV (t : List Int) (a : Int) (c : List S69) (w : List S74) (at_ : Int) : Int × Bool :=
  if lpOk t a c w = true ∧ 0 ≤ at_ ∧ at_ ≤ (t.length : Int) - 1 then emptyV w at_ 601 0 t a c else (0, false)
theorem impl_em_ev (t : List Int) (a : Int) (c : List S69) (w : List S74) (at_ : Int) (ht : t.length ≤ 1048576) (hf : t.length + (c.flatMap (fun x => x.f2)).length ≤ 1048576) (hwb : ∀ x ∈ w, x.f1.length ≤ 1048576) : Ev (fun k => impl_EmptyAt.f k t a c w at_) (emV t a c w at_) := by
  have hta := impl_ta_ev t a c w at_ ht hf hwb
  unfold emV
  unfold trayAt at hta
  by_cases h : lpOk t a c w = true ∧ 0 ≤ at_ ∧ at_ ≤ (t.length : Int) - 1
  · rw [if_pos h] at hta ⊢
    have hV := lp_Vl h.1 hwb
    obtain ⟨t0, t1⟩ := tray_at hV (x := at_) h.2.1 (by omega)
    obtain ⟨s1, s2, s3, s4⟩ := vl_small hV
    refine Lt.ev ((Lt.of hta).and ((Lt.of (icopy_ev a t c w s1 s2 s3 s4 hwb)).and (Lt.of (impl_em_l (n := t.length) at_ h.2.1 (by omega) 601 0 t a c (by omega) hV)))) fun k ⟨e, e2, e3⟩ => ?_
    simp only [impl_EmptyAt.f, e, Option.bind_some, e2]
    rw [if_neg (by omega)]
    exact e3
  · rw [if_neg h] at hta ⊢
    refine Lt.ev (Lt.of hta) fun k e => ?_
    simp only [impl_EmptyAt.f, e, Option.bind_some]
    rw [if_pos (by omega)]
theorem spec_em_l {n : Nat} {wa : List S74} (at_ : Int) (x0 : 0 ≤ at_) (x1 : at_ < n) : ∀ (d i : Nat) (tr : List Int) (T : Int) (ch : List S69), i + d = 601 → Vl n tr T ch wa → Ev (fun k => spec_EmptyAt.l0 k at_ (i : Int) tr T ch wa) (emptyV wa at_ d i tr T ch) := by
  intro d
  induction d with
  | zero =>
    intro i tr T ch hi h
    refine Ev.step (f := fun _ => some (0, false)) (fun k => ?_) (Ev.now _)
    simp only [spec_EmptyAt.l0]
    rw [if_neg (by omega)]
  | succ d ih =>
    intro i tr T ch hi h
    have hT := spec_step_ev h
    have hV := nxS_V h
    have hlen := h.len
    have hn2 := h.n2
    obtain ⟨t0, t1⟩ := tray_at h x0 x1
    have et : spec_l05Tray.f tr T ch wa at_ = some (trayV tr T at_) := by
      simp only [spec_l05Tray.f, trayV]
      rw [if_neg (by omega)]
    have wr : wrap64 ((i : Int) + 1) = ((i + 1 : Nat) : Int) := by rw [wrap_in (by omega) (by omega)]; rfl
    unfold emptyV
    by_cases hb : rd tr (trayV tr T at_) = 0
    · rw [if_pos hb]
      refine Ev.round Lt.true fun k _ => ?_
      simp only [spec_EmptyAt.l0, et, Option.bind_some]
      rw [if_pos (by omega), if_pos t0, if_pos (by omega), if_pos hb]
    · rw [if_neg hb]
      refine Ev.round ((Lt.of hT).and (Lt.of (ih (i + 1) _ _ _ (by omega) hV))) fun k ⟨e1, e3⟩ => ?_
      simp only [spec_EmptyAt.l0, et, e1, Option.bind_some, wr]
      rw [if_pos (by omega), if_pos t0, if_pos (by omega), if_neg hb]
      exact e3
theorem spec_em_ev (t : List Int) (a : Int) (c : List S69) (w : List S74) (at_ : Int) (ht : t.length ≤ 1048576) (hf : t.length + (c.flatMap (fun x => x.f2)).length ≤ 1048576) (hwb : ∀ x ∈ w, x.f1.length ≤ 1048576) : Ev (fun k => spec_EmptyAt.f k t a c w at_) (emV t a c w at_) := by
  have hta := spec_ta_ev t a c w at_ ht hf hwb
  unfold emV
  unfold trayAt at hta
  by_cases h : lpOk t a c w = true ∧ 0 ≤ at_ ∧ at_ ≤ (t.length : Int) - 1
  · rw [if_pos h] at hta ⊢
    have hV := lp_Vl h.1 hwb
    obtain ⟨t0, t1⟩ := tray_at hV (x := at_) h.2.1 (by omega)
    refine Lt.ev ((Lt.of hta).and (Lt.of (spec_em_l (n := t.length) at_ h.2.1 (by omega) 601 0 t a c (by omega) hV))) fun k ⟨e, e3⟩ => ?_
    simp only [spec_EmptyAt.f, e, Option.bind_some]
    rw [if_neg (by omega)]
    exact e3
  · rw [if_neg h] at hta ⊢
    refine Lt.ev (Lt.of hta) fun k e => ?_
    simp only [spec_EmptyAt.f, e, Option.bind_some]
    rw [if_pos (by omega)]
end Go.Proofs.Ytmjhbdmicejppaa.Pu
