import Derived.Test.YtmjhbdmicejppaaZrSo
import Derived.Test.YtmjhbdmicejppaaZrPx9
import Derived.Test.YtmjhbdmicejppaaZrPx0
import Derived.Test.YtmjhbdmicejppaaZrPx1
import Derived.Test.YtmjhbdmicejppaaZrPx2
import Derived.Test.YtmjhbdmicejppaaZrPx6
import Derived.Test.YtmjhbdmicejppaaZrPx8
namespace Go.Proofs.Ytmjhbdmicejppaa.Pu
open Go.RowKit Go.Proofs.Ytmjhbdmicejppaa.Px Go.Proofs.YtmjhbdmicejppaaW.PrintWords Go.Proofs.YtmjhbdmicejppaaW.PrintLast Go.Proofs.YtmjhbdmicejppaaW.PrintMore
set_option linter.unusedVariables false
def itV (wa : List S74) : Nat → List Int → Int → List S69 → List Int × Int × List S69
  | 0, tr, T, ch => (tr, T, ch)
  | d + 1, tr, T, ch => itV wa d (nxS tr T ch wa).1 (nxT tr T) (nxS tr T ch wa).2
theorem itV_V {n : Nat} {wa : List S74} : ∀ (d : Nat) {tr : List Int} {T : Int} {ch : List S69}, Vl n tr T ch wa → Vl n (itV wa d tr T ch).1 (itV wa d tr T ch).2.1 (itV wa d tr T ch).2.2 wa
  | 0, _, _, _, h => h
  | d + 1, _, _, _, h => itV_V d (nxS_V h)
theorem impl_tl_l {n : Nat} {wa : List S74} : ∀ (d : Nat) (tr : List Int) (T : Int) (ch : List S69), d ≤ 600 → Vl n tr T ch wa → Ev (fun k => impl_TurnLoop.l0 k (d : Int) tr T ch wa) ((itV wa d tr T ch).1, (itV wa d tr T ch).2.1, (itV wa d tr T ch).2.2, wa) := by
  intro d
  induction d with
  | zero =>
    intro tr T ch hd h
    refine Ev.step (f := fun _ => some (tr, T, ch, wa)) (fun k => ?_) (Ev.now _)
    simp only [impl_TurnLoop.l0]
    rw [if_neg (by omega)]
  | succ d ih =>
    intro tr T ch hd h
    have wr : wrap64 (((d + 1 : Nat) : Int) - 1) = (d : Int) := by rw [wrap_in (by omega) (by omega)]; omega
    refine Ev.round ((Lt.of (impl_turn_ev h)).and (Lt.of (ih _ _ _ (by omega) (nxS_V h)))) fun k ⟨e1, e2⟩ => ?_
    simp only [impl_TurnLoop.l0, e1, Option.bind_some, wr]
    rw [if_pos (by omega)]
    exact e2
def tlV (t : List Int) (a : Int) (c : List S69) (w : List S74) (s : Int) : List Int × Int × List S69 × List S74 :=
  if lpOk t a c w = true ∧ 0 ≤ s ∧ s ≤ 600 then ((itV w s.toNat t a c).1, (itV w s.toNat t a c).2.1, (itV w s.toNat t a c).2.2, w) else (t, a, c, w)
theorem impl_tl_ev (t : List Int) (a : Int) (c : List S69) (w : List S74) (s : Int) (ht : t.length ≤ 1048576) (hf : t.length + (c.flatMap (fun x => x.f2)).length ≤ 1048576) (hc : c.length ≤ 1048576) (hcb : ∀ x ∈ c, x.f2.length ≤ 1048576) (hw : w.length ≤ 1048576) (hwb : ∀ x ∈ w, x.f1.length ≤ 1048576) : Ev (fun k => impl_TurnLoop.f k t a c w s) (tlV t a c w s) := by
  have hcp := icopy_ev a t c w ht hc hcb hw hwb
  have hlp := impl_lp_ev t a c w ht hf hwb
  unfold tlV
  by_cases h : lpOk t a c w = true
  · rw [h] at hlp
    have hV := lp_Vl h hwb
    by_cases h0 : s < 0
    · rw [if_neg (fun hh => by omega)]
      refine Lt.ev ((Lt.of hcp).and (Lt.of hlp)) fun k ⟨e1, e2⟩ => ?_
      simp only [impl_TurnLoop.f, e1, e2, Option.bind_some]
      rw [if_pos trivial, if_pos h0]
    · by_cases h1 : s > 600
      · rw [if_neg (fun hh => by omega)]
        refine Lt.ev ((Lt.of hcp).and (Lt.of hlp)) fun k ⟨e1, e2⟩ => ?_
        simp only [impl_TurnLoop.f, e1, e2, Option.bind_some]
        rw [if_pos trivial, if_neg h0, if_pos h1]
      · rw [if_pos ⟨h, by omega, by omega⟩]
        have hl := impl_tl_l s.toNat t a c (by omega) hV
        rw [show ((s.toNat : Nat) : Int) = s by omega] at hl
        refine Lt.ev ((Lt.of hcp).and ((Lt.of hlp).and (Lt.of hl))) fun k ⟨e1, e2, e3⟩ => ?_
        simp only [impl_TurnLoop.f, e1, e2, Option.bind_some]
        rw [if_pos trivial, if_neg h0, if_neg h1]
        exact e3
  · rw [if_neg (fun hh => h hh.1)]
    have h' : lpOk t a c w = false := by simpa using h
    rw [h'] at hlp
    refine Lt.ev ((Lt.of hcp).and (Lt.of hlp)) fun k ⟨e1, e2⟩ => ?_
    simp only [impl_TurnLoop.f, e1, e2, Option.bind_some]
    rw [if_neg (by simp)]
def Sub (e l : List Int) : Prop := e.length = l.length ∧ ∀ j, e.getD j 0 = l.getD j 0 ∨ e.getD j 0 = 0
theorem Sub.refl (l : List Int) : Sub l l := ⟨rfl, fun _ => .inl rfl⟩
theorem Sub.trans {a b c : List Int} (h : Sub a b) (k : Sub b c) : Sub a c := ⟨h.1.trans k.1, fun j => by
  rcases h.2 j with e | e
  · rcases k.2 j with f | f
    · exact .inl (e.trans f)
    · exact .inr (e.trans f)
  · exact .inr e⟩
theorem step1_sub (wa : List S74) (T : Int) (tr : List Int) (ch : List S69) (i : Nat) : Sub (step1 wa T tr ch i).1 tr := by
  unfold step1
  split
  · exact Sub.refl _
  · split
    · refine ⟨by rw [List.length_set], fun j => ?_⟩
      simp only [List.getD_eq_getElem?_getD, List.getElem?_set]
      split
      · split
        · exact .inr rfl
        · exact .inr rfl
      · exact .inl rfl
    · exact Sub.refl _
theorem stepL_sub (wa : List S74) (T : Int) : ∀ (d i : Nat) (tr : List Int) (ch : List S69), Sub (stepL wa T d i tr ch).1 tr
  | 0, _, _, _ => Sub.refl _
  | d + 1, i, tr, ch => (stepL_sub wa T d (i + 1) _ _).trans (step1_sub wa T tr ch i)
theorem nxS_sub (tr : List Int) (T : Int) (ch : List S69) (wa : List S74) : Sub (nxS tr T ch wa).1 tr := stepL_sub _ _ _ _ _ _
theorem itV_sub (wa : List S74) : ∀ (d : Nat) (tr : List Int) (T : Int) (ch : List S69), Sub (itV wa d tr T ch).1 tr
  | 0, _, _, _ => Sub.refl _
  | d + 1, tr, T, ch => (itV_sub wa d _ _ _).trans (nxS_sub tr T ch wa)
theorem itV_add (wa : List S74) : ∀ (a b : Nat) (tr : List Int) (T : Int) (ch : List S69), itV wa (a + b) tr T ch = itV wa b (itV wa a tr T ch).1 (itV wa a tr T ch).2.1 (itV wa a tr T ch).2.2
  | 0, b, tr, T, ch => by rw [Nat.zero_add]; rfl
  | a + 1, b, tr, T, ch => by
    rw [show a + 1 + b = a + b + 1 by omega]
    exact itV_add wa a b _ _ _
end Go.Proofs.Ytmjhbdmicejppaa.Pu
