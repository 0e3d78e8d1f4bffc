import Derived.Test.YtmjhbdmicejppaaZsTa
import Derived.Test.YtmjhbdmicejppaaZsPx3
import Derived.Test.YtmjhbdmicejppaaZsPx4
namespace Go.Proofs.Ytmjhbdmicejppaa.Pu
open Go.RowKit Go.Proofs.Ytmjhbdmicejppaa.Px Go.Proofs.YtmjhbdmicejppaaW.PrintWords Go.Proofs.YtmjhbdmicejppaaW.PrintLast Go.Proofs.YtmjhbdmicejppaaW.PrintMore
set_option linter.unusedVariables false
def wnt (w : List S74) (b : Int) : List Int := ((w.find? (fun x => x.f0 == b)).map (fun x => x.f1)).getD []
def up (f : Int → Nat → Int) (p : Nat → Bool) : Nat → Nat → Int → Int
  | _, 0, o => o
  | i, d + 1, o => up f p (i + 1) d (if p i = true then f o i else o)
def Rm (n : Nat) (r : List Int) : Prop := r.length = n ∧ ∀ j, 0 ≤ r.getD j 0 ∧ r.getD j 0 ≤ 40
theorem Rm.set {n : Nat} {r : List Int} (h : Rm n r) (x : Nat) (hx : 0 < r.getD x 0) : Rm n (r.set x (r.getD x 0 - 1)) := by
  refine ⟨by rw [List.length_set]; exact h.1, fun j => ?_⟩
  have h1 := h.2 j
  have h2 := h.2 x
  have hxl : x < r.length := Nat.lt_of_not_le fun h0 => by
    rw [List.getD_eq_getElem?_getD, List.getElem?_eq_none h0] at hx
    simp at hx
  rw [List.getD_eq_getElem?_getD, List.getElem?_set]
  by_cases e : x = j
  · subst e
    rw [if_pos rfl, if_pos hxl]
    simp only [Option.getD_some]
    omega
  · rw [if_neg e, ← List.getD_eq_getElem?_getD]
    exact h1
theorem wants_l (t : List Int) (a : Int) (c : List S69) (w : List S74) (b : Int) (x : Int) (hw : w.length ≤ 60) (hwb : ∀ x ∈ w, x.f1.length ≤ 1048576) : ∀ (d i : Nat), i + d = w.length → Ev (fun k => spec_l05Wants.l0 k b x (i : Int) t a c w) (decide (x ∈ wnt (w.drop i) b)) := by
  intro d
  induction d with
  | zero =>
    intro i hi
    rw [List.drop_of_length_le (by omega)]
    refine Ev.step (f := fun _ => some false) (fun k => ?_) (by simpa [wnt] using Ev.now _)
    simp only [spec_l05Wants.l0]
    rw [if_neg (by omega)]
  | succ d ih =>
    intro i hi
    have hlt : i < w.length := by omega
    rw [List.drop_eq_getElem_cons hlt]
    by_cases h : w[i].f0 = b
    · have e : wnt (w[i] :: w.drop (i + 1)) b = w[i].f1 := by unfold wnt; rw [List.find?_cons_of_pos (by simpa using h)]; rfl
      rw [e]
      refine Ev.round (Lt.of (has_ev w[i].f1 x (by have := hwb _ (List.getElem_mem hlt); omega))) fun k e1 => ?_
      simp only [spec_l05Wants.l0, rd74_nat w i hlt]
      rw [if_pos (by omega), if_pos (by omega), if_pos h, e1]
      rfl
    · have e : wnt (w[i] :: w.drop (i + 1)) b = wnt (w.drop (i + 1)) b := by unfold wnt; rw [List.find?_cons_of_neg (by simpa using h)]
      rw [e]
      refine Ev.step (fun k => ?_) (ih (i + 1) (by omega))
      simp only [spec_l05Wants.l0, rd74_nat w i hlt]
      rw [if_pos (by omega), if_pos (by omega), if_neg h, wrap_in (x := (i : Int) + 1) (by omega) (by omega)]
      rfl
theorem wants_ev (t : List Int) (a : Int) (c : List S69) (w : List S74) (b : Int) (x : Int) (hw : w.length ≤ 60) (hwb : ∀ x ∈ w, x.f1.length ≤ 1048576) : Ev (fun k => spec_l05Wants.f k t a c w b x) (decide (x ∈ wnt w b)) :=
  Ev.congr (fun k => by simp only [spec_l05Wants.f]; rfl) (wants_l t a c w b x hw hwb w.length 0 (by omega))
theorem wantOf_eq (t : List Int) (a : Int) (c : List S69) (w : List S74) (b : Int) : (impl_wantOf.f t a c w b = some (-1) ∧ wnt w b = []) ∨ ∃ i, ∃ h : i < w.length, impl_wantOf.f t a c w b = some (i : Int) ∧ wnt w b = w[i].f1 := by
  have hp : vc_impl_wantOf_1_idx.p b = fun x => x.f0 == b := rfl
  simp only [impl_wantOf.f, vc_impl_wantOf_1_idx.f, Opens.idxB, hp, Option.bind_some, wnt]
  cases hf : w.findIdx? (fun x => x.f0 == b) with
  | none =>
    refine Or.inl ⟨rfl, ?_⟩
    rw [List.findIdx?_eq_none_iff] at hf
    rw [List.find?_eq_none.2 (fun x hx => by simp [hf x hx])]
    rfl
  | some i =>
    rw [List.findIdx?_eq_some_iff_getElem] at hf
    obtain ⟨h1, h2, h3⟩ := hf
    refine Or.inr ⟨i, h1, rfl, ?_⟩
    have : w.find? (fun x => x.f0 == b) = some w[i] := by
      rw [List.find?_eq_some_iff_getElem]
      exact ⟨h2, i, h1, rfl, fun j hj => by simpa using h3 j hj⟩
    rw [this]
    rfl
end Go.Proofs.Ytmjhbdmicejppaa.Pu
