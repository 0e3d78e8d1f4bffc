import Derived.Test.YtmjhbdmicejppaaZjTa
import Derived.Test.YtmjhbdmicejppaaZjPx7
import Derived.Test.YtmjhbdmicejppaaZjPx0
import Derived.Test.YtmjhbdmicejppaaZjPx1
import Derived.Test.YtmjhbdmicejppaaZjPx2
namespace Go.Proofs.Ytmjhbdmicejppaa.Pu
open Go.RowKit Go.Proofs.Ytmjhbdmicejppaa.Px Go.Proofs.YtmjhbdmicejppaaW.PrintWords Go.Proofs.YtmjhbdmicejppaaW.PrintLast Go.Proofs.YtmjhbdmicejppaaW.PrintMore
set_option linter.unusedVariables false
def wnt (w : List S74) (b : Int) : List Int := ((w.find? (fun x => x.f0 == b)).map (fun x => x.f1)).getD []
def up (f : Int → Nat → Int) (p : Nat → Bool) : Nat → Nat → Int → Int
  | _, 0, o => o
  | i, d + 1, o => up f p (i + 1) d (if p i = true then f o i else o)
def Rm (n : Nat) (r : List Int) : Prop := r.length = n ∧ ∀ j, 0 ≤ r.getD j 0 ∧ r.getD j 0 ≤ 40
theorem Rm.set {n : Nat} {r : List Int} (h : Rm n r) (x : Nat) (hx : 0 < r.getD x 0) : Rm n (r.set x (r.getD x 0 - 1)) := by
  refine ⟨by rw [List.length_set]; exact h.1, fun j => ?_⟩
  have h1 := h.2 j
  have h2 := h.2 x
  have hxl : x < r.length := Nat.lt_of_not_le fun h0 => by
    rw [List.getD_eq_getElem?_getD, List.getElem?_eq_none h0] at hx
    simp at hx
  rw [List.getD_eq_getElem?_getD, List.getElem?_set]
  by_cases e : x = j
  · subst e
    rw [if_pos rfl, if_pos hxl]
    simp only [Option.getD_some]
    omega
  · rw [if_neg e, ← List.getD_eq_getElem?_getD]
    exact h1
theorem wants_l (t : List Int) (a : Int) (c : List S69) (w : List S74) (b : Int) (x : Int) (hw : w.length ≤ 60) (hwb : ∀ x ∈ w, x.f1.length ≤ 1048576) : ∀ (d i : Nat), i + d = w.length → Ev (fun k => spec_l05Wants.l0 k b x (i : Int) t a c w) (decide (x ∈ wnt (w.drop i) b)) := by
  intro d
  induction d with
  | zero =>
    intro i hi
    rw [List.drop_of_length_le (by omega)]
    refine Ev.step (f := fun _ => some false) (fun k => ?_) (by simpa [wnt] using Ev.now _)
    simp only [spec_l05Wants.l0]
    rw [if_neg (by omega)]
  | succ d ih =>
    intro i hi
    have hlt : i < w.length := by omega
    rw [List.drop_eq_getElem_cons hlt]
    by_cases h : w[i].f0 = b
    · have e : wnt (w[i] :: w.drop (i + 1)) b = w[i].f1 := by unfold wnt; rw [List.find?_cons_of_pos (by simpa using h)]; rfl
      rw [e]
      refine Ev.round (Lt.of (has_ev w[i].f1 x (by have := hwb _ (List.getElem_mem hlt); omega))) fun k e1 => ?_
      simp only [spec_l05Wants.l0, rd74_nat w i hlt]
      rw [if_pos (by omega), if_pos (by omega), if_pos h, e1]
      rfl
    · have e : wnt (w[i] :: w.drop (i + 1)) b = wnt (w.drop (i + 1)) b := by unfold wnt; rw [List.find?_cons_of_neg (by simpa using h)]
      rw [e]
      refine Ev.step (fun k => ?_) (ih (i + 1) (by omega))
      simp only [spec_l05Wants.l0, rd74_nat w i hlt]
      rw [if_pos (by omega), if_pos (by omega), if_neg h, wrap_in (x := (i : Int) + 1) (by omega) (by omega)]
      rfl
theorem wants_ev (t : List Int) (a : Int) (c : List S69) (w : List S74) (b : Int) (x : Int) (hw : w.length ≤ 60) (hwb : ∀ x ∈ w, x.f1.length ≤ 1048576) : Ev (fun k => spec_l05Wants.f k t a c w b x) (decide (x ∈ wnt w b)) :=
  Ev.congr (fun k => by simp only [spec_l05Wants.f]; rfl) (wants_l t a c w b x hw hwb w.length 0 (by omega))
def Asc (n : Nat) (w : List S74) : Prop := ∀ x ∈ w, x.f1.Pairwise (fun a b => a < b) ∧ ∀ y ∈ x.f1, 0 ≤ y ∧ y < (n : Int)
theorem wantOf_eq (t : List Int) (a : Int) (c : List S69) (w : List S74) (b : Int) : (impl_wantOf.f t a c w b = some (-1) ∧ wnt w b = []) ∨ ∃ i, ∃ h : i < w.length, impl_wantOf.f t a c w b = some (i : Int) ∧ wnt w b = w[i].f1 := by
  have hp : vc_impl_wantOf_1_idx.p b = fun x => x.f0 == b := rfl
  simp only [impl_wantOf.f, vc_impl_wantOf_1_idx.f, Opens.idxB, hp, Option.bind_some, wnt]
  cases hf : w.findIdx? (fun x => x.f0 == b) with
  | none =>
    refine Or.inl ⟨rfl, ?_⟩
    rw [List.findIdx?_eq_none_iff] at hf
    rw [List.find?_eq_none.2 (fun x hx => by simp [hf x hx])]
    rfl
  | some i =>
    rw [List.findIdx?_eq_some_iff_getElem] at hf
    obtain ⟨h1, h2, h3⟩ := hf
    refine Or.inr ⟨i, h1, rfl, ?_⟩
    have : w.find? (fun x => x.f0 == b) = some w[i] := by
      rw [List.find?_eq_some_iff_getElem]
      exact ⟨h2, i, h1, rfl, fun j hj => by simpa using h3 j hj⟩
    rw [this]
    rfl
def room (c : List S69) : List Int := c.map (fun x => x.f1 - (x.f2.length : Int))
theorem lp_room {t : List Int} {a : Int} {c : List S69} {w : List S74} (h : lpOk t a c w = true) : c.length ≤ 8 ∧ w.length ≤ 60 ∧ Rm c.length (room c) ∧ Asc c.length w := by
  simp only [lpOk, szOk, Bool.and_eq_true, decide_eq_true_eq] at h
  obtain ⟨⟨⟨h1, hc⟩, hw⟩, h2, h3, h4⟩ := h
  refine ⟨hc, hw, ⟨by simp [room], fun j => ?_⟩, fun x hx => ?_⟩
  · by_cases hj : j < c.length
    · have h5 := (allF_iff _ _ _).1 h2 j (by omega) (by omega)
      have e : c.getD j z69 = c[j] := by simp [hj]
      simp only [chF, chOk, e, Bool.and_eq_true, decide_eq_true_eq] at h5
      have e2 : (room c).getD j 0 = c[j].f1 - (c[j].f2.length : Int) := by simp [room, hj]
      rw [e2]
      omega
    · have e2 : (room c).getD j 0 = 0 := by simp [room, hj]
      rw [e2]
      omega
  · obtain ⟨i, hi, rfl⟩ := List.mem_iff_getElem.1 hx
    have h5 := (allF_iff _ _ _).1 h4 i (by omega) (by omega)
    have e : w.getD i z74 = w[i] := by simp [hi]
    simp only [waF, e, Bool.and_eq_true, ixOk] at h5
    have h6 := (allF_iff _ _ _).1 h5.2
    have h7 : ∀ j (hj : j < w[i].f1.length), (0 ≤ w[i].f1[j] ∧ w[i].f1[j] ≤ (c.length : Int) - 1) ∧ (j = 0 ∨ w[i].f1.getD (j - 1) 0 < w[i].f1[j]) := fun j hj => by
      have h8 := h6 j (by omega) (by omega)
      have e3 : w[i].f1.getD j 0 = w[i].f1[j] := by simp [hj]
      simpa only [ixAt, e3, Bool.and_eq_true, Bool.or_eq_true, decide_eq_true_eq] using h8
    refine ⟨List.pairwise_iff_getElem.2 (fun p q hp hq hpq => ?_), fun y hy => ?_⟩
    · obtain ⟨d, rfl⟩ : ∃ d, q = p + 1 + d := ⟨q - p - 1, by omega⟩
      induction d with
      | zero =>
        have := (h7 (p + 1) hq).2
        have e4 : w[i].f1.getD (p + 1 - 1) 0 = w[i].f1[p] := by simp [hp]
        rw [e4] at this
        exact this.elim (fun h => by omega) id
      | succ d ih =>
        have h9 := ih (by omega) (by omega)
        have := (h7 (p + 1 + (d + 1)) hq).2
        have e4 : w[i].f1.getD (p + 1 + (d + 1) - 1) 0 = w[i].f1[p + 1 + d]'(by omega) := by
          rw [show p + 1 + (d + 1) - 1 = p + 1 + d by omega]
          simp [show p + 1 + d < w[i].f1.length by omega]
        rw [e4] at this
        exact Int.lt_trans h9 (this.elim (fun h => by omega) id)
    · obtain ⟨j, hj, rfl⟩ := List.mem_iff_getElem.1 hy
      have := (h7 j hj).1
      omega
end Go.Proofs.Ytmjhbdmicejppaa.Pu
