import Derived.Test.YtmjhbdmicejppaaZsSo
import Derived.Test.YtmjhbdmicejppaaZsPx8
namespace Go.Proofs.Ytmjhbdmicejppaa.Pu
open Go.RowKit Go.Proofs.Ytmjhbdmicejppaa.Px Go.Proofs.YtmjhbdmicejppaaW.PrintWords Go.Proofs.YtmjhbdmicejppaaW.PrintLast Go.Proofs.YtmjhbdmicejppaaW.PrintMore
set_option linter.unusedVariables false
theorem in_l (t : List Int) (a : Int) (c : List S69) (w : List S74) (b : Int) (hc : c.length ≤ 1048576) (hcb : ∀ x ∈ c, x.f2.length ≤ 1048576) : ∀ (d i : Nat), i + d = c.length → Ev (fun k => spec_l05In.l0 k b (i : Int) t a c w) (decide (b ∈ (c.drop i).flatMap (fun x => x.f2))) := by
  intro d
  induction d with
  | zero =>
    intro i hi
    refine Ev.step (f := fun _ => some (decide (b ∈ (c.drop i).flatMap (fun x => x.f2)))) (fun k => ?_) (Ev.now _)
    simp only [spec_l05In.l0]
    rw [if_neg (by omega), List.drop_of_length_le (by omega)]
    simp
  | succ d ih =>
    intro i hi
    have hlt : i < c.length := by omega
    have hh := has_ev c[i].f2 b (by have := hcb _ (List.getElem_mem hlt); omega)
    have wr : wrap64 ((i : Int) + 1) = ((i + 1 : Nat) : Int) := by rw [wrap_in (by omega) (by omega)]; rfl
    rw [List.drop_eq_getElem_cons hlt, List.flatMap_cons]
    by_cases hm : b ∈ c[i].f2
    · rw [decide_eq_true (List.mem_append_left _ hm)]
      refine Ev.round (Lt.of hh) fun k e1 => ?_
      simp only [spec_l05In.l0, rd69_nat c i hlt, e1, Option.bind_some, decide_eq_true hm]
      rw [if_pos (by omega), if_pos (by omega), if_pos (by simp)]
    · have e : decide (b ∈ c[i].f2 ++ (c.drop (i + 1)).flatMap (fun x => x.f2)) = decide (b ∈ (c.drop (i + 1)).flatMap (fun x => x.f2)) := by
        apply decide_eq_decide.2
        rw [List.mem_append]
        exact ⟨fun h => h.elim (fun h => absurd h hm) id, .inr⟩
      rw [e]
      refine Ev.round ((Lt.of hh).and (Lt.of (ih (i + 1) (by omega)))) fun k ⟨e1, e2⟩ => ?_
      simp only [spec_l05In.l0, rd69_nat c i hlt, e1, Option.bind_some, decide_eq_false hm, wr]
      rw [if_pos (by omega), if_pos (by omega), if_neg (by simp)]
      exact e2
theorem in_ev (t : List Int) (a : Int) (c : List S69) (w : List S74) (b : Int) (ht : t.length ≤ 1048576) (hc : c.length ≤ 1048576) (hcb : ∀ x ∈ c, x.f2.length ≤ 1048576) : Ev (fun k => spec_l05In.f k t a c w b) (decide (b ∈ t) || decide (b ∈ c.flatMap (fun x => x.f2))) := by
  have hh := has_ev t b (by omega)
  by_cases hm : b ∈ t
  · refine Lt.ev (Lt.of hh) fun k e1 => ?_
    simp only [spec_l05In.f, e1, Option.bind_some, decide_eq_true hm]
    simp
  · refine Lt.ev ((Lt.of hh).and (Lt.of (in_l t a c w b hc hcb c.length 0 (by omega)))) fun k ⟨e1, e2⟩ => ?_
    simp only [spec_l05In.f, e1, Option.bind_some, decide_eq_false hm]
    rw [if_neg (by simp)]
    rw [List.drop_zero] at e2
    simpa using e2
def inV (t : List Int) (a : Int) (c : List S69) (w : List S74) (at_ b : Int) : List Int × Int × List S69 × List S74 × Bool :=
  if 0 ≤ trayAt t a c w at_ ∧ rd t (trayAt t a c w at_) = 0 ∧ 1 ≤ b ∧ ¬ (b ∈ t ∨ b ∈ c.flatMap (fun x => x.f2)) then (t.set (trayAt t a c w at_).toNat b, a, c, w, true) else (t, a, c, w, false)
theorem trayAt_in {t : List Int} {a : Int} {c : List S69} {w : List S74} {at_ : Int} (hwb : ∀ x ∈ w, x.f1.length ≤ 1048576) (h : 0 ≤ trayAt t a c w at_) : trayAt t a c w at_ < t.length := by
  unfold trayAt at h ⊢
  split at h
  · rename_i h1
    rw [if_pos h1]
    exact (tray_at (lp_Vl h1.1 hwb) h1.2.1 (by omega)).2
  · omega
theorem impl_in_ev (t : List Int) (a : Int) (c : List S69) (w : List S74) (at_ b : Int) (ht : t.length ≤ 1048576) (hf : t.length + (c.flatMap (fun x => x.f2)).length ≤ 1048576) (hc : c.length ≤ 1048576) (hcb : ∀ x ∈ c, x.f2.length ≤ 1048576) (hw : w.length ≤ 1048576) (hwb : ∀ x ∈ w, x.f1.length ≤ 1048576) : Ev (fun k => impl_Induct.f k t a c w at_ b) (inV t a c w at_ b) := by
  have hcp := icopy_ev a t c w ht hc hcb hw hwb
  have hta := impl_ta_ev t a c w at_ ht hf hwb
  have hlt := trayAt_in (t := t) (a := a) (c := c) (w := w) (at_ := at_) hwb
  have hbg := bagsOf_ev t a c w ht hc (by omega)
  have hcn := contains_ev (bagsL t c) b (by
    have := List.length_filter_le (fun x => !decide (x = 0)) t
    unfold bagsL
    rw [List.length_append]
    omega)
  unfold inV
  generalize trayAt t a c w at_ = i at hta hlt ⊢
  by_cases h1 : i < 0
  · rw [if_neg (fun hh => by omega)]
    refine Lt.ev ((Lt.of hcp).and (Lt.of hta)) fun k ⟨e1, e2⟩ => ?_
    simp only [impl_Induct.f, e1, e2, Option.bind_some]
    rw [if_pos h1]
  · have hi := hlt (by omega)
    by_cases h2 : rd t i = 0
    · by_cases h3 : b < 1
      · rw [if_neg (fun hh => by omega)]
        refine Lt.ev ((Lt.of hcp).and (Lt.of hta)) fun k ⟨e1, e2⟩ => ?_
        simp only [impl_Induct.f, e1, e2, Option.bind_some]
        rw [if_neg h1, if_pos hi, if_pos h2, if_pos h3]
      · have hmem : b ∈ bagsL t c ↔ (b ∈ t ∨ b ∈ c.flatMap (fun x => x.f2)) := by
          unfold bagsL
          rw [List.mem_append, List.mem_filter]
          have : b ≠ 0 := by omega
          simp [this]
        by_cases h4 : b ∈ bagsL t c
        · rw [if_neg (fun hh => hh.2.2.2 (hmem.1 h4))]
          refine Lt.ev ((Lt.of hcp).and ((Lt.of hta).and ((Lt.of hbg).and (Lt.of hcn)))) fun k ⟨e1, e2, e3, e4⟩ => ?_
          simp only [impl_Induct.f, e1, e2, Option.bind_some, e3, e4, decide_eq_true h4]
          rw [if_neg h1, if_pos hi, if_pos h2, if_neg h3, if_pos trivial]
        · rw [if_pos ⟨by omega, h2, by omega, fun hh => h4 (hmem.2 hh)⟩]
          refine Lt.ev ((Lt.of hcp).and ((Lt.of hta).and ((Lt.of hbg).and (Lt.of hcn)))) fun k ⟨e1, e2, e3, e4⟩ => ?_
          simp only [impl_Induct.f, e1, e2, Option.bind_some, e3, e4, decide_eq_false h4]
          rw [if_neg h1, if_pos hi, if_pos h2, if_neg h3, if_neg (by simp)]
          try rw [if_pos hi]
    · rw [if_neg (fun hh => h2 hh.2.1)]
      refine Lt.ev ((Lt.of hcp).and (Lt.of hta)) fun k ⟨e1, e2⟩ => ?_
      simp only [impl_Induct.f, e1, e2, Option.bind_some]
      rw [if_neg h1, if_pos hi, if_neg h2]
theorem spec_in_ev (t : List Int) (a : Int) (c : List S69) (w : List S74) (at_ b : Int) (ht : t.length ≤ 1048576) (hf : t.length + (c.flatMap (fun x => x.f2)).length ≤ 1048576) (hc : c.length ≤ 1048576) (hcb : ∀ x ∈ c, x.f2.length ≤ 1048576) (hw : w.length ≤ 1048576) (hwb : ∀ x ∈ w, x.f1.length ≤ 1048576) : Ev (fun k => spec_Induct.f k t a c w at_ b) (inV t a c w at_ b) := by
  have hcp := scopy_ev a t c w ht hc hcb hw hwb
  have hta := spec_ta_ev t a c w at_ ht hf hwb
  have hlt := trayAt_in (t := t) (a := a) (c := c) (w := w) (at_ := at_) hwb
  have hin := in_ev t a c w b ht hc hcb
  unfold inV
  generalize trayAt t a c w at_ = i at hta hlt ⊢
  have dead : Ev (fun k => spec_Induct.j0 k b i true t a c w) (t, a, c, w, false) := Ev.step (f := fun _ => some (t, a, c, w, false)) (fun k => by simp [spec_Induct.j0]) (Ev.now _)
  by_cases h1 : i < 0
  · rw [if_neg (fun hh => by omega)]
    refine Lt.ev ((Lt.of hcp).and ((Lt.of hta).and (Lt.of dead))) fun k ⟨e1, e2, e3⟩ => ?_
    simp only [spec_Induct.f, e1, e2, Option.bind_some]
    rw [if_pos h1]
    exact e3
  · have hi := hlt (by omega)
    by_cases h2 : rd t i = 0
    · by_cases h3 : b < 1
      · rw [if_neg (fun hh => by omega)]
        refine Lt.ev ((Lt.of hcp).and ((Lt.of hta).and (Lt.of dead))) fun k ⟨e1, e2, e3⟩ => ?_
        simp only [spec_Induct.f, e1, e2, Option.bind_some]
        rw [if_neg h1, if_pos (by omega), if_pos hi, if_pos h2, if_pos h3]
        exact e3
      · by_cases h4 : b ∈ t ∨ b ∈ c.flatMap (fun x => x.f2)
        · have e4 : (decide (b ∈ t) || decide (b ∈ c.flatMap (fun x => x.f2))) = true := by
            rcases h4 with h | h
            · rw [decide_eq_true h]; rfl
            · rw [decide_eq_true h, Bool.or_true]
          rw [e4] at hin
          rw [if_neg (fun hh => hh.2.2.2 h4)]
          refine Lt.ev ((Lt.of hcp).and ((Lt.of hta).and ((Lt.of hin).and (Lt.of dead)))) fun k ⟨e1, e2, e3, e5⟩ => ?_
          simp only [spec_Induct.f, e1, e2, Option.bind_some, e3]
          rw [if_neg h1, if_pos (by omega), if_pos hi, if_pos h2, if_neg h3]
          exact e5
        · have e4 : (decide (b ∈ t) || decide (b ∈ c.flatMap (fun x => x.f2))) = false := by
            rw [decide_eq_false (fun h => h4 (.inl h)), decide_eq_false (fun h => h4 (.inr h))]; rfl
          rw [e4] at hin
          rw [if_pos ⟨by omega, h2, by omega, h4⟩]
          have live : Ev (fun k => spec_Induct.j0 k b i false t a c w) (t.set i.toNat b, a, c, w, true) := Ev.round (Lt.of hcp) fun k e => by
            simp only [spec_Induct.j0, e, Option.bind_some]
            rw [if_neg (by simp), if_pos (by omega), if_pos hi]
          refine Lt.ev ((Lt.of hcp).and ((Lt.of hta).and ((Lt.of hin).and (Lt.of live)))) fun k ⟨e1, e2, e3, e5⟩ => ?_
          simp only [spec_Induct.f, e1, e2, Option.bind_some, e3]
          rw [if_neg h1, if_pos (by omega), if_pos hi, if_pos h2, if_neg h3]
          exact e5
    · rw [if_neg (fun hh => h2 hh.2.1)]
      refine Lt.ev ((Lt.of hcp).and ((Lt.of hta).and (Lt.of dead))) fun k ⟨e1, e2, e3⟩ => ?_
      simp only [spec_Induct.f, e1, e2, Option.bind_some]
      rw [if_neg h1, if_pos (by omega), if_pos hi, if_neg h2]
      exact e3
end Go.Proofs.Ytmjhbdmicejppaa.Pu
