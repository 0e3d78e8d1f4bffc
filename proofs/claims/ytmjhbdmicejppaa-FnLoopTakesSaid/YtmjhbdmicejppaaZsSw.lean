import Derived.Test.YtmjhbdmicejppaaZsCp
import Derived.Test.YtmjhbdmicejppaaZsMo
import Derived.Test.YtmjhbdmicejppaaZsPx5
import Derived.Test.YtmjhbdmicejppaaZsPx6
namespace Go.Proofs.Ytmjhbdmicejppaa.Pu
open Go.RowKit Go.Proofs.Ytmjhbdmicejppaa.Px Go.Proofs.YtmjhbdmicejppaaW.PrintWords Go.Proofs.YtmjhbdmicejppaaW.PrintLast Go.Proofs.YtmjhbdmicejppaaW.PrintMore
set_option linter.unusedVariables false
set_option linter.unusedSectionVars false
set_option linter.unusedSimpArgs false
def swQ (w : List S74) (x : S74) : List S74 := match w.findIdx? (fun y => y.f0 == x.f0) with
  | some i => w.set i x
  | none => w ++ [x]
def swV (t : List Int) (a : Int) (c : List S69) (w : List S74) (x : S74) : List Int × Int × List S69 × List S74 × Bool :=
  if lpOk t a c w = true ∧ lpOk t a c (swQ w x) = true then (t, a, c, swQ w x, true) else (t, a, c, w, false)
theorem swQ_small {w : List S74} {x : S74} (hwb : ∀ y ∈ w, y.f1.length ≤ 1048576) (hx : x.f1.length ≤ 1048576) : ∀ y ∈ swQ w x, y.f1.length ≤ 1048576 := fun y hy => by
  unfold swQ at hy
  split at hy
  · rcases List.mem_or_eq_of_mem_set hy with h | h
    · exact hwb y h
    · rw [h]; exact hx
  · rcases List.mem_append.1 hy with h | h
    · exact hwb y h
    · rw [List.mem_singleton.1 h]; exact hx
theorem swQ_impl (t : List Int) (a : Int) (c : List S69) (w : List S74) (b : Int) (l : List Int) (hw : w.length ≤ 1048576) : ∃ i, impl_wantOf.f t a c w b = some i ∧ impl_SetWant.q i w ⟨b, l⟩ = some (swQ w ⟨b, l⟩) := by
  have hp : vc_impl_wantOf_1_idx.p b = fun x => x.f0 == b := rfl
  simp only [impl_wantOf.f, vc_impl_wantOf_1_idx.f, Opens.idxB, hp, Option.bind_some]
  unfold swQ
  show ∃ i, _ ∧ impl_SetWant.q i w ⟨b, l⟩ = some (match w.findIdx? (fun y => y.f0 == b) with
    | some i => w.set i ⟨b, l⟩
    | none => w ++ [⟨b, l⟩])
  cases hf : w.findIdx? (fun x => x.f0 == b) with
  | none =>
    refine ⟨-1, rfl, ?_⟩
    unfold impl_SetWant.q
    rw [if_neg (by omega), if_pos (by omega)]
  | some i =>
    rw [List.findIdx?_eq_some_iff_getElem] at hf
    obtain ⟨h1, h2, h3⟩ := hf
    refine ⟨(i : Int), rfl, ?_⟩
    unfold impl_SetWant.q
    rw [if_pos (by omega), if_pos (by omega), Int.toNat_natCast]
def swG (x y : S74) : S74 := if y.f0 = x.f0 then x else y
theorem spec_sw_l (x : S74) : ∀ (d i : Nat) (w : List S74) (hv : Bool), i + d = w.length → w.length ≤ 1048576 → Ev (fun k => spec_SetWant.l0 k hv (i : Int) w x) (hv || (w.drop i).any (fun y => y.f0 == x.f0), w.take i ++ (w.drop i).map (swG x))
  | 0, i, w, hv, hi, hw => by
    rw [List.drop_of_length_le (by omega), List.take_of_length_le (by omega)]
    refine Ev.step (f := fun _ => some (hv, w)) (fun k => ?_) (by simpa using Ev.now _)
    simp only [spec_SetWant.l0]
    rw [if_neg (by omega)]
  | d + 1, i, w, hv, hi, hw => by
    have hlt : i < w.length := by omega
    have wr : wrap64 ((i : Int) + 1) = ((i + 1 : Nat) : Int) := by rw [wrap_in (by omega) (by omega)]; rfl
    rw [List.drop_eq_getElem_cons hlt]
    by_cases h : w[i].f0 = x.f0
    · have ih := spec_sw_l x d (i + 1) (w.set i x) true (by rw [List.length_set]; omega) (by rw [List.length_set]; exact hw)
      have e1 : (w.set i x).drop (i + 1) = w.drop (i + 1) := by rw [List.drop_set, if_pos (by omega)]
      have e2 : (w.set i x).take (i + 1) = w.take i ++ [x] := by
        rw [List.take_succ_eq_append_getElem (by rw [List.length_set]; exact hlt), List.take_set_of_le (Nat.le_refl _), List.getElem_set_self]
      rw [e1, e2] at ih
      simp only [List.any_cons, List.map_cons, swG, h, beq_self_eq_true, Bool.true_or, Bool.or_true]
      simp only [Bool.true_or, List.append_assoc, List.singleton_append] at ih
      refine Ev.round (Lt.of ih) fun k e => ?_
      simp only [spec_SetWant.l0, rd74_nat w i hlt, Int.toNat_natCast, wr]
      rw [if_pos (by omega), if_pos (by omega), if_pos h]
      exact e
    · have ih := spec_sw_l x d (i + 1) w hv (by omega) hw
      have e2 : w.take (i + 1) = w.take i ++ [w[i]] := List.take_succ_eq_append_getElem hlt
      rw [e2] at ih
      have hb : (w[i].f0 == x.f0) = false := by simpa using h
      simp only [List.any_cons, List.map_cons, swG, if_neg h, hb, Bool.false_or]
      simp only [List.append_assoc, List.singleton_append] at ih
      refine Ev.round (Lt.of ih) fun k e => ?_
      simp only [spec_SetWant.l0, rd74_nat w i hlt, wr]
      rw [if_pos (by omega), if_pos (by omega), if_neg h]
      exact e
theorem map_none (x : S74) : ∀ w : List S74, (∀ y ∈ w, y.f0 ≠ x.f0) → w.map (swG x) = w
  | [], _ => rfl
  | y :: w, h => by
    rw [List.map_cons, map_none x w (fun z hz => h z (List.mem_cons_of_mem _ hz))]
    unfold swG
    rw [if_neg (h y List.mem_cons_self)]
theorem map_one (x : S74) : ∀ (w : List S74) (i : Nat) (hi : i < w.length), (w.map (·.f0)).Nodup → w[i].f0 = x.f0 → w.map (swG x) = w.set i x
  | [], _, hi, _, _ => absurd hi (Nat.not_lt_zero _)
  | y :: w, 0, hi, hn, he => by
    rw [List.map_cons] at hn
    obtain ⟨h1, h2⟩ := List.nodup_cons.1 hn
    have he' : y.f0 = x.f0 := he
    rw [List.map_cons, List.set_cons_zero, map_none x w (fun z hz e => h1 (List.mem_map.2 ⟨z, hz, by rw [he', e]⟩))]
    unfold swG
    rw [if_pos he']
  | y :: w, i + 1, hi, hn, he => by
    rw [List.map_cons] at hn
    obtain ⟨h1, h2⟩ := List.nodup_cons.1 hn
    have hi' : i < w.length := by simpa using hi
    have he' : w[i].f0 = x.f0 := he
    rw [List.map_cons, List.set_cons_succ, map_one x w i hi' h2 he']
    have : ¬ y.f0 = x.f0 := fun e => h1 (List.mem_map.2 ⟨w[i], List.getElem_mem hi', by rw [he', e]⟩)
    unfold swG
    rw [if_neg this]
theorem lp_wnd {t : List Int} {a : Int} {c : List S69} {w : List S74} (h : lpOk t a c w = true) : (w.map (·.f0)).Nodup := by
  simp only [lpOk, Bool.and_eq_true] at h
  have h4 := h.2.2.2
  rw [wa_eq, Bool.and_eq_true, decide_eq_true_eq] at h4
  exact h4.2
theorem swQ_spec {w : List S74} (x : S74) (hn : (w.map (·.f0)).Nodup) (hw : w.length ≤ 1048576) : spec_SetWant.q (w.any (fun y => y.f0 == x.f0)) (w.map (swG x)) x = some (swQ w x) := by
  unfold spec_SetWant.q swQ
  cases hf : w.findIdx? (fun y => y.f0 == x.f0) with
  | none =>
    rw [List.findIdx?_eq_none_iff] at hf
    rw [show w.any (fun y => y.f0 == x.f0) = false from List.any_eq_false.2 (fun y hy => by simp [hf y hy]), if_neg (by simp), if_pos (by rw [List.length_map]; omega), map_none x w (fun y hy e => by have := hf y hy; simp [e] at this)]
  | some i =>
    rw [List.findIdx?_eq_some_iff_getElem] at hf
    obtain ⟨h1, h2, h3⟩ := hf
    rw [show w.any (fun y => y.f0 == x.f0) = true from List.any_eq_true.2 ⟨w[i], List.getElem_mem h1, h2⟩, if_pos rfl, map_one x w i h1 hn (by simpa using h2)]
section
variable (t : List Int) (a : Int) (c : List S69) (w : List S74) (b : Int) (l : List Int) (ht : t.length ≤ 1048576) (hf : t.length + (c.flatMap (fun x => x.f2)).length ≤ 1048576) (hc : c.length ≤ 1048576) (hcb : ∀ x ∈ c, x.f2.length ≤ 1048576) (hw : w.length ≤ 1048576) (hwb : ∀ x ∈ w, x.f1.length ≤ 1048576) (hl : l.length ≤ 1048576)
include ht hf hc hcb hw hwb hl
theorem impl_sw_ev : Ev (fun k => impl_SetWant.f k t a c w b l) (swV t a c w ⟨b, l⟩) := by
  obtain ⟨i, e1, e2⟩ := swQ_impl t a c w b l hw
  have hcp := icopy_ev a t c w ht hc hcb hw hwb
  have h1 := impl_lp_ev t a c w ht hf hwb
  have h2 := impl_lp_ev t a c (swQ w ⟨b, l⟩) ht hf (swQ_small hwb hl)
  unfold swV
  refine Lt.ev ((Lt.of hcp).and ((Lt.of h1).and (Lt.of h2))) fun k ⟨e3, e4, e5⟩ => ?_
  simp only [impl_SetWant.f, e3, Option.bind_some, slices_Clone_int_int.f]
  rw [if_pos (by omega)]
  simp only [Option.bind_some, e1, e2, e4, e5]
  cases lpOk t a c w with
  | false => simp
  | true =>
    cases lpOk t a c (swQ w ⟨b, l⟩) with
    | false => simp
    | true => simp
theorem spec_sw_ev : Ev (fun k => spec_SetWant.f k t a c w b l) (swV t a c w ⟨b, l⟩) := by
  have hcp := scopy_ev a t c w ht hc hcb hw hwb
  have h1 := spec_lp_ev t a c w ht hf hwb
  have h2 := spec_lp_ev t a c (swQ w ⟨b, l⟩) ht hf (swQ_small hwb hl)
  have hlo := spec_sw_l ⟨b, l⟩ w.length 0 w false (by omega) hw
  rw [List.drop_zero, List.take_zero, List.nil_append, Bool.false_or] at hlo
  unfold swV
  by_cases h : lpOk t a c w = true
  · have hq := swQ_spec (w := w) ⟨b, l⟩ (lp_wnd h) hw
    rw [h] at h1 ⊢
    refine Lt.ev ((Lt.of hcp).and ((Lt.of h1).and ((Lt.of h2).and (Lt.of hlo)))) fun k ⟨e3, e4, e5, e6⟩ => ?_
    have e6' : spec_SetWant.l0 k false 0 w ⟨b, l⟩ = some (w.any (fun y => y.f0 == b), w.map (swG ⟨b, l⟩)) := e6
    have hq' : spec_SetWant.q (w.any (fun y => y.f0 == b)) (w.map (swG ⟨b, l⟩)) ⟨b, l⟩ = some (swQ w ⟨b, l⟩) := hq
    simp only [spec_SetWant.f, e3, Option.bind_some, e4]
    rw [if_pos trivial, if_pos (by omega)]
    simp only [e6', Option.bind_some, hq', e5]
    cases lpOk t a c (swQ w ⟨b, l⟩) with
    | false => simp
    | true => simp
  · have h' : lpOk t a c w = false := by simpa using h
    rw [h'] at h1 ⊢
    refine Lt.ev ((Lt.of hcp).and (Lt.of h1)) fun k ⟨e3, e4⟩ => ?_
    simp only [spec_SetWant.f, e3, Option.bind_some, e4]
    simp
end
end Go.Proofs.Ytmjhbdmicejppaa.Pu
