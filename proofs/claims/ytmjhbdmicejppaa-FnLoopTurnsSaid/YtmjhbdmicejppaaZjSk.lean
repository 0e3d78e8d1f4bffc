import Derived.Test.YtmjhbdmicejppaaZjTl
import Derived.Test.YtmjhbdmicejppaaZjPx15
namespace Go.Proofs.Ytmjhbdmicejppaa.Pu
open Go.RowKit Go.Proofs.Ytmjhbdmicejppaa.Px Go.Proofs.YtmjhbdmicejppaaW.PrintWords Go.Proofs.YtmjhbdmicejppaaW.PrintLast Go.Proofs.YtmjhbdmicejppaaW.PrintMore
set_option linter.unusedVariables false
theorem Lt.mem {α : Type} {p : α → Nat → Prop} : ∀ (l : List α), (∀ x ∈ l, Lt (p x)) → Lt (fun n => ∀ x ∈ l, p x n)
  | [], _ => Lt.true.imp fun n _ x hx => by cases hx
  | y :: l, h => ((h y List.mem_cons_self).and (Lt.mem l (fun x hx => h x (List.mem_cons_of_mem _ hx)))).imp fun n ⟨h1, h2⟩ x hx => by
    rcases List.mem_cons.1 hx with e | e
    · rw [e]; exact h1
    · exact h2 x e
theorem pick_eq (E : List Int) : ∀ (l e : List Int), e.length = l.length → (∀ j, (e.getD j 0 = l.getD j 0 ∨ e.getD j 0 = 0) ∧ (l.getD j 0 ≠ 0 → (l.getD j 0 ∈ E ↔ e.getD j 0 = l.getD j 0))) →
    l.filter (fun z => !(decide (z = 0) || !decide (z ∈ E))) = e.filter (fun z => !decide (z = 0))
  | [], [], _, _ => rfl
  | [], _ :: _, h, _ => by simp at h
  | _ :: _, [], h, _ => by simp at h
  | x :: l, y :: e, h, hp => by
    have ih := pick_eq E l e (by simpa using h) (fun j => by simpa using hp (j + 1))
    have h0 := hp 0
    simp only [List.getD_cons_zero] at h0
    rw [List.filter_cons, List.filter_cons, ih]
    by_cases hx : x = 0
    · have hy : y = 0 := h0.1.elim (fun e => e.trans hx) id
      simp [hx, hy]
    · have h1 := h0.2 hx
      by_cases hm : x ∈ E
      · have hy : y = x := h1.1 hm
        simp [hx, hm, hy]
      · have hy : y = 0 := h0.1.elim (fun e => absurd (h1.2 e) hm) id
        simp [hx, hm, hy]
theorem sub_pick {l e : List Int} (h : Sub e l) (hn : (l.filter (fun x => !decide (x = 0))).Nodup) : l.filter (fun z => !(decide (z = 0) || !decide (z ∈ e))) = e.filter (fun z => !decide (z = 0)) := by
  refine pick_eq e l e h.1 (fun j => ⟨h.2 j, fun hx => ⟨fun hm => ?_, fun he => ?_⟩⟩)
  · obtain ⟨i, hi, hie⟩ := List.mem_iff_getElem.1 hm
    have hgi : e.getD i 0 = l.getD j 0 := by rw [List.getD_eq_getElem?_getD, List.getElem?_eq_getElem hi]; exact hie
    have hli : l.getD i 0 = l.getD j 0 := (h.2 i).elim (fun q => q.symm.trans hgi) (fun q => absurd (hgi.symm.trans q) hx)
    have hjl : j < l.length := by
      by_cases hj : j < l.length
      · exact hj
      · exact absurd (by rw [List.getD_eq_getElem?_getD, List.getElem?_eq_none (by omega)]; rfl) hx
    have hil : i < l.length := by rw [← h.1]; exact hi
    have hij : i = j := by
      have hp := List.pairwise_iff_getElem.1 (List.pairwise_filter.1 hn)
      have gi : l.getD i 0 = l[i] := by simp [hil]
      have gj : l.getD j 0 = l[j] := by simp [hjl]
      rw [gi, gj] at hli
      rw [gj] at hx
      rcases Nat.lt_trichotomy i j with q | q | q
      · exact absurd hli (hp i j hil hjl q (by rw [hli]; simpa using hx) (by simpa using hx))
      · exact q
      · exact absurd hli.symm (hp j i hjl hil q (by simpa using hx) (by rw [hli]; simpa using hx))
    rw [← hij, hgi, hij]
  · rw [← he]
    have hjl : j < e.length := by
      by_cases hj : j < e.length
      · exact hj
      · exact absurd (he.symm.trans (by rw [List.getD_eq_getElem?_getD, List.getElem?_eq_none (by omega)]; rfl)) hx
    rw [show e.getD j 0 = e[j] by simp [hjl]]
    exact List.getElem_mem hjl
def endV (w : List S74) (t : List Int) (a : Int) (c : List S69) : List Int × Int × List S69 := itV w 600 t a c
theorem endV_sub (w : List S74) (t : List Int) (a : Int) (c : List S69) : Sub (endV w t a c).1 t := itV_sub w 600 t a c
theorem endV_eq (w : List S74) (t : List Int) (a : Int) (c : List S69) (n : Nat) (hn : n = 600) : itV w n t a c = endV w t a c := by
  subst hn
  unfold endV
  exact Eq.refl _
def skV (t : List Int) (a : Int) (c : List S69) (w : List S74) : List Int :=
  if lpOk t a c w = true then (endV w t a c).1.filter (fun z => !decide (z = 0)) else []
theorem lp_nd {t : List Int} {a : Int} {c : List S69} {w : List S74} (h : lpOk t a c w = true) : (t.filter (fun x => !decide (x = 0))).Nodup :=
  (List.nodup_append.1 (lp_bags h).2).1
theorem tl_600 {t : List Int} {a : Int} {c : List S69} {w : List S74} (h : lpOk t a c w = true) : tlV t a c w 600 = ((endV w t a c).1, (endV w t a c).2.1, (endV w t a c).2.2, w) := by
  unfold tlV
  rw [if_pos ⟨h, by omega, by omega⟩, endV_eq w t a c (Int.toNat 600) (by omega)]
theorem impl_sk_ev (t : List Int) (a : Int) (c : List S69) (w : List S74) (ht : t.length ≤ 1048576) (hf : t.length + (c.flatMap (fun x => x.f2)).length ≤ 1048576) (hc : c.length ≤ 1048576) (hcb : ∀ x ∈ c, x.f2.length ≤ 1048576) (hw : w.length ≤ 1048576) (hwb : ∀ x ∈ w, x.f1.length ≤ 1048576) : Ev (fun k => impl_Stuck.f k t a c w) (skV t a c w) := by
  have hlp := impl_lp_ev t a c w ht hf hwb
  unfold skV
  by_cases h : lpOk t a c w = true
  · rw [h] at hlp
    rw [if_pos h]
    have htl := impl_tl_ev t a c w 600 ht hf hc hcb hw hwb
    rw [tl_600 h] at htl
    have hs := endV_sub w t a c
    generalize endV w t a c = E at htl hs ⊢
    have hcn := Lt.mem (p := fun x k => slices_Contains_int_int.f k E.1 x = some (decide (x ∈ E.1))) t (fun x _ => Lt.of (contains_ev E.1 x (by rw [hs.1]; exact ht)))
    refine Lt.ev ((Lt.of hlp).and ((Lt.of htl).and hcn)) fun k ⟨e1, e2, e3⟩ => ?_
    simp only [impl_Stuck.f, e1, e2, Option.bind_some, slices_Clone_int_int.f]
    rw [if_pos trivial, if_pos (by omega)]
    simp only [Option.bind_some]
    rw [if_pos (List.all_eq_true.2 (fun x hx => by rw [e3 x hx]; rfl)), ← sub_pick hs (lp_nd h)]
    congr 1
    refine List.filter_congr (fun x hx => ?_)
    simp only [impl_Stuck.p, e3 x hx, Option.getD_some]
  · have h' : lpOk t a c w = false := by simpa using h
    rw [h'] at hlp
    rw [if_neg h]
    refine Lt.ev (Lt.of hlp) fun k e1 => ?_
    simp only [impl_Stuck.f, e1, Option.bind_some]
    rw [if_neg (by simp)]
theorem spec_sk_l (t : List Int) (a : Int) (c : List S69) (w : List S74) (e : List Int) (T : Int) (ch : List S69) (he : e.length = t.length) (ht : t.length ≤ 1048576) : ∀ (d i : Nat), i + d = t.length → ∀ acc : List Int, acc.length ≤ i → Ev (fun k => spec_Stuck.l0 k acc (i : Int) t a c w e T ch w) (acc ++ (e.drop i).filter (fun z => !decide (z = 0))) := by
  intro d
  induction d with
  | zero =>
    intro i hi acc hacc
    refine Ev.step (f := fun _ => some acc) (fun k => ?_) (by rw [List.drop_of_length_le (by omega)]; simpa using Ev.now acc)
    simp only [spec_Stuck.l0]
    rw [if_neg (by omega)]
  | succ d ih =>
    intro i hi acc hacc
    have hlt : i < e.length := by omega
    have er : rd e (i : Int) = e[i] := by simp [rd, hlt]
    have wr : wrap64 ((i : Int) + 1) = ((i + 1 : Nat) : Int) := by rw [wrap_in (by omega) (by omega)]; rfl
    rw [List.drop_eq_getElem_cons hlt, List.filter_cons]
    by_cases h0 : e[i] = 0
    · rw [if_neg (by simp [h0])]
      refine Ev.step (fun k => ?_) (ih (i + 1) (by omega) acc (by omega))
      simp only [spec_Stuck.l0, er, wr]
      rw [if_pos (by omega), if_pos (by omega), if_pos (by omega), if_pos h0]
    · rw [if_pos (by simp [h0])]
      have h := ih (i + 1) (by omega) (acc ++ [e[i]]) (by rw [List.length_append]; simp; omega)
      rw [List.append_assoc] at h
      refine Ev.step (fun k => ?_) h
      simp only [spec_Stuck.l0, er, wr]
      rw [if_pos (by omega), if_pos (by omega), if_pos (by omega), if_neg h0, if_pos (by omega)]
theorem spec_sk_ev (t : List Int) (a : Int) (c : List S69) (w : List S74) (ht : t.length ≤ 1048576) (hf : t.length + (c.flatMap (fun x => x.f2)).length ≤ 1048576) (hc : c.length ≤ 1048576) (hcb : ∀ x ∈ c, x.f2.length ≤ 1048576) (hw : w.length ≤ 1048576) (hwb : ∀ x ∈ w, x.f1.length ≤ 1048576) : Ev (fun k => spec_Stuck.f k t a c w) (skV t a c w) := by
  have hlp := spec_lp_ev t a c w ht hf hwb
  unfold skV
  by_cases h : lpOk t a c w = true
  · rw [h] at hlp
    rw [if_pos h]
    have htl := spec_tl_ev t a c w 600 ht hf hc hcb hw hwb
    rw [tl_600 h] at htl
    have hs := endV_sub w t a c
    generalize endV w t a c = E at htl hs ⊢
    have hl := spec_sk_l t a c w E.1 E.2.1 E.2.2 hs.1 ht t.length 0 (by omega) [] (by simp)
    refine Lt.ev ((Lt.of hlp).and ((Lt.of htl).and (Lt.of hl))) fun k ⟨e1, e2, e3⟩ => ?_
    simp only [spec_Stuck.f, e1, e2, Option.bind_some]
    rw [if_pos trivial]
    exact e3
  · have h' : lpOk t a c w = false := by simpa using h
    rw [h'] at hlp
    rw [if_neg h]
    refine Lt.ev (Lt.of hlp) fun k e1 => ?_
    simp only [spec_Stuck.f, e1, Option.bind_some]
    rw [if_neg (by simp)]
end Go.Proofs.Ytmjhbdmicejppaa.Pu
