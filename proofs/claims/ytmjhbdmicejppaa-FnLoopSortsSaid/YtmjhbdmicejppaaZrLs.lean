import Derived.Test.YtmjhbdmicejppaaZrLg
import Derived.Test.YtmjhbdmicejppaaZrDl
import Derived.Test.YtmjhbdmicejppaaZrPx19
namespace Go.Proofs.Ytmjhbdmicejppaa.Pu
open Go.RowKit Go.Proofs.Ytmjhbdmicejppaa.Px Go.Proofs.YtmjhbdmicejppaaW.PrintWords Go.Proofs.YtmjhbdmicejppaaW.PrintLast Go.Proofs.YtmjhbdmicejppaaW.PrintMore
set_option linter.unusedVariables false
set_option linter.unusedSectionVars false
theorem lhas_l (l : List Int) (x : Int) (hn : l.length ≤ 1048576) : ∀ (d i : Nat), i + d = l.length → Ev (fun k => laws_has.l0 k l x (i : Int)) (decide (x ∈ l.drop i)) := by
  intro d
  induction d with
  | zero =>
    intro i hi
    rw [List.drop_of_length_le (by omega)]
    refine Ev.step (f := fun _ => some false) (fun k => ?_) (by simpa using Ev.now _)
    simp only [laws_has.l0]
    rw [if_neg (by omega)]
  | succ d ih =>
    intro i hi
    have hlt : i < l.length := by omega
    rw [List.drop_eq_getElem_cons hlt]
    by_cases h : l[i] = x
    · have e : decide (x ∈ l[i] :: l.drop (i + 1)) = true := decide_eq_true (by rw [h]; exact List.mem_cons_self)
      rw [e]
      refine Ev.step (f := fun _ => some true) (fun k => ?_) (Ev.now _)
      simp only [laws_has.l0]
      rw [if_pos (by omega), if_pos (by omega), rd_nat l i hlt, if_pos h]
    · have e : decide (x ∈ l[i] :: l.drop (i + 1)) = decide (x ∈ l.drop (i + 1)) := decide_eq_decide.2 ⟨fun hh => by
        rcases List.mem_cons.1 hh with e | e
        · exact absurd e.symm h
        · exact e, fun hh => List.mem_cons_of_mem _ hh⟩
      rw [e]
      refine Ev.step (fun k => ?_) (ih (i + 1) (by omega))
      simp only [laws_has.l0]
      rw [if_pos (by omega), if_pos (by omega), rd_nat l i hlt, if_neg h, wrap_in (x := (i : Int) + 1) (by omega) (by omega)]
      rfl
theorem lhas_ev (l : List Int) (x : Int) (hn : l.length ≤ 1048576) : Ev (fun k => laws_has.f k l x) (decide (x ∈ l)) :=
  Ev.congr (fun k => by simp only [laws_has.f]; rfl) (lhas_l l x hn l.length 0 (by omega))
theorem soV_true {t : List Int} {a : Int} {c : List S69} {w : List S74} {b n : Int} (h : soV t a c w b = (n, true)) :
    lpOk t a c w = true ∧ b ≠ 0 ∧ ∃ j, j < 600 ∧ n = ((j + 1 : Nat) : Int) ∧ b ∈ (itV w j t a c).1 ∧ b ∉ (itV w (j + 1) t a c).1 := by
  unfold soV at h
  by_cases q : lpOk t a c w = true ∧ b ≠ 0 ∧ b ∈ t
  · rw [if_pos q] at h
    obtain ⟨j, h1, h2, h3, h4⟩ := stepsV_true w b 600 0 t a c q.2.2 (by rw [h])
    rw [h] at h2
    exact ⟨q.1, q.2.1, j, h1, by rw [Nat.zero_add] at h2; exact h2, h3, h4⟩
  · rw [if_neg q] at h
    exact absurd (congrArg Prod.snd h) (by simp)
theorem tl_at {t : List Int} {a : Int} {c : List S69} {w : List S74} (h : lpOk t a c w = true) (s : Int) (d : Nat) (hs : s = d) (hd : d ≤ 600) : tlV t a c w s = ((itV w d t a c).1, (itV w d t a c).2.1, (itV w d t a c).2.2, w) := by
  subst hs
  unfold tlV
  rw [if_pos ⟨h, by omega, by omega⟩, Int.toNat_natCast]
def goneP (t : List Int) (a : Int) (c : List S69) (w : List S74) (b : Int) : Bool := (soV t a c w b).2 && !decide (b = 0)
theorem gone_most {t : List Int} {a : Int} {c : List S69} {w : List S74} (hwb : ∀ x ∈ w, x.f1.length ≤ 1048576) : mostS t a c w < 0 ∨ ((t.countP (goneP t a c w) : Nat) : Int) ≤ mostS t a c w := by
  unfold mostS
  by_cases h : lpOk t a c w = true
  · rw [if_pos h]
    by_cases h7 : (t.filter (fun x => !decide (x = 0))).length > 7
    · rw [if_pos h7]
      exact .inl (by omega)
    · rw [if_neg h7]
      refine .inr ?_
      obtain ⟨D, hD⟩ : ∃ D : Nat, D = 600 := ⟨600, rfl⟩
      have hg := gone_le h hwb D (fun b => (soV t a c w b).2) (fun b hb h0 hp => by
        have hp' : soV t a c w b = ((soV t a c w b).1, true) := Prod.ext rfl hp
        obtain ⟨_, _, j, h1, _, _, h4⟩ := soV_true hp'
        exact it_gone w b h0 (j + 1) D (by omega) t a c h4)
      rw [List.countP_filter] at hg
      exact hg
  · rw [if_neg h]
    exact .inl (by omega)
section
variable (t : List Int) (a : Int) (c : List S69) (w : List S74) (ht : t.length ≤ 1048576) (hf : t.length + (c.flatMap (fun x => x.f2)).length ≤ 1048576) (hc : c.length ≤ 1048576) (hcb : ∀ x ∈ c, x.f2.length ≤ 1048576) (hw : w.length ≤ 1048576) (hwb : ∀ x ∈ w, x.f1.length ≤ 1048576)
include ht hf hc hcb hw hwb
theorem sorts_left (g i : Nat) (hg : g ≤ i) (hi : i < t.length) (n : Int) (h : soV t a c w t[i] = (n, true)) (nx : Ev (fun k => laws_FnLoopSorts.l0 k ((g + 1 : Nat) : Int) ((i + 1 : Nat) : Int) t a c w) true) : Ev (fun k => laws_FnLoopSorts.j1 k (g : Int) (i : Int) t[i] n true false t a c w) true := by
  obtain ⟨hl, h0, j, j6, hn, m1, m2⟩ := soV_true h
  have hV := lp_Vl hl hwb
  have hn60 := hV.n60
  have jl : j < t.length := by
    by_cases q : j < t.length
    · exact q
    · rw [turn_tr hV (j + 1) (by omega), ← turn_tr hV j (by omega)] at m2
      exact absurd m1 m2
  have hE := impl_tl_ev t a c w n ht hf hc hcb hw hwb
  rw [tl_at hl n (j + 1) hn (by omega)] at hE
  have hZ := impl_tl_ev t a c w (wrap64 (n - 1)) ht hf hc hcb hw hwb
  rw [tl_at hl (wrap64 (n - 1)) j (by rw [hn, wrap_in (by omega) (by omega)]; omega) (by omega)] at hZ
  have hh1 := lhas_ev (itV w (j + 1) t a c).1 t[i] (by have := (itV_V (j + 1) hV).len; omega)
  have hh2 := lhas_ev (itV w j t a c).1 t[i] (by have := (itV_V j hV).len; omega)
  rw [decide_eq_false m2] at hh1
  rw [decide_eq_true m1] at hh2
  have wr : wrap64 ((i : Int) + 1) = ((i + 1 : Nat) : Int) := by rw [wrap_in (by omega) (by omega)]; rfl
  have wg : wrap64 ((g : Int) + 1) = ((g + 1 : Nat) : Int) := by rw [wrap_in (by omega) (by omega)]; rfl
  have j3 : Ev (fun k => laws_FnLoopSorts.j3 k ((g + 1 : Nat) : Int) (i : Int) false t a c w) true := Ev.round (Lt.of nx) fun k e => by
    simp only [laws_FnLoopSorts.j3, wr]
    rw [if_neg (by simp)]
    exact e
  clear m1 m2 hV
  have dn : decide (n > (t.length : Int)) = false := decide_eq_false (by omega)
  have j2 : Ev (fun k => laws_FnLoopSorts.j2 k (g : Int) (i : Int) t[i] n false t a c w) true := Ev.round ((Lt.of hE).and ((Lt.of hZ).and ((Lt.of hh1).and ((Lt.of hh2).and (Lt.of j3))))) fun k ⟨e1, e2, e3, e4, e5⟩ => by
    simp only [laws_FnLoopSorts.j2, e1, e2, Option.bind_some, e3, e4, wg, dn]
    rw [if_neg (by simp), if_neg (by simp), if_pos trivial, if_neg (by omega)]
    exact e5
  refine Ev.round (Lt.of j2) fun k e => ?_
  simp only [laws_FnLoopSorts.j1, Bool.not_true]
  rw [if_neg (by simp), if_neg h0]
  exact e
theorem sorts_skip (g i : Nat) (hi : i < t.length) (n b : Int) (nx : Ev (fun k => laws_FnLoopSorts.l0 k (g : Int) ((i + 1 : Nat) : Int) t a c w) true) : Ev (fun k => laws_FnLoopSorts.j1 k (g : Int) (i : Int) b n false false t a c w) true := by
  have wr : wrap64 ((i : Int) + 1) = ((i + 1 : Nat) : Int) := by rw [wrap_in (by omega) (by omega)]; rfl
  have j2 : Ev (fun k => laws_FnLoopSorts.j2 k (g : Int) (i : Int) b n true t a c w) true := Ev.round (Lt.of nx) fun k e => by
    simp only [laws_FnLoopSorts.j2, wr]
    rw [if_pos trivial]
    exact e
  refine Ev.round (Lt.of j2) fun k e => ?_
  simp only [laws_FnLoopSorts.j1, Bool.not_false]
  rw [if_neg (by simp)]
  by_cases h0 : b = 0
  · rw [if_pos h0]
    exact e
  · rw [if_neg h0]
    exact e
theorem sorts_l : ∀ (d i : Nat), i + d = t.length → ∀ g : Nat, g ≤ i → g + (t.drop i).countP (goneP t a c w) = t.countP (goneP t a c w) → Ev (fun k => laws_FnLoopSorts.l0 k (g : Int) (i : Int) t a c w) true := by
  intro d
  induction d with
  | zero =>
    intro i hi g hg hk
    have h1 := impl_ms_ev t a c w ht hf hwb
    have h2 := spec_ms_ev t a c w ht hf hwb
    have hm := gone_most (t := t) (a := a) (c := c) hwb
    rw [List.drop_of_length_le (by omega), List.countP_nil, Nat.add_zero] at hk
    rw [← hk] at hm
    generalize mostS t a c w = m at h1 h2 hm
    refine Ev.round ((Lt.of h1).and (Lt.of h2)) fun k ⟨e1, e2⟩ => ?_
    simp only [laws_FnLoopSorts.l0, e1, e2, Option.bind_some]
    rw [if_neg (by omega), if_pos trivial]
    by_cases q : m < 0
    · rw [if_pos q]
    · rw [if_neg q, decide_eq_true (by omega)]
  | succ d ih =>
    intro i hi g hg hk
    have hlt : i < t.length := by omega
    have er : rd t (i : Int) = t[i] := by simp [rd, hlt]
    have h1 := impl_so_ev t a c w t[i] ht hf hwb
    have h2 := spec_so_ev t a c w t[i] ht hf hwb
    rw [List.drop_eq_getElem_cons hlt] at hk
    rcases hv : soV t a c w t[i] with ⟨n, ok⟩
    cases ok with
    | true =>
      obtain ⟨_, h0, _⟩ := soV_true hv
      rw [List.countP_cons_of_pos (by unfold goneP; rw [hv]; simp [h0])] at hk
      have nx := sorts_left t a c w ht hf hc hcb hw hwb g i hg hlt n hv (ih (i + 1) (by omega) (g + 1) (by omega) (by omega))
      rw [hv] at h1 h2
      refine Ev.round ((Lt.of h1).and ((Lt.of h2).and (Lt.of nx))) fun k ⟨e1, e2, e3⟩ => ?_
      simp only [laws_FnLoopSorts.l0, er, e1, e2, Option.bind_some]
      rw [if_pos (by omega), if_pos (by omega), if_neg (by simp), if_pos trivial, if_pos trivial, show (t[i] == 0) = false by simpa using h0]
      exact e3
    | false =>
      rw [List.countP_cons_of_neg (by unfold goneP; rw [hv]; simp)] at hk
      have nx := sorts_skip t a c w ht hf hc hcb hw hwb g i hlt n t[i] (ih (i + 1) (by omega) g (by omega) hk)
      rw [hv] at h1 h2
      refine Ev.round ((Lt.of h1).and ((Lt.of h2).and (Lt.of nx))) fun k ⟨e1, e2, e3⟩ => ?_
      simp only [laws_FnLoopSorts.l0, er, e1, e2, Option.bind_some]
      rw [if_pos (by omega), if_pos (by omega), if_neg (by simp), if_pos trivial, if_neg (by simp)]
      exact e3
end
theorem flat_one (c : List S69) (h : SmC c) : (c.flatMap (fun x => x.f2)).length ≤ c.length := by
  induction c with
  | nil => simp
  | cons x c ih =>
    have h1 := ih (fun y hy => h y (List.mem_cons_of_mem _ hy))
    have h2 := h x List.mem_cons_self
    rw [List.flatMap_cons, List.length_append, List.length_cons]
    omega
theorem loopSorts (l : List Int) : ∃ k, laws_FnLoopSorts.f k l = some true := by
  by_cases hb : (l.length : Int) > 1048576
  · refine ⟨0, ?_⟩
    simp only [laws_FnLoopSorts.f, laws_big.f, Option.bind_some, decide_eq_true hb]
    rw [if_pos trivial]
  · obtain ⟨t, a, c, w, hd, ht, hc, hcs, hw, hws⟩ := drawLoop_ev l (by omega)
    have hfl := flat_one c hcs
    have main := sorts_l t a c w (by omega) (by omega) (by omega) (fun x hx => Nat.le_trans (hcs x hx) (by omega)) (by omega) (fun x hx => Nat.le_trans (hws x hx) (by omega)) t.length 0 (by omega) 0 (by omega) (by simp)
    refine Lt.get ((Lt.of hd).and (Lt.of main)) fun k ⟨e, e1⟩ => ?_
    simp only [laws_FnLoopSorts.f, laws_big.f, Option.bind_some, decide_eq_false hb, e]
    rw [if_neg (by simp)]
    exact e1
end Go.Proofs.Ytmjhbdmicejppaa.Pu
