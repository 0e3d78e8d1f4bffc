import Derived.Test.YtmjhbdmicejppaaZrTl
namespace Go.Proofs.Ytmjhbdmicejppaa.Pu
open Go.RowKit Go.Proofs.Ytmjhbdmicejppaa.Px Go.Proofs.YtmjhbdmicejppaaW.PrintWords Go.Proofs.YtmjhbdmicejppaaW.PrintLast Go.Proofs.YtmjhbdmicejppaaW.PrintMore
set_option linter.unusedVariables false
def Met (wa : List S74) (M : Nat → Nat → Prop) (tr : List Int) (ch : List S69) : Prop :=
  ∀ j c, M j c → tr.getD j 0 ≠ 0 → (c : Int) ∈ wnt wa (tr.getD j 0) → (ch.getD c z69).f1 ≤ ((ch.getD c z69).f2.length : Int)
theorem Met.sub {wa : List S74} {M M' : Nat → Nat → Prop} {tr : List Int} {ch : List S69} (h : Met wa M tr ch) (hm : ∀ j c, M' j c → M j c) : Met wa M' tr ch := fun j c hj => h j c (hm j c hj)
theorem step1_met {wa : List S74} {M : Nat → Nat → Prop} {T : Int} {tr : List Int} {ch : List S69} (i : Nat) (hi : i < ch.length) (h0 : 0 ≤ trayV tr T ch[i].f0) (h : Met wa M tr ch) :
    Met wa (fun j c => M j c ∨ j = (trayV tr T ch[i].f0).toNat ∧ c = i) (step1 wa T tr ch i).1 (step1 wa T tr ch i).2 := by
  have hr : rd tr (trayV tr T ch[i].f0) = tr.getD (trayV tr T ch[i].f0).toNat 0 := rfl
  by_cases c1 : rd tr (trayV tr T ch[i].f0) = 0
  · rw [step1_z hi c1]
    intro j c hj hn hw
    rcases hj with hj | ⟨rfl, rfl⟩
    · exact h j c hj hn hw
    · exact absurd (hr.symm.trans c1) hn
  · by_cases c2 : (i : Int) ∈ wnt wa (rd tr (trayV tr T ch[i].f0)) ∧ (ch[i].f2.length : Int) < ch[i].f1
    · rw [step1_y hi c1 c2]
      intro j c hj hn hw
      by_cases e : (trayV tr T ch[i].f0).toNat = j
      · exfalso
        apply hn
        simp only [List.getD_eq_getElem?_getD, List.getElem?_set]
        rw [if_pos e]
        split <;> rfl
      · have ej : (tr.set (trayV tr T ch[i].f0).toNat 0).getD j 0 = tr.getD j 0 := by
          simp only [List.getD_eq_getElem?_getD, List.getElem?_set]
          rw [if_neg e]
        simp only [ej] at hn hw
        have hM : M j c := hj.elim id (fun q => absurd q.1.symm e)
        have hf := h j c hM hn hw
        by_cases ec : i = c
        · subst ec
          rw [show ch.getD i z69 = ch[i] by simp [hi]] at hf
          omega
        · simp only [List.getD_eq_getElem?_getD, List.getElem?_set] at hf ⊢
          rw [if_neg ec]
          exact hf
    · rw [step1_n hi c2]
      intro j c hj hn hw
      rcases hj with hj | ⟨rfl, rfl⟩
      · exact h j c hj hn hw
      · rw [show ch.getD c z69 = ch[c] by simp [hi]]
        rw [← hr] at hw
        have : ¬ (ch[c].f2.length : Int) < ch[c].f1 := fun hl => c2 ⟨hw, hl⟩
        omega
theorem step1_f0 (wa : List S74) (T : Int) (tr : List Int) (ch : List S69) (i c : Nat) : ((step1 wa T tr ch i).2.getD c z69).f0 = (ch.getD c z69).f0 ∧ ((step1 wa T tr ch i).2.getD c z69).f1 = (ch.getD c z69).f1 := by
  unfold step1
  split
  · exact ⟨rfl, rfl⟩
  · split
    · simp only [List.getD_eq_getElem?_getD, List.getElem?_set]
      split
      · rename_i e
        subst e
        split
        · rename_i hl
          exact ⟨rfl, rfl⟩
        · rename_i hl
          rw [List.getElem?_eq_none (by omega)]
          exact ⟨rfl, rfl⟩
      · exact ⟨rfl, rfl⟩
    · exact ⟨rfl, rfl⟩
theorem stepL_f0 (wa : List S74) (T : Int) : ∀ (d i : Nat) (tr : List Int) (ch : List S69) (c : Nat), ((stepL wa T d i tr ch).2.getD c z69).f0 = (ch.getD c z69).f0 ∧ ((stepL wa T d i tr ch).2.getD c z69).f1 = (ch.getD c z69).f1
  | 0, _, _, _, _ => ⟨rfl, rfl⟩
  | d + 1, i, tr, ch, c => ⟨(stepL_f0 wa T d (i + 1) _ _ c).1.trans (step1_f0 wa T tr ch i c).1, (stepL_f0 wa T d (i + 1) _ _ c).2.trans (step1_f0 wa T tr ch i c).2⟩
theorem trayV_eq {n : Nat} {tr : List Int} {T : Int} {ch : List S69} {wa : List S74} (h : Vl n tr T ch wa) {x : Int} (x0 : 0 ≤ x) (x1 : x < n) : trayV tr T x = (x - T) % (n : Int) := by
  have h1 := h.len
  have h2 := h.n2
  have h3 := h.n60
  have h4 := h.t0
  have h5 := h.t1
  unfold trayV
  rw [h1, wrap_in (x := x - T) (by omega) (by omega), wrap_in (by omega) (by omega), Int.tmod_eq_emod_of_nonneg (by omega), Int.add_emod_right]
theorem stepL_met {n : Nat} {wa : List S74} {T : Int} : ∀ (d i : Nat) {M : Nat → Nat → Prop} (tr : List Int) (ch : List S69), i + d = ch.length → Vl n tr T ch wa → Met wa M tr ch →
    Met wa (fun j c => M j c ∨ (j : Int) = ((ch.getD c z69).f0 - T) % (n : Int) ∧ i ≤ c ∧ c < ch.length) (stepL wa T d i tr ch).1 (stepL wa T d i tr ch).2 := by
  intro d
  induction d with
  | zero =>
    intro i M tr ch hi h hm
    refine hm.sub (fun j c hj => hj.elim id (fun q => by omega))
  | succ d ih =>
    intro i M tr ch hi h hm
    have hlt : i < ch.length := by omega
    obtain ⟨g0, g1, _, _⟩ := h.chs _ (List.getElem_mem hlt)
    obtain ⟨t0, t1⟩ := tray_in h (List.getElem_mem hlt)
    have h1 := step1_met i hlt t0 hm
    have hi1 : i + 1 + d = ch.length := by omega
    have h2 := ih (i + 1) (step1 wa T tr ch i).1 (step1 wa T tr ch i).2 (hi1.trans (step1_Vl h hlt).2.symm) (step1_Vl h hlt).1 h1
    refine h2.sub (fun j c hj => ?_)
    rcases hj with hj | ⟨e, q1, q2⟩
    · exact .inl (.inl hj)
    · by_cases ec : c = i
      · subst ec
        refine .inl (.inr ⟨?_, rfl⟩)
        rw [show ch.getD c z69 = ch[c] by simp [hlt], ← trayV_eq h g0 g1] at e
        omega
      · refine .inr ⟨?_, by omega, ?_⟩
        · rw [(step1_f0 wa T tr ch i c).1]
          exact e
        · exact Nat.lt_of_lt_of_eq q2 (step1_Vl h hlt).2.symm
theorem nxS_len {n : Nat} {tr : List Int} {T : Int} {ch : List S69} {wa : List S74} (h : Vl n tr T ch wa) : (nxS tr T ch wa).2.length = ch.length := (stepL_Vl ch.length 0 tr ch (by omega) (nx_V h)).2
theorem nxT_eq {n : Nat} {tr : List Int} {T : Int} {ch : List S69} {wa : List S74} (h : Vl n tr T ch wa) : ∃ q : Int, nxT tr T = T + 1 - n * q := by
  have h1 := h.len
  have h4 := h.t0
  have h5 := h.t1
  have h3 := h.n60
  refine ⟨(T + 1) / (n : Int), ?_⟩
  unfold nxT
  rw [h1, wrap_in (by omega) (by omega), Int.tmod_eq_emod_of_nonneg (by omega), Int.emod_def]
theorem itV_met {n : Nat} {wa : List S74} : ∀ (d : Nat) {M : Nat → Nat → Prop} (tr : List Int) (T : Int) (ch : List S69), Vl n tr T ch wa → Met wa M tr ch →
    Met wa (fun j c => M j c ∨ c < ch.length ∧ ∃ m : Nat, 1 ≤ m ∧ m ≤ d ∧ (j : Int) = ((ch.getD c z69).f0 - T - m) % (n : Int)) (itV wa d tr T ch).1 (itV wa d tr T ch).2.2 := by
  intro d
  induction d with
  | zero =>
    intro M tr T ch h hm
    refine hm.sub (fun j c hj => hj.elim id (fun ⟨_, m, q1, q2, _⟩ => by omega))
  | succ d ih =>
    intro M tr T ch h hm
    obtain ⟨q, hq⟩ := nxT_eq h
    have hm1 : Met wa M tr ch := hm
    have h1 := stepL_met ch.length 0 tr ch (by omega) (nx_V h) hm1
    have h2 := ih (nxS tr T ch wa).1 (nxT tr T) (nxS tr T ch wa).2 (nxS_V h) h1
    refine h2.sub (fun j c hj => ?_)
    rcases hj with hj | ⟨hc, m, m1, m2, e⟩
    · exact .inl (.inl hj)
    · by_cases em : m = 1
      · refine .inl (.inr ⟨?_, Nat.zero_le _, hc⟩)
        subst em
        rw [hq, show (ch.getD c z69).f0 - (T + 1 - (n : Int) * q) = (ch.getD c z69).f0 - T - 1 + n * q by omega, Int.add_mul_emod_self_left]
        exact e
      · refine .inr ⟨Nat.lt_of_lt_of_eq hc (nxS_len h).symm, m - 1, by omega, by omega, ?_⟩
        have ef : ((nxS tr T ch wa).2.getD c z69).f0 = (ch.getD c z69).f0 := (stepL_f0 wa _ _ _ tr ch c).1
        rw [ef, hq, show (ch.getD c z69).f0 - (T + 1 - (n : Int) * q) - ((m - 1 : Nat) : Int) = (ch.getD c z69).f0 - T - m + n * q by omega, Int.add_mul_emod_self_left]
        exact e
def Still (wa : List S74) (tr : List Int) (ch : List S69) : Prop := ∀ j c, c < ch.length → tr.getD j 0 ≠ 0 → (c : Int) ∈ wnt wa (tr.getD j 0) → (ch.getD c z69).f1 ≤ ((ch.getD c z69).f2.length : Int)
theorem still_step {wa : List S74} {T : Int} {tr : List Int} {ch : List S69} (h : Still wa tr ch) {i : Nat} (hi : i < ch.length) : step1 wa T tr ch i = (tr, ch) := by
  by_cases c1 : rd tr (trayV tr T ch[i].f0) = 0
  · exact step1_z hi c1
  · refine step1_n hi (fun hc => ?_)
    have := h (trayV tr T ch[i].f0).toNat i hi c1 hc.1
    rw [show ch.getD i z69 = ch[i] by simp [hi]] at this
    omega
theorem still_stepL {wa : List S74} {T : Int} {tr : List Int} {ch : List S69} (h : Still wa tr ch) : ∀ (d i : Nat), i + d = ch.length → stepL wa T d i tr ch = (tr, ch)
  | 0, _, _ => rfl
  | d + 1, i, hi => by
    show stepL wa T d (i + 1) (step1 wa T tr ch i).1 (step1 wa T tr ch i).2 = _
    rw [still_step h (i := i) (by omega)]
    exact still_stepL h d (i + 1) (by omega)
theorem still_it {wa : List S74} : ∀ (d : Nat) {tr : List Int} {T : Int} {ch : List S69}, Still wa tr ch → (itV wa d tr T ch).1 = tr ∧ (itV wa d tr T ch).2.2 = ch
  | 0, _, _, _, _ => ⟨rfl, rfl⟩
  | d + 1, tr, T, ch, h => by
    have e : nxS tr T ch wa = (tr, ch) := still_stepL h ch.length 0 (by omega)
    show (itV wa d (nxS tr T ch wa).1 (nxT tr T) (nxS tr T ch wa).2).1 = tr ∧ _
    have hd := still_it d (T := nxT tr T) h
    rw [e]
    exact ⟨hd.1, by show (itV wa d (nxS tr T ch wa).1 (nxT tr T) (nxS tr T ch wa).2).2.2 = ch; rw [e]; exact hd.2⟩
theorem itV_len {n : Nat} {wa : List S74} : ∀ (d : Nat) {tr : List Int} {T : Int} {ch : List S69}, Vl n tr T ch wa → (itV wa d tr T ch).2.2.length = ch.length
  | 0, _, _, _, _ => rfl
  | d + 1, _, _, _, h => (itV_len d (nxS_V h)).trans (nxS_len h)
theorem turn_still {n : Nat} {wa : List S74} {tr : List Int} {T : Int} {ch : List S69} (h : Vl n tr T ch wa) (d : Nat) (hd : n ≤ d) : Still wa (itV wa d tr T ch).1 (itV wa d tr T ch).2.2 := by
  have hm := itV_met d tr T ch h (M := fun _ _ => False) (fun j c hj => hj.elim)
  have hV := itV_V d h
  intro j c hc hn hw
  have hc2 : c < ch.length := Nat.lt_of_lt_of_eq hc (itV_len d h)
  have hj : j < n := by
    by_cases q : j < n
    · exact q
    · exact absurd (by rw [List.getD_eq_getElem?_getD, List.getElem?_eq_none (by rw [hV.len]; omega)]; rfl) hn
  have hn2 := h.n2
  refine hm j c (.inr ⟨hc2, (((ch.getD c z69).f0 - T - 1 - j) % (n : Int)).toNat + 1, by omega, ?_, ?_⟩) hn hw
  · have := Int.emod_lt_of_pos ((ch.getD c z69).f0 - T - 1 - j) (show (0 : Int) < n by omega)
    omega
  · have h0 := Int.emod_nonneg ((ch.getD c z69).f0 - T - 1 - j) (show (n : Int) ≠ 0 by omega)
    have e1 : (((((ch.getD c z69).f0 - T - 1 - j) % (n : Int)).toNat + 1 : Nat) : Int) = ((ch.getD c z69).f0 - T - 1 - j) % (n : Int) + 1 := by omega
    rw [e1, Int.emod_def ((ch.getD c z69).f0 - T - 1 - (j : Int)) (n : Int), show (ch.getD c z69).f0 - T - ((ch.getD c z69).f0 - T - 1 - (j : Int) - n * (((ch.getD c z69).f0 - T - 1 - j) / n) + 1) = (j : Int) + n * (((ch.getD c z69).f0 - T - 1 - j) / n) by omega, Int.add_mul_emod_self_left, Int.emod_eq_of_lt (by omega) (by omega)]
theorem turn_tr {n : Nat} {wa : List S74} {tr : List Int} {T : Int} {ch : List S69} (h : Vl n tr T ch wa) (d : Nat) (hd : n ≤ d) : (itV wa d tr T ch).1 = (itV wa n tr T ch).1 := by
  obtain ⟨e, rfl⟩ : ∃ e, d = n + e := ⟨d - n, by omega⟩
  rw [itV_add]
  exact (still_it e (turn_still h n (Nat.le_refl _))).1
theorem filter_set_perm : ∀ (l : List Int) (j : Nat), l.getD j 0 ≠ 0 → (l.filter (fun x => !decide (x = 0))).Perm (l.getD j 0 :: (l.set j 0).filter (fun x => !decide (x = 0)))
  | [], j, h => absurd (by simp) h
  | x :: l, 0, h => by
    have hx : x ≠ 0 := by simpa using h
    simp [hx]
  | x :: l, j + 1, h => by
    have ih := filter_set_perm l j (by simpa using h)
    rw [List.getD_cons_succ, List.set_cons_succ, List.filter_cons, List.filter_cons]
    split
    · exact (List.Perm.cons x ih).trans (List.Perm.swap _ _ _)
    · exact ih
theorem flat_set_perm : ∀ (c : List S69) (i : Nat) (hi : i < c.length) (b : Int) (y : S69), y.f2 = c[i].f2 ++ [b] → ((c.set i y).flatMap (fun x => x.f2)).Perm (b :: c.flatMap (fun x => x.f2))
  | [], _, hi, _, _, _ => absurd hi (Nat.not_lt_zero _)
  | x :: c, 0, _, b, y, h => by
    have h' : y.f2 = x.f2 ++ [b] := h
    rw [List.set_cons_zero, List.flatMap_cons, List.flatMap_cons, h', List.append_assoc]
    exact List.perm_middle
  | x :: c, i + 1, hi, b, y, h => by
    have ih := flat_set_perm c i (by simpa using hi) b y (by simpa using h)
    rw [List.set_cons_succ, List.flatMap_cons, List.flatMap_cons]
    exact (List.Perm.append_left x.f2 ih).trans List.perm_middle
theorem step1_perm (wa : List S74) (T : Int) (tr : List Int) (ch : List S69) (i : Nat) (hi : i < ch.length) : (bagsL (step1 wa T tr ch i).1 (step1 wa T tr ch i).2).Perm (bagsL tr ch) := by
  by_cases c1 : rd tr (trayV tr T ch[i].f0) = 0
  · rw [step1_z hi c1]
  · by_cases c2 : (i : Int) ∈ wnt wa (rd tr (trayV tr T ch[i].f0)) ∧ (ch[i].f2.length : Int) < ch[i].f1
    · rw [step1_y hi c1 c2]
      unfold bagsL
      have h1 := filter_set_perm tr (trayV tr T ch[i].f0).toNat c1
      have h2 := flat_set_perm ch i hi (rd tr (trayV tr T ch[i].f0)) ⟨ch[i].f0, ch[i].f1, ch[i].f2 ++ [rd tr (trayV tr T ch[i].f0)]⟩ rfl
      have h3 := List.Perm.append_left ((tr.set (trayV tr T ch[i].f0).toNat 0).filter (fun x => !decide (x = 0))) h2
      have h4 := List.Perm.append_right (ch.flatMap (fun x => x.f2)) h1
      exact (h3.trans List.perm_middle).trans h4.symm
    · rw [step1_n hi c2]
theorem stepL_perm {n : Nat} {wa : List S74} {T : Int} : ∀ (d i : Nat) (tr : List Int) (ch : List S69), i + d = ch.length → Vl n tr T ch wa → (bagsL (stepL wa T d i tr ch).1 (stepL wa T d i tr ch).2).Perm (bagsL tr ch)
  | 0, _, _, _, _, _ => List.Perm.refl _
  | d + 1, i, tr, ch, hi, h => by
    have hlt : i < ch.length := by omega
    have hi1 : i + 1 + d = ch.length := by omega
    exact (stepL_perm d (i + 1) _ _ (hi1.trans (step1_Vl h hlt).2.symm) (step1_Vl h hlt).1).trans (step1_perm wa T tr ch i hlt)
theorem itV_perm {n : Nat} {wa : List S74} : ∀ (d : Nat) {tr : List Int} {T : Int} {ch : List S69}, Vl n tr T ch wa → (bagsL (itV wa d tr T ch).1 (itV wa d tr T ch).2.2).Perm (bagsL tr ch)
  | 0, _, _, _, _ => List.Perm.refl _
  | d + 1, tr, T, ch, h => (itV_perm d (nxS_V h)).trans (stepL_perm ch.length 0 tr ch (by omega) (nx_V h))
theorem itV_f0 {n : Nat} {wa : List S74} : ∀ (d : Nat) {tr : List Int} {T : Int} {ch : List S69} (c : Nat), ((itV wa d tr T ch).2.2.getD c z69).f0 = (ch.getD c z69).f0 ∧ ((itV wa d tr T ch).2.2.getD c z69).f1 = (ch.getD c z69).f1
  | 0, _, _, _, _ => ⟨rfl, rfl⟩
  | d + 1, tr, T, ch, c => ⟨(itV_f0 (n := n) d c).1.trans (stepL_f0 wa _ _ _ tr ch c).1, (itV_f0 (n := n) d c).2.trans (stepL_f0 wa _ _ _ tr ch c).2⟩
end Go.Proofs.Ytmjhbdmicejppaa.Pu
