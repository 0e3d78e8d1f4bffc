import Derived.Test.YtdmbfmfdijgdkaaZvCs
import Derived.Test.YtdmbfmfdijgdkaaZvPx7
import Derived.Test.YtdmbfmfdijgdkaaZvPx8
import Derived.Test.YtdmbfmfdijgdkaaZvPx11
import Derived.Test.YtdmbfmfdijgdkaaZvPx12
import Derived.Test.YtdmbfmfdijgdkaaZvPx18
namespace Go.Proofs.Ytdmbfmfdijgdkaa.Pu
open Go.RowKit Go.Proofs.Ytdmbfmfdijgdkaa.Px Go.Proofs.YtdmbfmfdijgdkaaW.PrintWords Go.Proofs.YtdmbfmfdijgdkaaW.PrintLast Go.Proofs.YtdmbfmfdijgdkaaW.PrintMore
set_option linter.unusedVariables false
theorem ex_bags {l : List S52} (h : exOk l = true) : ∀ x ∈ l, 1 ≤ x.f0 := by
  intro x hx
  obtain ⟨j, hj, rfl⟩ := List.getElem_of_mem hx
  have := (ex_in h).2 j hj
  have e : l.getD j z52 = l[j] := by simp [hj]
  rwa [e] at this
def choices (l : List S52) (s : List S89) (a : Int) : List Int := if (exOk l && sgOk s) = true ∧ 0 ≤ a ∧ a < (s.length : Int) then (((waysL l s s.length []).foldl (stepC s (mostI l s) a) []).mergeSort fun x y => decide (x ≤ y)) else []
theorem choices_no {l : List S52} {s : List S89} {a : Int} (h : ¬ ((exOk l && sgOk s) = true ∧ 0 ≤ a ∧ a < (s.length : Int))) : choices l s a = [] := if_neg h
theorem mem_choices {l : List S52} {s : List S89} {i : Nat} (h : (exOk l && sgOk s) = true) (hi : i < s.length) : (choices l s (i : Int)).Pairwise (· < ·) ∧ ∀ v, v ∈ choices l s (i : Int) ↔ ∃ t ∈ waysL l s s.length [], cntB s t = mostI l s ∧ t.getD i 0 = v := by
  have e : choices l s (i : Int) = (((waysL l s s.length []).foldl (stepC s (mostI l s) (i : Int)) []).mergeSort fun x y => decide (x ≤ y)) := if_pos ⟨h, by omega, by omega⟩
  obtain ⟨h1, h2⟩ := fold_step s (mostI l s) (i : Int) (waysL l s s.length []) [] List.nodup_nil
  obtain ⟨h3, h4⟩ := sort_asc _ h1
  rw [e]
  refine ⟨h3, fun v => ?_⟩
  rw [h4, h2]
  constructor
  · rintro (h | ⟨t, ht, e1, e2⟩)
    · cases h
    · exact ⟨t, ht, e1, by rw [← rdI]; exact e2⟩
  · rintro ⟨t, ht, e1, e2⟩
    exact .inr ⟨t, ht, e1, by rw [rdI]; exact e2⟩
theorem way_at {l : List S52} {s : List S89} {t : List Int} (ht : t ∈ waysL l s s.length []) (i : Nat) (hi : i < s.length) : okW l s t i :=
  ((mem_ways l s s.length [] (by simp) t).1 ht).2.2 i (Nat.zero_le _) hi
theorem impl_most_ev (l : List S52) (s : List S89) (h : (exOk l && sgOk s) = true) : Ev (fun k => impl_MostAssigned.f k l s) (mostI l s) := by
  simp only [Bool.and_eq_true] at h
  have hl := (ex_in h.1).1
  have hs := (sg_in h.2).1
  have ha := are_ev l s (by omega) (by omega)
  rw [h.1, h.2] at ha
  refine Lt.ev (Lt.of ha) fun k e => ?_
  simp only [impl_MostAssigned.f, e, Option.bind_some]
  rw [if_pos (by rfl), if_pos hs]
  rfl
theorem impl_ch_ev (l : List S52) (s : List S89) (a : Int) (hl : l.length ≤ 4611686018427387904) (hs : s.length ≤ 4611686018427387904) : Ev (fun k => impl_Choices.f k l s a) (choices l s a) := by
  have ha := are_ev l s hl hs
  by_cases h : (exOk l && sgOk s) = true
  · rw [h] at ha
    by_cases h0 : a < 0
    · rw [choices_no (fun h => by omega)]
      refine Lt.ev (Lt.of ha) fun k e => ?_
      simp only [impl_Choices.f, e, Option.bind_some]
      rw [if_pos trivial, if_pos h0]
    · by_cases h1 : a ≥ (s.length : Int)
      · rw [choices_no (fun h => by omega)]
        refine Lt.ev (Lt.of ha) fun k e => ?_
        simp only [impl_Choices.f, e, Option.bind_some]
        rw [if_pos trivial, if_neg h0, if_pos h1]
      · have h' := h
        simp only [Bool.and_eq_true] at h'
        have hl6 := (ex_in h'.1).1
        have hs6 := (sg_in h'.2).1
        have hw : (waysL l s s.length []).length ≤ 1048576 := by
          have h2 := ways_len l s hl6 s.length []
          have h3 : 7 ^ s.length ≤ 7 ^ 6 := Nat.pow_le_pow_right (by decide) hs6
          have h4 : (7 : Nat) ^ 6 = 117649 := by decide
          omega
        refine Lt.ev ((Lt.of ha).and (Lt.of (impl_most_ev l s h))) fun k ⟨e, e2⟩ => ?_
        simp only [impl_Choices.f, e, e2, Option.bind_some]
        rw [if_pos trivial, if_neg h0, if_neg h1, if_pos ⟨hs6, hw⟩]
        unfold choices
        rw [if_pos ⟨h, by omega, by omega⟩]
  · rw [choices_no (fun hh => h hh.1)]
    rw [show (exOk l && sgOk s) = false from Bool.eq_false_iff.2 h] at ha
    refine Lt.ev (Lt.of ha) fun k e => ?_
    simp only [impl_Choices.f, e, Option.bind_some]
    rw [if_neg (by simp)]
theorem spec_most_ev (l : List S52) (s : List S89) (h : (exOk l && sgOk s) = true) : Ev (fun k => spec_MostAssigned.f k l s) (mostI l s) := by
  simp only [Bool.and_eq_true] at h
  have hl := (ex_in h.1).1
  have hs := (sg_in h.2).1
  have h1 := spec_ex_ev l
  have h2 := spec_sg_ev s
  rw [h.1] at h1
  rw [h.2] at h2
  rw [most_same l s (ex_bags h.1)]
  refine Lt.ev ((Lt.of h1).and ((Lt.of h2).and (Lt.of (sp_most l s hl hs (-1) 0 s.length 0 [] (by omega) (by simp))))) fun k ⟨e1, e2, e3⟩ => ?_
  have e3' : spec_l03Most.f k l s 0 [] (-1) 0 = some (mw l s (-1) 0 s.length 0 []) := e3
  simp only [spec_MostAssigned.f, e1, e2, e3', Option.bind_some]
  rw [if_pos trivial, if_pos trivial]
theorem spec_ch_ev (l : List S52) (s : List S89) (a : Int) : Ev (fun k => spec_Choices.f k l s a) (choices l s a) := by
  have no : ∀ out, Ev (fun k => spec_Choices.j0 k l s a out true) out := fun out => Ev.step (f := fun _ => some out) (fun k => by
    simp only [spec_Choices.j0]
    rw [if_pos trivial]) (Ev.now _)
  have h1 := spec_ex_ev l
  have h2 := spec_sg_ev s
  cases c1 : exOk l with
  | false =>
    rw [choices_no (fun h => by rw [c1] at h; exact absurd h.1 (by simp))]
    rw [c1] at h1
    refine Lt.ev ((Lt.of h1).and (Lt.of (no []))) fun k ⟨e1, e2⟩ => ?_
    simp only [spec_Choices.f, e1, Option.bind_some]
    rw [if_neg (by simp)]
    exact e2
  | true =>
    rw [c1] at h1
    cases c2 : sgOk s with
    | false =>
      rw [choices_no (fun h => by rw [c1, c2] at h; exact absurd h.1 (by simp))]
      rw [c2] at h2
      refine Lt.ev ((Lt.of h1).and ((Lt.of h2).and (Lt.of (no [])))) fun k ⟨e1, e2, e3⟩ => ?_
      simp only [spec_Choices.f, e1, e2, Option.bind_some]
      rw [if_pos trivial, if_neg (by simp)]
      exact e3
    | true =>
      rw [c2] at h2
      have hok : (exOk l && sgOk s) = true := by rw [c1, c2]; rfl
      by_cases h0 : a < 0
      · rw [choices_no (fun h => by omega)]
        refine Lt.ev ((Lt.of h1).and ((Lt.of h2).and (Lt.of (no [])))) fun k ⟨e1, e2, e3⟩ => ?_
        simp only [spec_Choices.f, e1, e2, Option.bind_some]
        rw [if_pos trivial, if_pos trivial, if_pos h0]
        exact e3
      · by_cases hn : a ≥ (s.length : Int)
        · rw [choices_no (fun h => by omega)]
          refine Lt.ev ((Lt.of h1).and ((Lt.of h2).and (Lt.of (no [])))) fun k ⟨e1, e2, e3⟩ => ?_
          simp only [spec_Choices.f, e1, e2, Option.bind_some]
          rw [if_pos trivial, if_pos trivial, if_neg h0, decide_eq_true hn]
          exact e3
        · have hl6 := (ex_in c1).1
          have hs6 := (sg_in c2).1
          have hb := ex_bags c1
          obtain ⟨i, rfl⟩ : ∃ i : Nat, a = (i : Int) := ⟨a.toNat, by omega⟩
          have hi : i < s.length := by omega
          obtain ⟨cp, cm⟩ := mem_choices hok hi
          obtain ⟨mm1, ⟨t0, ht0, et0⟩, mm3⟩ := most_max l s
          suffices hj : Ev (fun k => spec_Choices.j0 k l s (i : Int) [] false) (choices l s (i : Int)) by
            refine Lt.ev ((Lt.of h1).and ((Lt.of h2).and (Lt.of hj))) fun k ⟨e1, e2, e3⟩ => ?_
            simp only [spec_Choices.f, e1, e2, Option.bind_some]
            rw [if_pos trivial, if_pos trivial, if_neg h0, decide_eq_false hn]
            exact e3
          by_cases hz : (s.getD i z89).f1 = 0
          · have hfx : ∀ j : Nat, j < s.length → (j : Int) = (i : Int) → (s.getD j z89).f1 = 0 := fun j _ e => by
              have : j = i := by omega
              rw [this]; exact hz
            have good : ∀ v, ((v = 0 ∨ ∃ x ∈ l, x.f0 = v) ∧ mw l s (i : Int) v s.length 0 [] = mostI l s) ↔ v ∈ choices l s (i : Int) := by
              intro v
              obtain ⟨m1, m2, m3, m4⟩ := mw_spec l s (i : Int) v hb hfx s.length 0 [] [] (by omega) rfl (fun b _ _ => Iff.rfl)
              rw [cm]
              constructor
              · rintro ⟨_, e⟩
                rcases m2 with e2 | ⟨t, ht, hok2, e2⟩
                · omega
                · exact ⟨t, ht, by rw [cntB_eq, e2, e], hok2 i (Nat.zero_le _) hi rfl⟩
              · rintro ⟨t, ht, e1, e2⟩
                refine ⟨?_, ?_⟩
                · rcases way_at ht i hi with h | ⟨x, hx, _, h, _⟩
                  · exact .inl (by rw [← e2, h, hz])
                  · exact .inr ⟨x, hx, by rw [← e2, h]⟩
                · have := m1 t ht (fun j _ _ e => by
                    have hj : j = i := by omega
                    rw [hj, e2])
                  rw [← cntB_eq, e1] at this
                  rcases m2 with e3 | ⟨t2, ht2, _, e3⟩
                  · omega
                  · have := mm1 t2 ht2
                    rw [cntB_eq] at this
                    omega
            have hfin : ∀ r, spR l s i (mostI l s) r → r = choices l s (i : Int) := fun r hr => sorted_ext _ _ hr.1 cp (fun v => by rw [hr.2, good])
            have hm0 := sp_most l s hl6 hs6 (i : Int) 0 s.length 0 [] (by omega) (by simp)
            have hbl : ∀ x ∈ l, ¬ x.f0 ≤ 0 := fun x hx => by have := hb x hx; omega
            have start : ∀ out : List Int, out = (if mw l s (i : Int) 0 s.length 0 [] = mostI l s then [0] else []) → ∃ r, Ev (fun k => spec_Choices.l0 k l s (i : Int) out (mostI l s) 0) r ∧ spR l s i (mostI l s) r := fun out ho => by
              refine sp_ch_l0 l s hl6 hs6 hb i (mostI l s) _ 0 out (Nat.le_refl _) (Int.le_refl _) ?_ (fun v => ?_)
              · rw [ho]; split
                · exact List.pairwise_singleton _ _
                · exact List.Pairwise.nil
              · rw [ho]
                constructor
                · intro hv
                  split at hv
                  · rename_i hc
                    rw [List.mem_singleton.1 hv]
                    exact ⟨.inl rfl, hc, Int.le_refl _⟩
                  · cases hv
                · rintro ⟨hv, he, hle⟩
                  have hv0 : v = 0 := by
                    rcases hv with e | ⟨x, hx, e⟩
                    · exact e
                    · exact absurd (by omega) (hbl x hx)
                  subst hv0
                  rw [if_pos he]
                  exact List.mem_singleton.2 rfl
            by_cases hc : mw l s (i : Int) 0 s.length 0 [] = mostI l s
            · obtain ⟨r, hr, hR⟩ := start [0] (by rw [if_pos hc])
              rw [← hfin r hR]
              have hj1 : Ev (fun k => spec_Choices.j1 k l s (i : Int) [0] (mostI l s)) r := Ev.step (fun k => by simp only [spec_Choices.j1]) hr
              refine Ev.round ((Lt.of (spec_most_ev l s hok)).and ((Lt.of hm0).and (Lt.of hj1))) fun k ⟨e1, e2, e3⟩ => ?_
              have e2' : spec_l03Most.f k l s 0 [] (i : Int) 0 = some (mw l s (i : Int) 0 s.length 0 []) := e2
              simp only [spec_Choices.j0, rd89_getD, e1, e2', Option.bind_some]
              rw [if_neg (by simp), if_pos (by omega), if_pos (by omega), if_pos hz, if_pos hc, if_pos (by simp)]
              exact e3
            · obtain ⟨r, hr, hR⟩ := start [] (by rw [if_neg hc])
              rw [← hfin r hR]
              have hj1 : Ev (fun k => spec_Choices.j1 k l s (i : Int) [] (mostI l s)) r := Ev.step (fun k => by simp only [spec_Choices.j1]) hr
              refine Ev.round ((Lt.of (spec_most_ev l s hok)).and ((Lt.of hm0).and (Lt.of hj1))) fun k ⟨e1, e2, e3⟩ => ?_
              have e2' : spec_l03Most.f k l s 0 [] (i : Int) 0 = some (mw l s (i : Int) 0 s.length 0 []) := e2
              simp only [spec_Choices.j0, rd89_getD, e1, e2', Option.bind_some]
              rw [if_neg (by simp), if_pos (by omega), if_pos (by omega), if_pos hz, if_neg hc]
              exact e3
          · have hall : ∀ t ∈ waysL l s s.length [], t.getD i 0 = (s.getD i z89).f1 := fun t ht => by
              rcases way_at ht i hi with h | ⟨x, hx, hf, _, _⟩
              · exact h
              · exact absurd (fits_in hf).1 hz
            have e : [(s.getD i z89).f1] = choices l s (i : Int) := sorted_ext _ _ (List.pairwise_singleton _ _) cp (fun v => by
              rw [cm, List.mem_singleton]
              constructor
              · intro e
                exact ⟨t0, ht0, et0, by rw [hall t0 ht0, e]⟩
              · rintro ⟨t, ht, _, e⟩
                rw [← e, hall t ht])
            rw [← e]
            refine Ev.step (f := fun _ => some [(s.getD i z89).f1]) (fun k => ?_) (Ev.now _)
            simp only [spec_Choices.j0, rd89_getD]
            rw [if_neg (by simp), if_pos (by omega), if_pos (by omega), if_neg hz]
def sureAt (l : List S52) (s : List S89) (i : Nat) : Int := if (choices l s (i : Int)).length = 1 then rd (choices l s (i : Int)) 0 else -1
def sure (l : List S52) (s : List S89) : List Int := if (exOk l && sgOk s) = true then (List.range s.length).map (sureAt l s) else []
theorem range_drop (n i : Nat) (f : Nat → Int) (h : i < n) : ((List.range n).drop i).map f = f i :: ((List.range n).drop (i + 1)).map f := by
  rw [List.drop_eq_getElem_cons (by simpa using h), List.map_cons, List.getElem_range]
theorem impl_su_l (l : List S52) (s : List S89) (hl : l.length ≤ 6) (hs : s.length ≤ 6) : ∀ (d i : Nat), i + d = s.length → ∀ out : List Int, out.length = i → Ev (fun k => impl_Sure.l0 k l s out (s.length : Int) (i : Int)) (out ++ ((List.range s.length).drop i).map (sureAt l s)) := by
  intro d
  induction d with
  | zero =>
    intro i hi out ho
    rw [List.drop_of_length_le (by simp; omega)]
    refine Ev.step (f := fun _ => some (out ++ [])) (fun k => ?_) (Ev.now _)
    simp only [impl_Sure.l0]
    rw [if_neg (by omega), List.append_nil]
  | succ d ih =>
    intro i hi out ho
    have wi : wrap64 ((i : Int) + 1) = ((i + 1 : Nat) : Int) := by unfold wrap64; omega
    rw [range_drop s.length i _ (by omega)]
    have hn := ih (i + 1) (by omega) (out ++ [sureAt l s i]) (by simp; omega)
    rw [List.append_assoc, List.singleton_append] at hn
    refine Ev.round ((Lt.of (impl_ch_ev l s (i : Int) (by omega) (by omega))).and (Lt.of hn)) fun k ⟨e1, e2⟩ => ?_
    simp only [impl_Sure.l0, e1, Option.bind_some, wi]
    rw [if_pos (by omega)]
    unfold sureAt at e2
    by_cases hc : (choices l s (i : Int)).length = 1
    · rw [if_pos hc] at e2
      rw [if_pos (by omega), if_pos (by omega), if_pos (by omega)]
      rw [show sureAt l s i = rd (choices l s (i : Int)) 0 from if_pos hc]
      exact e2
    · rw [if_neg hc] at e2
      rw [if_neg (by omega), if_pos (by omega)]
      rw [show sureAt l s i = -1 from if_neg hc]
      exact e2
theorem spec_su_l (l : List S52) (s : List S89) (hs : s.length ≤ 6) : ∀ (d i : Nat), i + d = s.length → ∀ out : List Int, out.length = i → Ev (fun k => spec_Sure.l0 k l s out (i : Int)) (out ++ ((List.range s.length).drop i).map (sureAt l s)) := by
  intro d
  induction d with
  | zero =>
    intro i hi out ho
    rw [List.drop_of_length_le (by simp; omega)]
    refine Ev.step (f := fun _ => some (out ++ [])) (fun k => ?_) (Ev.now _)
    simp only [spec_Sure.l0]
    rw [if_neg (by omega), List.append_nil]
  | succ d ih =>
    intro i hi out ho
    have wi : wrap64 ((i : Int) + 1) = ((i + 1 : Nat) : Int) := by unfold wrap64; omega
    rw [range_drop s.length i _ (by omega)]
    have hn := ih (i + 1) (by omega) (out ++ [sureAt l s i]) (by simp; omega)
    rw [List.append_assoc, List.singleton_append] at hn
    refine Ev.round ((Lt.of (spec_ch_ev l s (i : Int))).and (Lt.of hn)) fun k ⟨e1, e2⟩ => ?_
    simp only [spec_Sure.l0, e1, Option.bind_some, wi]
    rw [if_pos (by omega)]
    by_cases hc : (choices l s (i : Int)).length = 1
    · rw [show sureAt l s i = rd (choices l s (i : Int)) 0 from if_pos hc] at e2 ⊢
      rw [if_pos (by omega), if_pos (by omega), if_pos (by omega)]
      exact e2
    · rw [show sureAt l s i = -1 from if_neg hc] at e2 ⊢
      rw [if_neg (by omega), if_pos (by omega)]
      exact e2
theorem impl_su_ev (l : List S52) (s : List S89) (hl : l.length ≤ 4611686018427387904) (hs : s.length ≤ 4611686018427387904) : Ev (fun k => impl_Sure.f k l s) (sure l s) := by
  have ha := are_ev l s hl hs
  by_cases h : (exOk l && sgOk s) = true
  · rw [h] at ha
    have hk := h
    simp only [Bool.and_eq_true] at hk
    have := impl_su_l l s (ex_in hk.1).1 (sg_in hk.2).1 s.length 0 (by omega) [] rfl
    rw [List.nil_append, List.drop_zero] at this
    unfold sure
    rw [if_pos h]
    refine Lt.ev ((Lt.of ha).and (Lt.of this)) fun k ⟨e1, e2⟩ => ?_
    simp only [impl_Sure.f, e1, Option.bind_some]
    rw [if_pos trivial]
    exact e2
  · rw [show (exOk l && sgOk s) = false from Bool.eq_false_iff.2 h] at ha
    unfold sure
    rw [if_neg h]
    refine Lt.ev (Lt.of ha) fun k e1 => ?_
    simp only [impl_Sure.f, e1, Option.bind_some]
    rw [if_neg (by simp)]
theorem spec_su_ev (l : List S52) (s : List S89) : Ev (fun k => spec_Sure.f k l s) (sure l s) := by
  have h1 := spec_ex_ev l
  have h2 := spec_sg_ev s
  have no : ∀ out, Ev (fun k => spec_Sure.j0 k l s out true) out := fun out => Ev.step (f := fun _ => some out) (fun k => by
    simp only [spec_Sure.j0]
    rw [if_pos trivial]) (Ev.now _)
  cases c1 : exOk l with
  | false =>
    rw [c1] at h1
    unfold sure
    rw [if_neg (by rw [c1]; simp)]
    refine Lt.ev ((Lt.of h1).and (Lt.of (no []))) fun k ⟨e1, e2⟩ => ?_
    simp only [spec_Sure.f, e1, Option.bind_some]
    rw [if_neg (by simp)]
    exact e2
  | true =>
    rw [c1] at h1
    cases c2 : sgOk s with
    | false =>
      rw [c2] at h2
      unfold sure
      rw [if_neg (by rw [c2]; simp)]
      refine Lt.ev ((Lt.of h1).and ((Lt.of h2).and (Lt.of (no [])))) fun k ⟨e1, e2, e3⟩ => ?_
      simp only [spec_Sure.f, e1, e2, Option.bind_some]
      rw [if_pos trivial]
      exact e3
    | true =>
      rw [c2] at h2
      unfold sure
      rw [if_pos (by rw [c1, c2]; rfl)]
      have := spec_su_l l s (sg_in c2).1 s.length 0 (by omega) [] rfl
      rw [List.nil_append, List.drop_zero] at this
      have hj : Ev (fun k => spec_Sure.j0 k l s [] false) ((List.range s.length).map (sureAt l s)) := Ev.round (Lt.of this) fun k e => by
        simp only [spec_Sure.j0]
        rw [if_neg (by simp)]
        exact e
      refine Lt.ev ((Lt.of h1).and ((Lt.of h2).and (Lt.of hj))) fun k ⟨e1, e2, e3⟩ => ?_
      simp only [spec_Sure.f, e1, e2, Option.bind_some]
      rw [if_pos trivial]
      exact e3
end Go.Proofs.Ytdmbfmfdijgdkaa.Pu
