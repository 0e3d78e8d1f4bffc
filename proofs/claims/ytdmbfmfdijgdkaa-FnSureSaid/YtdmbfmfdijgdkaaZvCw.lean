import Derived.Test.YtdmbfmfdijgdkaaZvAs
import Derived.Test.YtdmbfmfdijgdkaaZvPx8
import Derived.Test.YtdmbfmfdijgdkaaZvPx11
import Derived.Test.YtdmbfmfdijgdkaaZvPx12
namespace Go.Proofs.Ytdmbfmfdijgdkaa.Pu
open Go.RowKit Go.Proofs.Ytdmbfmfdijgdkaa.Px Go.Proofs.YtdmbfmfdijgdkaaW.PrintWords Go.Proofs.YtdmbfmfdijgdkaaW.PrintLast Go.Proofs.YtdmbfmfdijgdkaaW.PrintMore
set_option linter.unusedVariables false
theorem fits_same (s : List S89) (y : S89) (x : S52) : Px.fitsB s y x = fitsB s y x := by
  unfold Px.fitsB
  rw [impl_fits_eq]
  rfl
theorem sg_getD (s : List S89) (tk : List Int) : sg s tk = s.getD tk.length z89 := rd89_getD s tk.length
def okW (l : List S52) (s : List S89) (t : List Int) (j : Nat) : Prop := t.getD j 0 = (s.getD j z89).f1 ∨ ∃ x ∈ l, fitsB s (s.getD j z89) x = true ∧ t.getD j 0 = x.f0 ∧ x.f0 ∉ t.take j
theorem take_snoc_iff (t tk : List Int) (v : Int) (h : tk.length < t.length) : t.take (tk.length + 1) = tk ++ [v] ↔ t.take tk.length = tk ∧ t.getD tk.length 0 = v := by
  rw [List.take_succ_eq_append_getElem h]
  have e : t.getD tk.length 0 = t[tk.length] := by simp [h]
  rw [e]
  constructor
  · intro hh
    have := List.append_inj hh (by rw [List.length_take]; omega)
    exact ⟨this.1, by simpa using this.2⟩
  · rintro ⟨h1, h2⟩
    rw [h1, h2]
theorem mem_ways (l : List S52) (s : List S89) : ∀ (m : Nat) (tk : List Int), tk.length + m = s.length → ∀ t, t ∈ waysL l s m tk ↔ (t.length = s.length ∧ t.take tk.length = tk ∧ ∀ j, tk.length ≤ j → j < s.length → okW l s t j) := by
  intro m
  induction m with
  | zero =>
    intro tk hm t
    show t ∈ [tk] ↔ _
    rw [List.mem_singleton]
    constructor
    · rintro rfl
      exact ⟨by omega, List.take_length, fun j h1 h2 => by omega⟩
    · rintro ⟨h1, h2, _⟩
      rw [List.take_of_length_le (by omega)] at h2
      exact h2
  | succ m ih =>
    intro tk hm t
    have e : waysL l s (m + 1) tk = waysL l s m (tk ++ [(sg s tk).f1]) ++ l.flatMap (fun x => if (Px.fitsB s (sg s tk) x && !decide (x.f0 ∈ tk)) = true then waysL l s m (tk ++ [x.f0]) else []) := rfl
    have key : ∀ v, t ∈ waysL l s m (tk ++ [v]) ↔ (t.length = s.length ∧ t.take tk.length = tk ∧ t.getD tk.length 0 = v ∧ ∀ j, tk.length + 1 ≤ j → j < s.length → okW l s t j) := by
      intro v
      rw [ih (tk ++ [v]) (by simp; omega) t]
      have hl : (tk ++ [v]).length = tk.length + 1 := by simp
      rw [hl]
      constructor
      · rintro ⟨h1, h2, h3⟩
        have := (take_snoc_iff t tk v (by omega)).1 h2
        exact ⟨h1, this.1, this.2, h3⟩
      · rintro ⟨h1, h2, h3, h4⟩
        exact ⟨h1, (take_snoc_iff t tk v (by omega)).2 ⟨h2, h3⟩, h4⟩
    rw [e, List.mem_append, key, List.mem_flatMap]
    constructor
    · rintro (⟨h1, h2, h3, h4⟩ | ⟨x, hx, h⟩)
      · refine ⟨h1, h2, fun j hj1 hj2 => ?_⟩
        by_cases hj : j = tk.length
        · subst hj
          exact .inl (by rw [h3, sg_getD])
        · exact h4 j (by omega) hj2
      · split at h
        · rename_i hc
          obtain ⟨h1, h2, h3, h4⟩ := (key _).1 h
          rw [Bool.and_eq_true, fits_same, sg_getD] at hc
          refine ⟨h1, h2, fun j hj1 hj2 => ?_⟩
          by_cases hj : j = tk.length
          · subst hj
            exact .inr ⟨x, hx, hc.1, h3, by rw [h2]; simpa using hc.2⟩
          · exact h4 j (by omega) hj2
        · cases h
    · rintro ⟨h1, h2, h3⟩
      rcases h3 tk.length (Nat.le_refl _) (by omega) with h | ⟨x, hx, hf, hv, hn⟩
      · exact .inl ⟨h1, h2, by rw [h, sg_getD], fun j hj1 hj2 => h3 j (by omega) hj2⟩
      · refine .inr ⟨x, hx, ?_⟩
        rw [h2] at hn
        rw [if_pos (by rw [fits_same, sg_getD, hf, decide_eq_false hn]; rfl)]
        exact (key _).2 ⟨h1, h2, hv, fun j hj1 hj2 => h3 j (by omega) hj2⟩
theorem ways_ne (l : List S52) (s : List S89) : ∀ (m : Nat) (tk : List Int), ∃ t, t ∈ waysL l s m tk
  | 0, tk => ⟨tk, List.mem_singleton.2 rfl⟩
  | m + 1, tk => by
    obtain ⟨t, h⟩ := ways_ne l s m (tk ++ [(sg s tk).f1])
    exact ⟨t, List.mem_append_left _ h⟩
theorem ways_len (l : List S52) (s : List S89) (hl : l.length ≤ 6) : ∀ (m : Nat) (tk : List Int), (waysL l s m tk).length ≤ 7 ^ m
  | 0, tk => by simp [waysL]
  | m + 1, tk => by
    have e : waysL l s (m + 1) tk = waysL l s m (tk ++ [(sg s tk).f1]) ++ l.flatMap (fun x => if (Px.fitsB s (sg s tk) x && !decide (x.f0 ∈ tk)) = true then waysL l s m (tk ++ [x.f0]) else []) := rfl
    rw [e, List.length_append]
    have h1 := ways_len l s hl m (tk ++ [(sg s tk).f1])
    have h2 : ∀ q : List S52, (q.flatMap (fun x => if (Px.fitsB s (sg s tk) x && !decide (x.f0 ∈ tk)) = true then waysL l s m (tk ++ [x.f0]) else [])).length ≤ q.length * 7 ^ m := by
      intro q
      induction q with
      | nil => simp
      | cons x q ih =>
        rw [List.flatMap_cons, List.length_append, List.length_cons, Nat.succ_mul]
        have : (if (Px.fitsB s (sg s tk) x && !decide (x.f0 ∈ tk)) = true then waysL l s m (tk ++ [x.f0]) else []).length ≤ 7 ^ m := by
          split
          · exact ways_len l s hl m _
          · simp
        omega
    have h3 := h2 l
    have h4 : l.length * 7 ^ m ≤ 6 * 7 ^ m := Nat.mul_le_mul_right _ hl
    rw [Nat.pow_succ]
    omega
theorem cntR_succ (s : List S89) (t : List Int) (i d : Nat) : cntR s t i (d + 1) = (if (s.getD i z89).f1 = 0 ∧ t.getD i 0 ≠ 0 then 1 else 0) + cntR s t (i + 1) d := by
  unfold cntR
  rw [List.range'_succ, List.filter_cons, rd89_getD, rdI]
  by_cases h : (s.getD i z89).f1 = 0 ∧ t.getD i 0 ≠ 0
  · rw [if_pos (by simp only [h.1, h.2, decide_true, decide_false]; rfl), if_pos h, List.length_cons]
    omega
  · rw [if_neg (fun hc => h (by simpa using hc)), if_neg h]
    omega
theorem cntR_ge (s : List S89) (t : List Int) (i d : Nat) : 0 ≤ cntR s t i d ∧ cntR s t i d ≤ d := by
  unfold cntR
  have h1 := List.length_filter_le (fun (j : Nat) => decide ((rd_T89 s (j : Int)).f1 = 0) && !decide (rd t (j : Int) = 0)) (List.range' i d)
  rw [List.length_range'] at h1
  omega
theorem fold_max {α : Type} (p : α → Bool) (y : α → Int) : ∀ (l : List α) (b : Int), b ≤ l.foldl (fun b x => if p x = true then (if 0 ≤ y x ∧ b < y x + 1 then y x + 1 else b) else b) b ∧
    (∀ x ∈ l, p x = true → 0 ≤ y x → y x + 1 ≤ l.foldl (fun b x => if p x = true then (if 0 ≤ y x ∧ b < y x + 1 then y x + 1 else b) else b) b) ∧
    (l.foldl (fun b x => if p x = true then (if 0 ≤ y x ∧ b < y x + 1 then y x + 1 else b) else b) b = b ∨ ∃ x ∈ l, p x = true ∧ 0 ≤ y x ∧ l.foldl (fun b x => if p x = true then (if 0 ≤ y x ∧ b < y x + 1 then y x + 1 else b) else b) b = y x + 1) := by
  intro l
  induction l with
  | nil => intro b; exact ⟨Int.le_refl _, fun x h => (by cases h), .inl rfl⟩
  | cons a l ih =>
    intro b
    rw [List.foldl_cons]
    obtain ⟨h1, h2, h3⟩ := ih (if p a = true then (if 0 ≤ y a ∧ b < y a + 1 then y a + 1 else b) else b)
    refine ⟨?_, ?_, ?_⟩
    · refine Int.le_trans ?_ h1
      split
      · split <;> omega
      · omega
    · intro x hx hp hy
      rcases List.mem_cons.1 hx with e | hx
      · subst e
        refine Int.le_trans ?_ h1
        rw [if_pos hp]
        split <;> omega
      · exact h2 x hx hp hy
    · rcases h3 with h3 | ⟨x, hx, hp, hy, e⟩
      · rw [h3]
        by_cases hp : p a = true
        · rw [if_pos hp]
          by_cases hc : 0 ≤ y a ∧ b < y a + 1
          · rw [if_pos hc]
            exact .inr ⟨a, List.mem_cons_self, hp, hc.1, rfl⟩
          · rw [if_neg hc]
            exact .inl rfl
        · rw [if_neg hp]
          exact .inl rfl
      · exact .inr ⟨x, List.mem_cons_of_mem _ hx, hp, hy, e⟩
def canT (s : List S89) (fx av : Int) (i : Nat) (used : List Int) (x : S52) : Bool := fitsB s (s.getD i z89) x && !decide (x.f0 ∈ used) && !(decide ((i : Int) = fx) && decide (av ≠ x.f0))
def mw (l : List S52) (s : List S89) (fx av : Int) : Nat → Nat → List Int → Int
  | 0, _, _ => 0
  | m + 1, i, used => l.foldl (fun b x => if canT s fx av i used x = true then (if 0 ≤ mw l s fx av m (i + 1) (used ++ [x.f0]) ∧ b < mw l s fx av m (i + 1) (used ++ [x.f0]) + 1 then mw l s fx av m (i + 1) (used ++ [x.f0]) + 1 else b) else b) (if (i : Int) ≠ fx ∨ av = 0 then mw l s fx av m (i + 1) used else -1)
def okf (s : List S89) (fx av : Int) (i : Nat) (t : List Int) : Prop := ∀ j : Nat, i ≤ j → j < s.length → (j : Int) = fx → t.getD j 0 = av
theorem named_at (s : List S89) (i : Nat) (hi : i < s.length) : named s (s.getD i z89).f1 = true := by
  unfold named
  rw [List.any_eq_true]
  refine ⟨s[i], List.getElem_mem hi, ?_⟩
  have e : s.getD i z89 = s[i] := by simp [hi]
  rw [e]
  simp
theorem fits_in {s : List S89} {y : S89} {x : S52} (h : fitsB s y x = true) : y.f1 = 0 ∧ named s x.f0 = false ∧ x.f1 ≤ y.f0 ∧ y.f0 ≤ x.f2 := by
  unfold fitsB at h
  simp only [Bool.and_eq_true, decide_eq_true_eq, Bool.not_eq_true'] at h
  exact ⟨h.1.1.1, h.1.1.2, h.1.2, h.2⟩
theorem mw_spec (l : List S52) (s : List S89) (fx av : Int) (hb : ∀ x ∈ l, 1 ≤ x.f0) (hfx : ∀ j : Nat, j < s.length → (j : Int) = fx → (s.getD j z89).f1 = 0) : ∀ (m i : Nat) (used tk : List Int), i + m = s.length → tk.length = i → (∀ b, 1 ≤ b → named s b = false → (b ∈ tk ↔ b ∈ used)) →
    (∀ t ∈ waysL l s m tk, okf s fx av i t → cntR s t i m ≤ mw l s fx av m i used) ∧ (mw l s fx av m i used = -1 ∨ ∃ t ∈ waysL l s m tk, okf s fx av i t ∧ cntR s t i m = mw l s fx av m i used) ∧ -1 ≤ mw l s fx av m i used ∧ mw l s fx av m i used ≤ m := by
  intro m
  induction m with
  | zero =>
    intro i used tk him htk hr
    have e0 : ∀ t, cntR s t i 0 = 0 := fun t => rfl
    exact ⟨fun t _ _ => by rw [e0]; exact Int.le_refl _, .inr ⟨tk, List.mem_singleton.2 rfl, fun j h1 h2 => by omega, e0 tk⟩, (by decide : (-1 : Int) ≤ 0), (by decide : (0 : Int) ≤ 0)⟩
  | succ m ih =>
    intro i used tk him htk hr
    have hi : i < s.length := by omega
    have sgi : (sg s tk) = s.getD i z89 := by rw [sg_getD, htk]
    obtain ⟨na, nb, nc, nd⟩ := ih (i + 1) used (tk ++ [(sg s tk).f1]) (by omega) (by simp; omega) (fun b h1 h2 => by
      rw [List.mem_append, List.mem_singleton, ← hr b h1 h2]
      refine ⟨fun h => h.elim id (fun e => ?_), Or.inl⟩
      rw [e, sgi, named_at s i hi] at h2
      cases h2)
    have ch : ∀ x ∈ l, fitsB s (s.getD i z89) x = true → _ := fun x hx hf => ih (i + 1) (used ++ [x.f0]) (tk ++ [x.f0]) (by omega) (by simp; omega) (fun b h1 h2 => by
      rw [List.mem_append, List.mem_append, hr b h1 h2])
    have at_ : ∀ v t, t ∈ waysL l s m (tk ++ [v]) → t.getD i 0 = v := fun v t ht => by
      obtain ⟨h1, h2, _⟩ := (mem_ways l s m (tk ++ [v]) (by simp; omega) t).1 ht
      rw [show (tk ++ [v]).length = tk.length + 1 by simp] at h2
      rw [← htk]
      exact ((take_snoc_iff t tk v (by omega)).1 h2).2
    have fxi : (i : Int) = fx → (s.getD i z89).f1 = 0 := hfx i hi
    have eW : ∀ t, t ∈ waysL l s (m + 1) tk ↔ t ∈ waysL l s m (tk ++ [(sg s tk).f1]) ∨ ∃ x ∈ l, fitsB s (s.getD i z89) x = true ∧ x.f0 ∉ tk ∧ t ∈ waysL l s m (tk ++ [x.f0]) := fun t => by
      have e : waysL l s (m + 1) tk = waysL l s m (tk ++ [(sg s tk).f1]) ++ l.flatMap (fun x => if (Px.fitsB s (sg s tk) x && !decide (x.f0 ∈ tk)) = true then waysL l s m (tk ++ [x.f0]) else []) := rfl
      rw [e, List.mem_append, List.mem_flatMap]
      refine or_congr Iff.rfl ⟨fun ⟨x, hx, h⟩ => ?_, fun ⟨x, hx, h1, h2, h3⟩ => ⟨x, hx, ?_⟩⟩
      · split at h
        · rename_i hc
          rw [Bool.and_eq_true, fits_same, sgi] at hc
          exact ⟨x, hx, hc.1, by simpa using hc.2, h⟩
        · cases h
      · rw [if_pos (by rw [fits_same, sgi, h1, decide_eq_false h2]; rfl)]
        exact h3
    obtain ⟨f1, f2, f3⟩ := fold_max (canT s fx av i used) (fun x => mw l s fx av m (i + 1) (used ++ [x.f0])) l (if (i : Int) ≠ fx ∨ av = 0 then mw l s fx av m (i + 1) used else -1)
    have eM : mw l s fx av (m + 1) i used = l.foldl (fun b x => if canT s fx av i used x = true then (if 0 ≤ mw l s fx av m (i + 1) (used ++ [x.f0]) ∧ b < mw l s fx av m (i + 1) (used ++ [x.f0]) + 1 then mw l s fx av m (i + 1) (used ++ [x.f0]) + 1 else b) else b) (if (i : Int) ≠ fx ∨ av = 0 then mw l s fx av m (i + 1) used else -1) := rfl
    rw [eM]
    have canI : ∀ x, canT s fx av i used x = true ↔ fitsB s (s.getD i z89) x = true ∧ x.f0 ∉ used ∧ ((i : Int) = fx → av = x.f0) := fun x => by
      unfold canT
      simp only [Bool.and_eq_true, Bool.not_eq_true', decide_eq_false_iff_not, Bool.and_eq_false_iff]
      constructor
      · rintro ⟨⟨h1, h2⟩, h3⟩
        exact ⟨h1, h2, fun e => h3.elim (fun h => absurd e h) (fun h => Classical.not_not.1 h)⟩
      · rintro ⟨h1, h2, h3⟩
        refine ⟨⟨h1, h2⟩, ?_⟩
        by_cases e : (i : Int) = fx
        · exact .inr (fun h => h (h3 e))
        · exact .inl e
    refine ⟨fun t ht hok => ?_, ?_, ?_, ?_⟩
    · rcases (eW t).1 ht with h | ⟨x, hx, hf, hn, h⟩
      · have hv := at_ _ t h
        rw [sgi] at hv
        have hc0 : cntR s t i (m + 1) = cntR s t (i + 1) m := by
          rw [cntR_succ, if_neg (fun hc => hc.2 (by rw [hv]; exact hc.1))]
          omega
        rw [hc0]
        have hcond : (i : Int) ≠ fx ∨ av = 0 := by
          by_cases e : (i : Int) = fx
          · exact .inr (by rw [← hok i (Nat.le_refl _) hi e, hv]; exact fxi e)
          · exact .inl e
        rw [if_pos hcond] at f1 ⊢
        exact Int.le_trans (na t h (fun j h1 h2 => hok j (by omega) h2)) f1
      · have hv := at_ _ t h
        obtain ⟨ca, _, _, _⟩ := ch x hx hf
        have hfi := fits_in hf
        have hb1 := hb x hx
        have hc1 : cntR s t i (m + 1) = 1 + cntR s t (i + 1) m := by
          rw [cntR_succ, if_pos ⟨hfi.1, by rw [hv]; omega⟩]
        have hle := ca t h (fun j h1 h2 => hok j (by omega) h2)
        have hge := (cntR_ge s t (i + 1) m).1
        have := f2 x hx ((canI x).2 ⟨hf, fun hu => hn ((hr _ hb1 hfi.2.1).2 hu), fun e => by rw [← hv]; exact (hok i (Nat.le_refl _) hi e).symm⟩) (by omega)
        rw [hc1]
        omega
    · rcases f3 with e | ⟨x, hx, hc, h0, e⟩
      · rw [e]
        by_cases hcond : (i : Int) ≠ fx ∨ av = 0
        · rw [if_pos hcond]
          rcases nb with e1 | ⟨t, ht, hok, e1⟩
          · exact .inl e1
          · have hv := at_ _ t ht
            rw [sgi] at hv
            refine .inr ⟨t, (eW t).2 (.inl ht), fun j h1 h2 e2 => ?_, ?_⟩
            · by_cases hj : j = i
              · subst hj
                rcases hcond with h | h
                · exact absurd e2 h
                · rw [hv, fxi e2, h]
              · exact hok j (by omega) h2 e2
            · rw [cntR_succ, if_neg (fun hc => hc.2 (by rw [hv]; exact hc.1)), e1]
              omega
        · rw [if_neg hcond]
          exact .inl rfl
      · rw [e]
        obtain ⟨hf, hnu, hfa⟩ := (canI x).1 hc
        have hfi := fits_in hf
        have hb1 := hb x hx
        obtain ⟨_, cb, _, _⟩ := ch x hx hf
        rcases cb with e1 | ⟨t, ht, hok, e1⟩
        · omega
        · have hv := at_ _ t ht
          refine .inr ⟨t, (eW t).2 (.inr ⟨x, hx, hf, fun hu => hnu ((hr _ hb1 hfi.2.1).1 hu), ht⟩), fun j h1 h2 e2 => ?_, ?_⟩
          · by_cases hj : j = i
            · subst hj
              rw [hv, hfa e2]
            · exact hok j (by omega) h2 e2
          · rw [cntR_succ, if_pos ⟨hfi.1, by rw [hv]; omega⟩, e1]
            omega
    · refine Int.le_trans ?_ f1
      split <;> omega
    · rcases f3 with e | ⟨x, hx, hc, h0, e⟩
      · rw [e]
        split <;> omega
      · rw [e]
        obtain ⟨_, _, _, cd⟩ := ch x hx ((canI x).1 hc).1
        omega
end Go.Proofs.Ytdmbfmfdijgdkaa.Pu
