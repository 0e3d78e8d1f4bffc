import Derived.Test.YtdmbfmfdijgdkaaZvEx
import Derived.Test.YtdmbfmfdijgdkaaZvDr
import Derived.Test.YtdmbfmfdijgdkaaZvPx1
import Derived.Test.YtdmbfmfdijgdkaaZvPx7
import Derived.Test.YtdmbfmfdijgdkaaZvPx8
import Derived.Test.YtdmbfmfdijgdkaaZvPx16
import Derived.Test.YtdmbfmfdijgdkaaZvPx0
import Derived.Test.YtdmbfmfdijgdkaaZvPx6
import Derived.Test.YtdmbfmfdijgdkaaZvPx26
namespace Go.Proofs.Ytdmbfmfdijgdkaa.Pu
open Go.RowKit Go.Proofs.Ytdmbfmfdijgdkaa.Px Go.Proofs.YtdmbfmfdijgdkaaW.PrintWords Go.Proofs.YtdmbfmfdijgdkaaW.PrintLast Go.Proofs.YtdmbfmfdijgdkaaW.PrintMore
set_option linter.unusedVariables false
theorem rdI (f : List Int) (i : Nat) : rd f (i : Int) = f.getD i 0 := by simp [rd]
theorem idx_l (l : List Int) (x : Int) (hn : l.length ≤ 4611686018427387904) : ∀ (d i : Nat), i + d = l.length → ∃ t : Int, Ev (fun k => slices_Index_int_int.l0 k l x (l.length : Int) (i : Int)) t ∧ decide (t ≥ 0) = decide (x ∈ l.drop i) := by
  intro d
  induction d with
  | zero =>
    intro i hi
    rw [List.drop_of_length_le (by omega)]
    refine ⟨-1, Ev.step (f := fun _ => some (-1)) (fun k => ?_) (Ev.now _), by simp⟩
    simp only [slices_Index_int_int.l0]
    rw [if_neg (by omega)]
  | succ d ih =>
    intro i hi
    have hlt : i < l.length := by omega
    rw [List.drop_eq_getElem_cons hlt]
    by_cases h : x = l[i]
    · refine ⟨(i : Int), Ev.step (f := fun _ => some (i : Int)) (fun k => ?_) (Ev.now _), ?_⟩
      · simp only [slices_Index_int_int.l0]
        rw [if_pos (by omega), if_pos (by omega), if_pos (by omega), rd_nat l i hlt, if_pos h]
      · rw [decide_eq_true (show (i : Int) ≥ 0 by omega), decide_eq_true (show x ∈ l[i] :: l.drop (i + 1) by rw [← h]; exact List.mem_cons_self)]
    · obtain ⟨t, e, ht⟩ := ih (i + 1) (by omega)
      refine ⟨t, Ev.step (fun k => ?_) e, ?_⟩
      · simp only [slices_Index_int_int.l0]
        rw [if_pos (by omega), if_pos (by omega), if_pos (by omega), rd_nat l i hlt, if_neg h, wrap_in (x := (i : Int) + 1) (by omega) (by omega)]
        rfl
      · rw [ht]
        exact decide_eq_decide.2 ⟨fun hh => List.mem_cons_of_mem _ hh, fun hh => by
          rcases List.mem_cons.1 hh with e | e
          · exact absurd e h
          · exact e⟩
theorem con_ev (l : List Int) (x : Int) (hn : l.length ≤ 4611686018427387904) : Ev (fun k => slices_Contains_int_int.f k l x) (decide (x ∈ l)) := by
  obtain ⟨t, e, ht⟩ := idx_l l x hn l.length 0 (by omega)
  rw [List.drop_zero] at ht
  rw [← ht]
  refine Lt.ev (Lt.of e) fun k e => ?_
  have e' : slices_Index_int_int.l0 k l x (l.length : Int) 0 = some t := e
  simp only [slices_Contains_int_int.f, slices_Index_int_int.f, e']
  rfl
theorem has_l (l : List Int) (x : Int) (hn : l.length ≤ 4611686018427387904) : ∀ (d i : Nat), i + d = l.length → Ev (fun k => spec_l03Has.l0 k l x (i : Int)) (decide (x ∈ l.drop i)) ∧ Ev (fun k => laws_has.l0 k l x (i : Int)) (decide (x ∈ l.drop i)) := by
  intro d
  induction d with
  | zero =>
    intro i hi
    rw [List.drop_of_length_le (by omega)]
    refine ⟨Ev.step (f := fun _ => some false) (fun k => ?_) (by simpa using Ev.now _), Ev.step (f := fun _ => some false) (fun k => ?_) (by simpa using Ev.now _)⟩
    · simp only [spec_l03Has.l0]
      rw [if_neg (by omega)]
    · simp only [laws_has.l0]
      rw [if_neg (by omega)]
  | succ d ih =>
    intro i hi
    have hlt : i < l.length := by omega
    rw [List.drop_eq_getElem_cons hlt]
    by_cases h : l[i] = x
    · have e : decide (x ∈ l[i] :: l.drop (i + 1)) = true := decide_eq_true (by rw [h]; exact List.mem_cons_self)
      rw [e]
      refine ⟨Ev.step (f := fun _ => some true) (fun k => ?_) (Ev.now _), Ev.step (f := fun _ => some true) (fun k => ?_) (Ev.now _)⟩
      · simp only [spec_l03Has.l0]
        rw [if_pos (by omega), if_pos (by omega), rd_nat l i hlt, if_pos h]
      · simp only [laws_has.l0]
        rw [if_pos (by omega), if_pos (by omega), rd_nat l i hlt, if_pos h]
    · have e : decide (x ∈ l[i] :: l.drop (i + 1)) = decide (x ∈ l.drop (i + 1)) := decide_eq_decide.2 ⟨fun hh => by
        rcases List.mem_cons.1 hh with e | e
        · exact absurd e.symm h
        · exact e, fun hh => List.mem_cons_of_mem _ hh⟩
      rw [e]
      obtain ⟨a, b⟩ := ih (i + 1) (by omega)
      refine ⟨Ev.step (fun k => ?_) a, Ev.step (fun k => ?_) b⟩
      · simp only [spec_l03Has.l0]
        rw [if_pos (by omega), if_pos (by omega), rd_nat l i hlt, if_neg h, wrap_in (x := (i : Int) + 1) (by omega) (by omega)]
        rfl
      · simp only [laws_has.l0]
        rw [if_pos (by omega), if_pos (by omega), rd_nat l i hlt, if_neg h, wrap_in (x := (i : Int) + 1) (by omega) (by omega)]
        rfl
theorem has_ev (l : List Int) (x : Int) (hn : l.length ≤ 4611686018427387904) : Ev (fun k => spec_l03Has.f k l x) (decide (x ∈ l)) :=
  Ev.congr (fun k => by simp only [spec_l03Has.f]; rfl) (has_l l x hn l.length 0 (by omega)).1
def named (s : List S89) (b : Int) : Bool := s.any (fun y => y.f1 == b)
def fitsB (s : List S89) (y : S89) (x : S52) : Bool := decide (y.f1 = 0) && !named s x.f0 && decide (x.f1 ≤ y.f0) && decide (y.f0 ≤ x.f2)
theorem impl_fits_eq (s : List S89) (y : S89) (x : S52) : impl_fits.f s y.f0 y.f1 x.f0 x.f1 x.f2 = some (fitsB s y x) := by
  have hn : impl_isNamed.f s x.f0 = some (named s x.f0) := rfl
  simp only [impl_fits.f, hn, fitsB, Option.bind_some]
  by_cases h : y.f1 = 0
  · rw [if_pos h, decide_eq_true h]
    cases named s x.f0 with
    | true => rfl
    | false =>
      by_cases h1 : y.f0 ≥ x.f1
      · rw [if_neg (by simp), if_pos h1, decide_eq_true (show x.f1 ≤ y.f0 from h1)]
        rfl
      · rw [if_neg (by simp), if_neg h1, decide_eq_false (show ¬ x.f1 ≤ y.f0 from h1)]
        rfl
  · rw [if_neg h, decide_eq_false h]
    rfl
theorem spec_fits_l (l : List S52) (s : List S89) (i j : Nat) (hi : i < s.length) (hj : j < l.length) (hs : s.length ≤ 6) : ∀ (d m : Nat), m + d = s.length → (∀ k, k < m → (s.getD k z89).f1 ≠ (l.getD j z52).f0) →
    Ev (fun k => spec_l03Fits.l0 k l s (i : Int) (j : Int) (m : Int)) (fitsB s (s.getD i z89) (l.getD j z52)) := by
  intro d
  induction d with
  | zero =>
    intro m hm h
    have hnn : named s (l.getD j z52).f0 = false := by
      unfold named
      rw [List.any_eq_false]
      intro y hy
      obtain ⟨k, hk, rfl⟩ := List.getElem_of_mem hy
      have := h k (by omega)
      have e : s.getD k z89 = s[k] := by simp [hk]
      rw [e] at this
      simpa using this
    refine Ev.step (f := fun _ => some (fitsB s (s.getD i z89) (l.getD j z52))) (fun k => ?_) (Ev.now _)
    simp only [spec_l03Fits.l0, rd89_getD, rd52_getD, fitsB, hnn]
    rw [if_neg (by omega), if_pos (by omega), if_pos (by omega)]
    by_cases c : (s.getD i z89).f1 = 0
    · rw [if_pos c, if_pos (by omega), if_pos (by omega), decide_eq_true c]
      simp only [spec_l01In.f]
      by_cases c1 : (s.getD i z89).f0 ≥ (l.getD j z52).f1
      · rw [if_pos c1, decide_eq_true (show (l.getD j z52).f1 ≤ (s.getD i z89).f0 from c1)]
        rfl
      · rw [if_neg c1, decide_eq_false (show ¬ (l.getD j z52).f1 ≤ (s.getD i z89).f0 from c1)]
        rfl
    · rw [if_neg c, decide_eq_false c]
      rfl
  | succ d ih =>
    intro m hm h
    by_cases e : (s.getD m z89).f1 = (l.getD j z52).f0
    · have hnn : named s (l.getD j z52).f0 = true := by
        unfold named
        rw [List.any_eq_true]
        have hml : m < s.length := by omega
        refine ⟨s[m], List.getElem_mem hml, ?_⟩
        have e2 : s.getD m z89 = s[m] := by simp [hml]
        rw [e2] at e
        simpa using e
      have ef : fitsB s (s.getD i z89) (l.getD j z52) = false := by
        simp only [fitsB, hnn, Bool.not_true, Bool.and_false, Bool.false_and]
      rw [ef]
      refine Ev.step (f := fun _ => some false) (fun k => ?_) (Ev.now _)
      simp only [spec_l03Fits.l0, rd89_getD, rd52_getD]
      rw [if_pos (by omega), if_pos (by omega), if_pos (by omega), if_pos (by omega), if_pos e]
    · refine Ev.step (fun k => ?_) (ih (m + 1) (by omega) (fun k hk => by
        by_cases hkm : k = m
        · subst hkm; exact e
        · exact h k (by omega)))
      simp only [spec_l03Fits.l0, rd89_getD, rd52_getD]
      rw [if_pos (by omega), if_pos (by omega), if_pos (by omega), if_pos (by omega), if_neg e, wrap_in (x := (m : Int) + 1) (by omega) (by omega)]
      rfl
theorem spec_fits_ev (l : List S52) (s : List S89) (i j : Nat) (hi : i < s.length) (hj : j < l.length) (hs : s.length ≤ 6) : Ev (fun k => spec_l03Fits.f k l s (i : Int) (j : Int)) (fitsB s (s.getD i z89) (l.getD j z52)) :=
  Ev.congr (fun k => by simp only [spec_l03Fits.f]; rfl) (spec_fits_l l s i j hi hj hs s.length 0 (by omega) (fun k hk => by omega))
def bet (x e : S52) : Bool := decide (e.f0 = 0) || decide (x.f2 < e.f2) || (decide (x.f2 = e.f2) && decide (x.f0 < e.f0))
def okB (s : List S89) (y : S89) (out : List Int) (x : S52) : Bool := fitsB s y x && !decide (x.f0 ∈ out)
def stepB (s : List S89) (y : S89) (out : List Int) (e x : S52) : S52 := if okB s y out x = true ∧ bet x e = true then x else e
def bestB (l : List S52) (s : List S89) (y : S89) (out : List Int) : S52 := l.foldl (stepB s y out) ⟨0, 0, 0⟩
def asg (l : List S52) (s : List S89) : List S89 → List Int → List Int
  | [], out => out
  | y :: r, out => asg l s r (out ++ [mx y.f1 (bestB l s y out).f0])
theorem impl_as_l1 (l : List S52) (s : List S89) (i : Nat) (hi : i < s.length) (hl : l.length ≤ 6) (hs : s.length ≤ 6) (out : List Int) (ho : out.length ≤ 100) (r : List Int) :
    ∀ (d j : Nat), j + d = l.length → ∀ e : S52, Ev (fun k => impl_Assign.l0 k l s (out ++ [mx (s.getD i z89).f1 ((l.drop j).foldl (stepB s (s.getD i z89) out) e).f0]) s (s.length : Int) ((i : Int) + 1)) r →
      Ev (fun k => impl_Assign.l1 k l s out s (s.length : Int) (i : Int) l (l.length : Int) (j : Int) (s.getD i z89).f0 (s.getD i z89).f1 e.f0 e.f1 e.f2) r := by
  intro d
  induction d with
  | zero =>
    intro j hj e h
    rw [List.drop_of_length_le (by omega)] at h
    refine Ev.step (fun k => ?_) h
    simp only [impl_Assign.l1]
    rw [if_neg (by omega), if_pos (by omega), wrap_in (x := (i : Int) + 1) (by omega) (by omega)]
    rfl
  | succ d ih =>
    intro j hj e h
    have hjl : j < l.length := by omega
    have ej : rd_T52 l (j : Int) = l[j] := by rw [rd52_getD]; simp [hjl]
    rw [List.drop_eq_getElem_cons hjl, List.foldl_cons] at h
    generalize hx : l[j] = x at ej h
    have next := ih (j + 1) (by omega) (stepB s (s.getD i z89) out e x) h
    have hcon := con_ev out x.f0 (by omega)
    have j3t : okB s (s.getD i z89) out x = true → bet x e = true → Ev (fun k => impl_Assign.j3 k l s out s (s.length : Int) (i : Int) l (l.length : Int) (j : Int) true (s.getD i z89).f0 (s.getD i z89).f1 e.f0 e.f1 e.f2 x.f0 x.f1 x.f2) r := by
      intro h1 h2
      have es : stepB s (s.getD i z89) out e x = x := by unfold stepB; rw [if_pos ⟨h1, h2⟩]
      rw [es] at next
      refine Ev.step (fun k => ?_) next
      simp only [impl_Assign.j3]
      rw [if_pos trivial, wrap_in (x := (j : Int) + 1) (by omega) (by omega)]
      rfl
    have stay : ¬ (okB s (s.getD i z89) out x = true ∧ bet x e = true) → stepB s (s.getD i z89) out e x = e := fun hh => by unfold stepB; rw [if_neg hh]
    have j3f : bet x e = false → Ev (fun k => impl_Assign.j3 k l s out s (s.length : Int) (i : Int) l (l.length : Int) (j : Int) false (s.getD i z89).f0 (s.getD i z89).f1 e.f0 e.f1 e.f2 x.f0 x.f1 x.f2) r := by
      intro h2
      rw [stay (fun hh => by rw [h2] at hh; simp at hh)] at next
      refine Ev.step (fun k => ?_) next
      simp only [impl_Assign.j3]
      rw [if_neg (by simp), wrap_in (x := (j : Int) + 1) (by omega) (by omega)]
      rfl
    have j2t : okB s (s.getD i z89) out x = false → Ev (fun k => impl_Assign.j2 k l s out s (s.length : Int) (i : Int) l (l.length : Int) (j : Int) true (s.getD i z89).f0 (s.getD i z89).f1 e.f0 e.f1 e.f2 x.f0 x.f1 x.f2) r := by
      intro h1
      rw [stay (fun hh => by rw [h1] at hh; simp at hh)] at next
      refine Ev.step (fun k => ?_) next
      simp only [impl_Assign.j2]
      rw [if_pos trivial, wrap_in (x := (j : Int) + 1) (by omega) (by omega)]
      rfl
    have j2f : okB s (s.getD i z89) out x = true → Ev (fun k => impl_Assign.j2 k l s out s (s.length : Int) (i : Int) l (l.length : Int) (j : Int) false (s.getD i z89).f0 (s.getD i z89).f1 e.f0 e.f1 e.f2 x.f0 x.f1 x.f2) r := by
      intro h1
      by_cases c0 : e.f0 = 0
      · refine Ev.step (fun k => ?_) (j3t h1 (by simp [bet, c0]))
        simp only [impl_Assign.j2]
        rw [if_neg (by simp), if_pos c0]
      · by_cases c1 : x.f2 < e.f2
        · refine Ev.step (fun k => ?_) (j3t h1 (by simp [bet, c1]))
          simp only [impl_Assign.j2]
          rw [if_neg (by simp), if_neg c0, if_pos c1]
        · by_cases c2 : x.f2 = e.f2
          · by_cases c3 : x.f0 < e.f0
            · refine Ev.step (fun k => ?_) (j3t h1 (by simp [bet, c2, c3]))
              simp only [impl_Assign.j2]
              rw [if_neg (by simp), if_neg c0, if_neg c1, if_pos c2, decide_eq_true c3]
            · refine Ev.step (fun k => ?_) (j3f (by simp [bet, c0, c1, c3]))
              simp only [impl_Assign.j2]
              rw [if_neg (by simp), if_neg c0, if_neg c1, if_pos c2, decide_eq_false c3]
          · refine Ev.step (fun k => ?_) (j3f (by simp [bet, c0, c1, c2]))
            simp only [impl_Assign.j2]
            rw [if_neg (by simp), if_neg c0, if_neg c1, if_neg c2]
    cases hf : fitsB s (s.getD i z89) x with
    | false =>
      refine Ev.step (fun k => ?_) (j2t (by unfold okB; rw [hf]; rfl))
      simp only [impl_Assign.l1, ej, impl_fits_eq, hf, Option.bind_some]
      rw [if_pos (by omega), if_pos (by omega), if_pos (by omega), if_neg (by simp)]
    | true =>
      by_cases hm : x.f0 ∈ out
      · refine Ev.round ((Lt.of hcon).and (Lt.of (j2t (by unfold okB; rw [hf, decide_eq_true hm]; rfl)))) fun k ⟨e1, e2⟩ => ?_
        simp only [impl_Assign.l1, ej, impl_fits_eq, hf, e1, Option.bind_some]
        rw [if_pos (by omega), if_pos (by omega), if_pos (by omega), if_pos trivial, decide_eq_true hm]
        exact e2
      · refine Ev.round ((Lt.of hcon).and (Lt.of (j2f (by unfold okB; rw [hf, decide_eq_false hm]; rfl)))) fun k ⟨e1, e2⟩ => ?_
        simp only [impl_Assign.l1, ej, impl_fits_eq, hf, e1, Option.bind_some]
        rw [if_pos (by omega), if_pos (by omega), if_pos (by omega), if_pos trivial, decide_eq_false hm]
        exact e2
theorem impl_as_l0 (l : List S52) (s : List S89) (hl : l.length ≤ 6) (hs : s.length ≤ 6) : ∀ (d i : Nat), i + d = s.length → ∀ out : List Int, out.length = i → Ev (fun k => impl_Assign.l0 k l s out s (s.length : Int) (i : Int)) (asg l s (s.drop i) out) := by
  intro d
  induction d with
  | zero =>
    intro i hi out ho
    rw [List.drop_of_length_le (by omega)]
    refine Ev.step (f := fun _ => some out) (fun k => ?_) (Ev.now _)
    simp only [impl_Assign.l0]
    rw [if_neg (by omega)]
  | succ d ih =>
    intro i hi out ho
    have hlt : i < s.length := by omega
    have es : s.getD i z89 = s[i] := by simp [hlt]
    have h := ih (i + 1) (by omega) (out ++ [mx (s.getD i z89).f1 (bestB l s (s.getD i z89) out).f0]) (by simp [ho])
    rw [List.drop_eq_getElem_cons hlt, ← es]
    refine Ev.step (fun k => ?_) (impl_as_l1 l s i hlt hl hs out (by omega) _ l.length 0 (by omega) ⟨0, 0, 0⟩ (by rw [List.drop_zero]; exact h))
    simp only [impl_Assign.l0, rd89_getD]
    rw [if_pos (by omega), if_pos (by omega), if_pos (by omega)]
    rfl
theorem ex_in {l : List S52} (h : exOk l = true) : l.length ≤ 6 ∧ ∀ j, j < l.length → 1 ≤ (l.getD j z52).f0 := by
  simp only [exOk, Bool.and_eq_true, decide_eq_true_eq, allF_iff] at h
  refine ⟨h.2, fun j hj => ?_⟩
  have := h.1 j (by omega) (by omega)
  simp only [exAt, Bool.and_eq_true, decide_eq_true_eq] at this
  exact this.1.1.1.1
theorem sg_in {s : List S89} (h : sgOk s = true) : s.length ≤ 6 ∧ ∀ j, j < s.length → 0 ≤ (s.getD j z89).f1 := by
  simp only [sgOk, Bool.and_eq_true, decide_eq_true_eq, allF_iff] at h
  refine ⟨h.2, fun j hj => ?_⟩
  have := h.1 j (by omega) (by omega)
  simp only [sgAt, Bool.and_eq_true, decide_eq_true_eq] at this
  exact this.1.1.2
def same (l : List S52) (b : Int) (e : S52) : Prop := b = -1 ∧ e.f0 = 0 ∨ ∃ j : Nat, b = j ∧ j < l.length ∧ l.getD j z52 = e ∧ 1 ≤ e.f0
theorem asg_len (l : List S52) (s : List S89) : ∀ (r : List S89) (out : List Int), (asg l s r out).length = out.length + r.length
  | [], out => rfl
  | y :: r, out => by
    simp only [asg]
    rw [asg_len l s r]
    simp only [List.length_append, List.length_cons, List.length_nil]
    omega
def assign (l : List S52) (s : List S89) : List Int := if exOk l = true ∧ sgOk s = true then asg l s s [] else []
theorem impl_as_ev (l : List S52) (s : List S89) (hl : l.length ≤ 4611686018427387904) (hs : s.length ≤ 4611686018427387904) : Ev (fun k => impl_Assign.f k l s) (assign l s) := by
  unfold assign
  by_cases h : exOk l = true ∧ sgOk s = true
  · rw [if_pos h]
    have hrun := impl_as_l0 l s (ex_in h.1).1 (sg_in h.2).1 s.length 0 (by omega) [] rfl
    refine Lt.ev ((Lt.of (are_ev l s hl hs)).and (Lt.of hrun)) fun k ⟨e1, e2⟩ => ?_
    simp only [impl_Assign.f, e1, h.1, h.2, Option.bind_some]
    rw [if_pos (by simp)]
    simpa using e2
  · rw [if_neg h]
    refine Lt.ev (Lt.of (are_ev l s hl hs)) fun k e1 => ?_
    simp only [impl_Assign.f, e1, Option.bind_some]
    rw [if_neg (fun hh => h (by simpa using hh))]
end Go.Proofs.Ytdmbfmfdijgdkaa.Pu
