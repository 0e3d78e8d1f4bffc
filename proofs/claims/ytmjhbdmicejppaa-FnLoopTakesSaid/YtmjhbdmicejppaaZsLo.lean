import Derived.Test.YtmjhbdmicejppaaZsLb
import Derived.Test.YtmjhbdmicejppaaZsPx1
import Derived.Test.YtmjhbdmicejppaaZsPx2
namespace Go.Proofs.Ytmjhbdmicejppaa.Pu
open Go.RowKit Go.Proofs.Ytmjhbdmicejppaa.Px Go.Proofs.YtmjhbdmicejppaaW.PrintWords Go.Proofs.YtmjhbdmicejppaaW.PrintLast
set_option linter.unusedVariables false
theorem rdI (f : List Int) (i : Nat) : rd f (i : Int) = f.getD i 0 := by simp [rd]
theorem rd69_getD (l : List S69) (i : Nat) : rd_T69 l (i : Int) = l.getD i z69 := by simp [rd_T69]
theorem rd74_getD (l : List S74) (i : Nat) : rd_T74 l (i : Int) = l.getD i z74 := by simp [rd_T74]
theorem in_eq (x a b : Int) : spec_l01In.f x a b = some (decide (a ≤ x) && decide (x ≤ b)) := by
  simp only [spec_l01In.f]
  by_cases h : x ≥ a <;> simp [h]
theorem allF_and (p q : Nat → Bool) : ∀ (d i : Nat), allF (fun j => p j && q j) i d = (allF p i d && allF q i d)
  | 0, i => rfl
  | d + 1, i => by
    simp only [allF, allF_and p q d (i + 1)]
    cases p i <;> cases q i <;> simp
theorem nodupF (l : List Int) : ∀ (d i : Nat), i + d = l.length → (l.take i).Nodup → allF (fun j => !decide (l.getD j 0 ∈ l.take j)) i d = decide l.Nodup
  | 0, i, hi, hn => by
    rw [List.take_of_length_le (by omega)] at hn
    rw [decide_eq_true hn]
    rfl
  | d + 1, i, hi, hn => by
    have hlt : i < l.length := by omega
    have e : l.getD i 0 = l[i] := by simp [hlt]
    simp only [allF, e]
    by_cases h : l[i] ∈ l.take i
    · have : ¬ l.Nodup := by
        intro hh
        have h2 : (l.take (i + 1)).Nodup := hh.sublist (List.take_sublist _ _)
        rw [List.take_succ_eq_append_getElem hlt, List.nodup_append] at h2
        exact h2.2.2 _ h _ (by simp) rfl
      rw [decide_eq_true h, decide_eq_false this]
      rfl
    · rw [decide_eq_false h, nodupF l d (i + 1) (by omega) (by
        rw [List.take_succ_eq_append_getElem hlt, List.nodup_append]
        refine ⟨hn, by simp, fun y hy z hz e2 => ?_⟩
        rw [List.mem_singleton] at hz
        subst hz; subst e2
        exact h hy)]
      simp
theorem has_l (l : List Int) (x : Int) (hn : l.length ≤ 4611686018427387904) : ∀ (d i : Nat), i + d = l.length → Ev (fun k => spec_l03Has.l0 k l x (i : Int)) (decide (x ∈ l.drop i)) := by
  intro d
  induction d with
  | zero =>
    intro i hi
    rw [List.drop_of_length_le (by omega)]
    refine Ev.step (f := fun _ => some false) (fun k => ?_) (by simpa using Ev.now _)
    simp only [spec_l03Has.l0]
    rw [if_neg (by omega)]
  | succ d ih =>
    intro i hi
    have hlt : i < l.length := by omega
    rw [List.drop_eq_getElem_cons hlt]
    by_cases h : l[i] = x
    · have e : decide (x ∈ l[i] :: l.drop (i + 1)) = true := decide_eq_true (by rw [h]; exact List.mem_cons_self)
      rw [e]
      refine Ev.step (f := fun _ => some true) (fun k => ?_) (Ev.now _)
      simp only [spec_l03Has.l0]
      rw [if_pos (by omega), if_pos (by omega), rd_nat l i hlt, if_pos h]
    · have e : decide (x ∈ l[i] :: l.drop (i + 1)) = decide (x ∈ l.drop (i + 1)) := decide_eq_decide.2 ⟨fun hh => by
        rcases List.mem_cons.1 hh with e | e
        · exact absurd e.symm h
        · exact e, fun hh => List.mem_cons_of_mem _ hh⟩
      rw [e]
      refine Ev.step (fun k => ?_) (ih (i + 1) (by omega))
      simp only [spec_l03Has.l0]
      rw [if_pos (by omega), if_pos (by omega), rd_nat l i hlt, if_neg h, wrap_in (x := (i : Int) + 1) (by omega) (by omega)]
      rfl
theorem has_ev (l : List Int) (x : Int) (hn : l.length ≤ 4611686018427387904) : Ev (fun k => spec_l03Has.f k l x) (decide (x ∈ l)) :=
  Ev.congr (fun k => by simp only [spec_l03Has.f]; rfl) (has_l l x hn l.length 0 (by omega))
def chOk (n : Int) (x : S69) : Bool := decide (0 ≤ x.f0) && decide (x.f0 ≤ n - 1) && decide (0 ≤ x.f1) && decide (x.f1 ≤ 40) && decide ((x.f2.length : Int) ≤ x.f1)
def ixAt (m : Int) (l : List Int) (j : Nat) : Bool := decide (0 ≤ l.getD j 0) && decide (l.getD j 0 ≤ m - 1) && (decide (j = 0) || decide (l.getD (j - 1) 0 < l.getD j 0))
def ixOk (m : Int) (l : List Int) : Bool := allF (ixAt m l) 0 l.length
def bagsL (t : List Int) (c : List S69) : List Int := t.filter (fun x => !decide (x = 0)) ++ c.flatMap (fun x => x.f2)
def chF (n : Int) (c : List S69) (j : Nat) : Bool := chOk n (c.getD j z69) && !decide ((c.map (·.f0)).getD j 0 ∈ (c.map (·.f0)).take j)
def bgF (b : List Int) (j : Nat) : Bool := decide (1 ≤ b.getD j 0) && !decide (b.getD j 0 ∈ b.take j)
def waF (m : Int) (w : List S74) (j : Nat) : Bool := decide (1 ≤ (w.getD j z74).f0) && !decide ((w.map (·.f0)).getD j 0 ∈ (w.map (·.f0)).take j) && ixOk m (w.getD j z74).f1
theorem rd_prev (l : List Int) (i : Nat) (h : i ≠ 0) : rd l ((i : Int) - 1) = l.getD (i - 1) 0 := by
  have : ((i : Int) - 1).toNat = i - 1 := by omega
  simp [rd, this]
theorem spec_l6 (t : List Int) (a : Int) (c : List S69) (w : List S74) (hc : c.length ≤ 8) (x : S74) (hx : x.f1.length ≤ 17592186044416) (i : Int) (r : Bool) (hk : Ev (fun k => spec_LoopOk.l4 k (wrap64 (i + 1)) t a c w) r) : ∀ (d j : Nat), j + d = x.f1.length →
    Ev (fun k => spec_LoopOk.l6 k i (j : Int) t a c w x.f0 x.f1) (allF (ixAt c.length x.f1) j d && r) := by
  intro d
  induction d with
  | zero =>
    intro j hj
    simp only [allF, Bool.true_and]
    refine Ev.step (fun k => ?_) hk
    simp only [spec_LoopOk.l6]
    rw [if_neg (by omega)]
  | succ d ih =>
    intro j hj
    have h := ih (j + 1) (by omega)
    have bad : Ev (fun k => spec_LoopOk.j9 k i (j : Int) true t a c w x.f0 x.f1) false := Ev.step (f := fun _ => some false) (fun k => by simp [spec_LoopOk.j9]) (Ev.now _)
    have good : Ev (fun k => spec_LoopOk.j9 k i (j : Int) false t a c w x.f0 x.f1) (allF (ixAt c.length x.f1) (j + 1) d && r) := by
      refine Ev.step (fun k => ?_) h
      simp only [spec_LoopOk.j9]
      rw [if_neg (by simp), wrap_in (x := (j : Int) + 1) (by omega) (by omega)]
      rfl
    simp only [allF]
    unfold ixAt
    have fold : ∀ (q : Bool), (q && allF (fun j => decide (0 ≤ x.f1.getD j 0) && decide (x.f1.getD j 0 ≤ (c.length : Int) - 1) && (decide (j = 0) || decide (x.f1.getD (j - 1) 0 < x.f1.getD j 0))) (j + 1) d && r) = (q && (allF (ixAt c.length x.f1) (j + 1) d && r)) := fun q => by rw [Bool.and_assoc]; rfl
    rw [fold]
    have hin := in_eq (x.f1.getD j 0) 0 ((c.length : Int) - 1)
    generalize hq : (decide (0 ≤ x.f1.getD j 0) && decide (x.f1.getD j 0 ≤ (c.length : Int) - 1)) = q at hin ⊢
    cases q with
    | false =>
      simp only [Bool.false_and]
      refine Ev.step (fun k => ?_) bad
      simp only [spec_LoopOk.l6, rdI]
      rw [if_pos (by omega), if_pos (by omega), wrap_in (x := (c.length : Int) - 1) (by omega) (by omega), hin]
      rfl
    | true =>
      simp only [Bool.true_and]
      by_cases j0 : j = 0
      · rw [decide_eq_true j0, Bool.true_or, Bool.true_and]
        refine Ev.step (fun k => ?_) good
        simp only [spec_LoopOk.l6, rdI]
        rw [if_pos (by omega), if_pos (by omega), wrap_in (x := (c.length : Int) - 1) (by omega) (by omega), hin]
        simp only [Option.bind_some]
        rw [if_pos trivial, if_neg (by omega)]
      · rw [decide_eq_false j0, Bool.false_or]
        by_cases c1 : x.f1.getD (j - 1) 0 < x.f1.getD j 0
        · rw [decide_eq_true c1, Bool.true_and]
          refine Ev.step (fun k => ?_) good
          simp only [spec_LoopOk.l6]
          rw [if_pos (by omega), if_pos (by omega), wrap_in (x := (c.length : Int) - 1) (by omega) (by omega), rdI, hin]
          simp only [Option.bind_some]
          rw [if_pos trivial, if_pos (by omega), wrap_in (x := (j : Int) - 1) (by omega) (by omega), if_pos (by omega), if_pos (by omega), rd_prev _ _ j0, decide_eq_false (by omega)]
        · rw [decide_eq_false c1, Bool.false_and]
          refine Ev.step (fun k => ?_) bad
          simp only [spec_LoopOk.l6]
          rw [if_pos (by omega), if_pos (by omega), wrap_in (x := (c.length : Int) - 1) (by omega) (by omega), rdI, hin]
          simp only [Option.bind_some]
          rw [if_pos trivial, if_pos (by omega), wrap_in (x := (j : Int) - 1) (by omega) (by omega), if_pos (by omega), if_pos (by omega), rd_prev _ _ j0, decide_eq_true (by omega)]
theorem mem_take_map {α : Type} (l : List α) (z : α) (f : α → Int) (i : Nat) (hi : i < l.length) : (l.map f).getD i 0 = f (l.getD i z) := by
  simp [hi]
theorem spec_l5 (t : List Int) (a : Int) (c : List S69) (w : List S74) (hw : w.length ≤ 60) (i : Nat) (hi : i < w.length) (r : Bool)
    (hg : (w.map (·.f0)).getD i 0 ∉ (w.map (·.f0)).take i → Ev (fun k => spec_LoopOk.l6 k (i : Int) 0 t a c w (w.getD i z74).f0 (w.getD i z74).f1) r) (hb : (w.map (·.f0)).getD i 0 ∈ (w.map (·.f0)).take i → r = false) :
    ∀ (d j : Nat), j + d = i → (∀ k, k < j → (w.getD k z74).f0 ≠ (w.getD i z74).f0) → Ev (fun k => spec_LoopOk.l5 k (i : Int) (j : Int) t a c w (w.getD i z74).f0 (w.getD i z74).f1) r := by
  have ei := mem_take_map w z74 (·.f0) i hi
  intro d
  induction d with
  | zero =>
    intro j hj h
    have : j = i := by omega
    subst this
    refine Ev.step (fun k => ?_) (hg (fun hm => by
      rw [ei] at hm
      obtain ⟨k, hk, he⟩ := List.getElem_of_mem hm
      rw [List.length_take, List.length_map] at hk
      rw [List.getElem_take, List.getElem_map] at he
      refine h k (by omega) ?_
      have : w.getD k z74 = w[k]'(by omega) := by simp [show k < w.length by omega]
      rw [this]
      exact he))
    simp only [spec_LoopOk.l5]
    rw [if_neg (by omega)]
  | succ d ih =>
    intro j hj h
    by_cases e : (w.getD j z74).f0 = (w.getD i z74).f0
    · have : r = false := hb (by
        rw [ei]
        have hjl : j < w.length := by omega
        have e2 : w.getD j z74 = w[j] := by simp [hjl]
        rw [← e, e2, List.mem_take_iff_getElem]
        exact ⟨j, by rw [List.length_map]; omega, by simp⟩)
      subst this
      refine Ev.step (f := fun _ => some false) (fun k => ?_) (Ev.now _)
      simp only [spec_LoopOk.l5, rd74_getD]
      rw [if_pos (by omega), if_pos (by omega), if_pos (by omega), if_pos e]
    · refine Ev.step (fun k => ?_) (ih (j + 1) (by omega) (fun k hk => by
        by_cases hkj : k = j
        · subst hkj; exact e
        · exact h k (by omega)))
      simp only [spec_LoopOk.l5, rd74_getD]
      rw [if_pos (by omega), if_pos (by omega), if_pos (by omega), if_neg e, wrap_in (x := (j : Int) + 1) (by omega) (by omega)]
      rfl
theorem spec_l4 (t : List Int) (a : Int) (c : List S69) (w : List S74) (hc : c.length ≤ 8) (hw : w.length ≤ 60) (hwb : ∀ x ∈ w, x.f1.length ≤ 17592186044416) : ∀ (d i : Nat), i + d = w.length → Ev (fun k => spec_LoopOk.l4 k (i : Int) t a c w) (allF (waF c.length w) i d) := by
  intro d
  induction d with
  | zero =>
    intro i hi
    refine Ev.step (f := fun _ => some true) (fun k => ?_) (Ev.now _)
    simp only [spec_LoopOk.l4]
    rw [if_neg (by omega)]
  | succ d ih =>
    intro i hi
    have hlt : i < w.length := by omega
    have h := ih (i + 1) (by omega)
    have eg : w.getD i z74 = w[i] := by simp [hlt]
    simp only [allF]
    by_cases c1 : (w.getD i z74).f0 < 1
    · have e : waF c.length w i = false := by unfold waF; rw [decide_eq_false (by omega)]; simp
      rw [e, Bool.false_and]
      refine Ev.step (f := fun _ => some false) (fun k => ?_) (Ev.now _)
      simp only [spec_LoopOk.l4, rd74_getD]
      rw [if_pos (by omega), if_pos (by omega), if_pos c1]
    · have h6 := spec_l6 t a c w hc (w.getD i z74) (by rw [eg]; exact hwb _ (List.getElem_mem hlt)) (i : Int) _ (by rw [wrap_in (x := (i : Int) + 1) (by omega) (by omega)]; exact h) (w.getD i z74).f1.length 0 (by omega)
      refine Ev.step (fun k => ?_) (spec_l5 t a c w hw i hlt _ (fun hm => ?_) (fun hm => ?_) i 0 (by omega) (fun k hk => by omega))
      · simp only [spec_LoopOk.l4, rd74_getD]
        rw [if_pos (by omega), if_pos (by omega), if_neg c1]
        rfl
      · have e : waF c.length w i = ixOk c.length (w.getD i z74).f1 := by unfold waF; rw [decide_eq_true (by omega), decide_eq_false hm]; simp
        rw [e]
        exact h6
      · have e : waF c.length w i = false := by unfold waF; rw [decide_eq_true hm]; simp
        rw [e, Bool.false_and]
theorem spec_l3 (t : List Int) (a : Int) (c : List S69) (w : List S74) (b : List Int) (hb : b.length ≤ 1048576) (r : Bool) (hk : Ev (fun k => spec_LoopOk.l4 k 0 t a c w) r) : ∀ (d i : Nat), i + d = b.length → Ev (fun k => spec_LoopOk.l3 k b (i : Int) t a c w) (allF (bgF b) i d && r) := by
  intro d
  induction d with
  | zero =>
    intro i hi
    simp only [allF, Bool.true_and]
    refine Ev.step (fun k => ?_) hk
    simp only [spec_LoopOk.l3]
    rw [if_neg (by omega)]
  | succ d ih =>
    intro i hi
    have h := ih (i + 1) (by omega)
    have hh := has_ev (b.take i) (b.getD i 0) (by simp; omega)
    simp only [allF]
    by_cases c1 : b.getD i 0 < 1
    · have e : bgF b i = false := by unfold bgF; rw [decide_eq_false (by omega)]; rfl
      rw [e, Bool.false_and, Bool.false_and]
      refine Ev.step (f := fun _ => some false) (fun k => ?_) (Ev.now _)
      simp only [spec_LoopOk.l3, rdI]
      rw [if_pos (by omega), if_pos (by omega), if_pos c1]
    · by_cases hm : b.getD i 0 ∈ b.take i
      · have e : bgF b i = false := by unfold bgF; rw [decide_eq_true hm]; simp
        rw [e, Bool.false_and, Bool.false_and]
        refine Ev.round (Lt.of hh) fun k e1 => ?_
        simp only [spec_LoopOk.l3, rdI, Int.toNat_natCast, e1, Option.bind_some]
        rw [if_pos (by omega), if_pos (by omega), if_neg c1, if_pos (by omega), if_pos (decide_eq_true hm)]
      · have e : bgF b i = true := by unfold bgF; rw [decide_eq_true (by omega), decide_eq_false hm]; rfl
        rw [e, Bool.true_and]
        refine Ev.round ((Lt.of hh).and (Lt.of h)) fun k ⟨e1, e2⟩ => ?_
        simp only [spec_LoopOk.l3, rdI, Int.toNat_natCast, e1, Option.bind_some]
        rw [if_pos (by omega), if_pos (by omega), if_neg c1, if_pos (by omega), decide_eq_false hm, if_neg (by simp), wrap_in (x := (i : Int) + 1) (by omega) (by omega)]
        exact e2
theorem spec_l2 (n : Int) (t : List Int) (a : Int) (c : List S69) (w : List S74) (acc : List Int) (hc : c.length ≤ 8) (i : Nat) (hi : i < c.length) (hac : acc.length + (c.getD i z69).f2.length ≤ 4194304) (r : Bool)
    (hg : (c.map (·.f0)).getD i 0 ∉ (c.map (·.f0)).take i → Ev (fun k => spec_LoopOk.l1 k n (acc ++ (c.getD i z69).f2) ((i : Int) + 1) t a c w) r) (hb : (c.map (·.f0)).getD i 0 ∈ (c.map (·.f0)).take i → r = false) :
    ∀ (d j : Nat), j + d = i → (∀ k, k < j → (c.getD k z69).f0 ≠ (c.getD i z69).f0) → Ev (fun k => spec_LoopOk.l2 k n acc (i : Int) (j : Int) t a c w (c.getD i z69).f0 (c.getD i z69).f1 (c.getD i z69).f2) r := by
  have ei := mem_take_map c z69 (·.f0) i hi
  intro d
  induction d with
  | zero =>
    intro j hj h
    have : j = i := by omega
    subst this
    refine Ev.step (fun k => ?_) (hg (fun hm => by
      rw [ei] at hm
      obtain ⟨k, hk, he⟩ := List.getElem_of_mem hm
      rw [List.length_take, List.length_map] at hk
      rw [List.getElem_take, List.getElem_map] at he
      refine h k (by omega) ?_
      have : c.getD k z69 = c[k]'(by omega) := by simp [show k < c.length by omega]
      rw [this]
      exact he))
    simp only [spec_LoopOk.l2]
    rw [if_neg (by omega), if_pos (by omega), wrap_in (x := (j : Int) + 1) (by omega) (by omega)]
  | succ d ih =>
    intro j hj h
    by_cases e : (c.getD j z69).f0 = (c.getD i z69).f0
    · have : r = false := hb (by
        rw [ei]
        have hjl : j < c.length := by omega
        have e2 : c.getD j z69 = c[j] := by simp [hjl]
        rw [← e, e2, List.mem_take_iff_getElem]
        exact ⟨j, by rw [List.length_map]; omega, by simp⟩)
      subst this
      refine Ev.step (f := fun _ => some false) (fun k => ?_) (Ev.now _)
      simp only [spec_LoopOk.l2, rd69_getD]
      rw [if_pos (by omega), if_pos (by omega), if_pos (by omega), if_pos e]
    · refine Ev.step (fun k => ?_) (ih (j + 1) (by omega) (fun k hk => by
        by_cases hkj : k = j
        · subst hkj; exact e
        · exact h k (by omega)))
      simp only [spec_LoopOk.l2, rd69_getD]
      rw [if_pos (by omega), if_pos (by omega), if_pos (by omega), if_neg e, wrap_in (x := (j : Int) + 1) (by omega) (by omega)]
      rfl
theorem spec_l1 (n : Nat) (hn : n ≤ 60) (t : List Int) (a : Int) (c : List S69) (w : List S74) (hc : c.length ≤ 8) (B0 : List Int) (hB : B0.length ≤ 60) (r : Bool) (hk : (c.flatMap (fun x => x.f2)).length ≤ 40 * c.length → Ev (fun k => spec_LoopOk.l3 k (B0 ++ c.flatMap (fun x => x.f2)) 0 t a c w) r) :
    ∀ (d i : Nat), i + d = c.length → ((c.take i).flatMap (fun x => x.f2)).length ≤ 40 * i → Ev (fun k => spec_LoopOk.l1 k (n : Int) (B0 ++ (c.take i).flatMap (fun x => x.f2)) (i : Int) t a c w) (allF (chF n c) i d && r) := by
  intro d
  induction d with
  | zero =>
    intro i hi hsm
    simp only [allF, Bool.true_and]
    rw [List.take_of_length_le (by omega)] at hsm ⊢
    refine Ev.step (fun k => ?_) (hk (by rw [show c.length = i by omega]; exact hsm))
    simp only [spec_LoopOk.l1]
    rw [if_neg (by omega)]
  | succ d ih =>
    intro i hi hsm
    have hlt : i < c.length := by omega
    have eg : c.getD i z69 = c[i] := by simp [hlt]
    have ef : (c.take (i + 1)).flatMap (fun x => x.f2) = (c.take i).flatMap (fun x => x.f2) ++ (c.getD i z69).f2 := by
      rw [List.take_succ_eq_append_getElem hlt, List.flatMap_append, eg]
      simp
    have bad : Ev (fun k => spec_LoopOk.j3 k (n : Int) (B0 ++ (c.take i).flatMap (fun x => x.f2)) (i : Int) true t a c w (c.getD i z69).f0 (c.getD i z69).f1 (c.getD i z69).f2) false := Ev.step (f := fun _ => some false) (fun k => by simp [spec_LoopOk.j3]) (Ev.now _)
    simp only [allF]
    have i1 := in_eq (c.getD i z69).f0 0 ((n : Int) - 1)
    have i2 := in_eq (c.getD i z69).f1 0 40
    by_cases q1 : (decide (0 ≤ (c.getD i z69).f0) && decide ((c.getD i z69).f0 ≤ (n : Int) - 1)) = true
    · rw [q1] at i1
      by_cases q2 : (decide (0 ≤ (c.getD i z69).f1) && decide ((c.getD i z69).f1 ≤ 40)) = true
      · rw [q2] at i2
        by_cases q3 : ((c.getD i z69).f2.length : Int) ≤ (c.getD i z69).f1
        · have q4 : (c.getD i z69).f1 ≤ 40 := by
            simp only [Bool.and_eq_true, decide_eq_true_eq] at q2
            exact q2.2
          have h := ih (i + 1) (by omega) (by rw [ef, List.length_append]; omega)
          rw [ef, ← List.append_assoc] at h
          have hl2 := fun r' hg hb => spec_l2 (n : Int) t a c w (B0 ++ (c.take i).flatMap (fun x => x.f2)) hc i hlt (by rw [List.length_append]; omega) r' hg hb i 0 (by omega) (fun k hk => by omega)
          have eok : chOk n (c.getD i z69) = true := by
            unfold chOk
            rw [q1, decide_eq_true q3, Bool.true_and]
            simp only [Bool.and_eq_true] at q2 ⊢
            exact ⟨⟨q2.1, q2.2⟩, trivial⟩
          have j3 : Ev (fun k => spec_LoopOk.j3 k (n : Int) (B0 ++ (c.take i).flatMap (fun x => x.f2)) (i : Int) false t a c w (c.getD i z69).f0 (c.getD i z69).f1 (c.getD i z69).f2) (chF n c i && allF (chF n c) (i + 1) d && r) := by
            refine Ev.step (fun k => ?_) (hl2 _ (fun hm => ?_) (fun hm => ?_))
            · simp only [spec_LoopOk.j3]
              rw [if_neg (by simp)]
              rfl
            · have e : chF n c i = true := by unfold chF; rw [eok, decide_eq_false hm]; rfl
              rw [e, Bool.true_and]
              exact h
            · have e : chF n c i = false := by unfold chF; rw [decide_eq_true hm]; simp
              rw [e, Bool.false_and, Bool.false_and]
          refine Ev.step (fun k => ?_) j3
          simp only [spec_LoopOk.l1, rd69_getD]
          rw [if_pos (by omega), if_pos (by omega), wrap_in (x := (n : Int) - 1) (by omega) (by omega), i1]
          simp only [Option.bind_some, i2]
          rw [if_pos trivial, if_pos trivial, decide_eq_false (by omega)]
        · have e : chF n c i = false := by unfold chF chOk; rw [decide_eq_false q3]; simp
          rw [e, Bool.false_and, Bool.false_and]
          refine Ev.step (fun k => ?_) bad
          simp only [spec_LoopOk.l1, rd69_getD]
          rw [if_pos (by omega), if_pos (by omega), wrap_in (x := (n : Int) - 1) (by omega) (by omega), i1]
          simp only [Option.bind_some, i2]
          rw [if_pos trivial, if_pos trivial, decide_eq_true (by omega)]
      · have q2' : (decide (0 ≤ (c.getD i z69).f1) && decide ((c.getD i z69).f1 ≤ 40)) = false := by simpa using q2
        rw [q2'] at i2
        have e : chF n c i = false := by
          unfold chF chOk
          rw [q1, Bool.true_and, q2']
          rfl
        rw [e, Bool.false_and, Bool.false_and]
        refine Ev.step (fun k => ?_) bad
        simp only [spec_LoopOk.l1, rd69_getD]
        rw [if_pos (by omega), if_pos (by omega), wrap_in (x := (n : Int) - 1) (by omega) (by omega), i1]
        simp only [Option.bind_some, i2]
        rw [if_pos trivial, if_neg (by simp)]
    · have q1' : (decide (0 ≤ (c.getD i z69).f0) && decide ((c.getD i z69).f0 ≤ (n : Int) - 1)) = false := by simpa using q1
      rw [q1'] at i1
      have e : chF n c i = false := by
        unfold chF chOk
        rw [q1']
        rfl
      rw [e, Bool.false_and, Bool.false_and]
      refine Ev.step (fun k => ?_) bad
      simp only [spec_LoopOk.l1, rd69_getD]
      rw [if_pos (by omega), if_pos (by omega), wrap_in (x := (n : Int) - 1) (by omega) (by omega), i1]
      rfl
theorem spec_l0 (t : List Int) (ht : t.length ≤ 60) (a : Int) (c : List S69) (w : List S74) (r : Bool) (hk : Ev (fun k => spec_LoopOk.l1 k (t.length : Int) (t.filter (fun x => !decide (x = 0))) 0 t a c w) r) :
    ∀ (d i : Nat), i + d = t.length → ∀ acc : List Int, acc.length ≤ i → acc ++ (t.drop i).filter (fun x => !decide (x = 0)) = t.filter (fun x => !decide (x = 0)) → Ev (fun k => spec_LoopOk.l0 k (t.length : Int) acc (i : Int) t a c w) r := by
  intro d
  induction d with
  | zero =>
    intro i hi acc ha h
    rw [List.drop_of_length_le (by omega)] at h
    simp only [List.filter_nil, List.append_nil] at h
    subst h
    refine Ev.step (fun k => ?_) hk
    simp only [spec_LoopOk.l0]
    rw [if_neg (by omega)]
  | succ d ih =>
    intro i hi acc ha h
    have hlt : i < t.length := by omega
    have eg : t.getD i 0 = t[i] := by simp [hlt]
    rw [List.drop_eq_getElem_cons hlt, List.filter_cons] at h
    by_cases c0 : t[i] = 0
    · rw [if_neg (by simp [c0])] at h
      refine Ev.step (fun k => ?_) (ih (i + 1) (by omega) acc (by omega) h)
      simp only [spec_LoopOk.l0, rdI, eg]
      rw [if_pos (by omega), if_pos (by omega), if_pos (by omega), if_pos c0, wrap_in (x := (i : Int) + 1) (by omega) (by omega)]
      rfl
    · rw [if_pos (by simp [c0])] at h
      refine Ev.step (fun k => ?_) (ih (i + 1) (by omega) (acc ++ [t[i]]) (by simp; omega) (by rw [List.append_assoc]; exact h))
      simp only [spec_LoopOk.l0, rdI, eg]
      rw [if_pos (by omega), if_pos (by omega), if_pos (by omega), if_neg c0, if_pos (by omega), wrap_in (x := (i : Int) + 1) (by omega) (by omega)]
      rfl
def szOk (t : List Int) (a : Int) (c : List S69) (w : List S74) : Bool := decide (2 ≤ t.length) && decide (t.length ≤ 60) && decide (0 ≤ a) && decide (a ≤ (t.length : Int) - 1) && decide (c.length ≤ 8) && decide (w.length ≤ 60)
def lpOk (t : List Int) (a : Int) (c : List S69) (w : List S74) : Bool :=
  szOk t a c w && (allF (chF t.length c) 0 c.length && (allF (bgF (bagsL t c)) 0 (bagsL t c).length && allF (waF c.length w) 0 w.length))
theorem spec_lp_big (t : List Int) (a : Int) (c : List S69) (w : List S74) (ht : t.length ≤ 17592186044416) (hwb : ∀ x ∈ w, x.f1.length ≤ 17592186044416) : Ev (fun k => spec_LoopOk.f k t a c w) (lpOk t a c w) := by
  have dead : Ev (fun k => spec_LoopOk.j0 k (t.length : Int) true t a c w) false := Ev.step (f := fun _ => some false) (fun k => by simp [spec_LoopOk.j0]) (Ev.now _)
  have i1 := in_eq (t.length : Int) 2 60
  have i2 := in_eq a 0 ((t.length : Int) - 1)
  by_cases q1 : 2 ≤ t.length ∧ t.length ≤ 60
  · rw [decide_eq_true (by omega), decide_eq_true (by omega), Bool.true_and] at i1
    by_cases q2 : 0 ≤ a ∧ a ≤ (t.length : Int) - 1
    · rw [decide_eq_true q2.1, decide_eq_true q2.2, Bool.true_and] at i2
      by_cases q3 : c.length ≤ 8
      · by_cases q4 : w.length ≤ 60
        · have hfl : (t.filter (fun x => !decide (x = 0))).length ≤ t.length := List.length_filter_le _ _
          have s4 := spec_l4 t a c w q3 q4 hwb w.length 0 (by omega)
          have s3 := fun (hsm : (c.flatMap (fun x => x.f2)).length ≤ 40 * c.length) => spec_l3 t a c w (bagsL t c) (by unfold bagsL; rw [List.length_append]; omega) _ s4 (bagsL t c).length 0 (by omega)
          have s1 := spec_l1 t.length q1.2 t a c w q3 (t.filter (fun x => !decide (x = 0))) (by omega) _ s3 c.length 0 (by omega) (by simp)
          have s0 := spec_l0 t q1.2 a c w _ (by simpa using s1) t.length 0 (by omega) [] (by simp) (by simp)
          have e : lpOk t a c w = (allF (chF t.length c) 0 c.length && (allF (bgF (bagsL t c)) 0 (bagsL t c).length && allF (waF c.length w) 0 w.length)) := by
            unfold lpOk szOk
            rw [decide_eq_true q1.1, decide_eq_true q1.2, decide_eq_true q2.1, decide_eq_true q2.2, decide_eq_true q3, decide_eq_true q4]
            rfl
          rw [e]
          have live : Ev (fun k => spec_LoopOk.j0 k (t.length : Int) false t a c w) _ := Ev.step (fun k => by simp only [spec_LoopOk.j0]; rw [if_neg (by simp)]; rfl) s0
          refine Lt.ev (Lt.of live) fun k e1 => ?_
          simp only [spec_LoopOk.f, i1, Option.bind_some]
          rw [if_pos trivial, wrap_in (x := (t.length : Int) - 1) (by omega) (by omega), i2]
          simp only [Option.bind_some]
          rw [if_pos trivial, if_neg (by omega), decide_eq_false (by omega)]
          exact e1
        · have e : lpOk t a c w = false := by unfold lpOk szOk; rw [decide_eq_false q4]; simp
          rw [e]
          refine Lt.ev (Lt.of dead) fun k e1 => ?_
          simp only [spec_LoopOk.f, i1, Option.bind_some]
          rw [if_pos trivial, wrap_in (x := (t.length : Int) - 1) (by omega) (by omega), i2]
          simp only [Option.bind_some]
          rw [if_pos trivial, if_neg (by omega), decide_eq_true (by omega)]
          exact e1
      · have e : lpOk t a c w = false := by unfold lpOk szOk; rw [decide_eq_false q3]; simp
        rw [e]
        refine Lt.ev (Lt.of dead) fun k e1 => ?_
        simp only [spec_LoopOk.f, i1, Option.bind_some]
        rw [if_pos trivial, wrap_in (x := (t.length : Int) - 1) (by omega) (by omega), i2]
        simp only [Option.bind_some]
        rw [if_pos trivial, if_pos (by omega)]
        exact e1
    · have e : lpOk t a c w = false := by
        cases he : lpOk t a c w with
        | false => rfl
        | true =>
          exfalso
          simp only [lpOk, szOk, Bool.and_eq_true, decide_eq_true_eq] at he
          exact q2 ⟨he.1.1.1.1.2, he.1.1.1.2⟩
      have i2' : spec_l01In.f a 0 ((t.length : Int) - 1) = some false := by
        rw [i2]
        congr 1
        by_cases h0 : 0 ≤ a
        · rw [decide_eq_false (fun h => q2 ⟨h0, h⟩)]
          simp
        · rw [decide_eq_false h0]
          rfl
      rw [e]
      refine Lt.ev (Lt.of dead) fun k e1 => ?_
      simp only [spec_LoopOk.f, i1, Option.bind_some]
      rw [if_pos trivial, wrap_in (x := (t.length : Int) - 1) (by omega) (by omega), i2']
      exact e1
  · have e : lpOk t a c w = false := by
      cases he : lpOk t a c w with
      | false => rfl
      | true =>
        exfalso
        simp only [lpOk, szOk, Bool.and_eq_true, decide_eq_true_eq] at he
        exact q1 ⟨he.1.1.1.1.1.1, he.1.1.1.1.1.2⟩
    have i1' : spec_l01In.f (t.length : Int) 2 60 = some false := by
      rw [i1]
      congr 1
      by_cases h0 : 2 ≤ t.length
      · rw [decide_eq_false (show ¬ (t.length : Int) ≤ 60 from fun h => q1 ⟨h0, by omega⟩)]
        simp
      · rw [decide_eq_false (show ¬ 2 ≤ (t.length : Int) by omega)]
        rfl
    rw [e]
    refine Lt.ev (Lt.of dead) fun k e1 => ?_
    simp only [spec_LoopOk.f, i1']
    exact e1
theorem spec_lp_ev (t : List Int) (a : Int) (c : List S69) (w : List S74) (ht : t.length ≤ 1048576) (hf : t.length + (c.flatMap (fun x => x.f2)).length ≤ 1048576) (hwb : ∀ x ∈ w, x.f1.length ≤ 1048576) : Ev (fun k => spec_LoopOk.f k t a c w) (lpOk t a c w) :=
  spec_lp_big t a c w (by omega) (fun x hx => by have := hwb x hx; omega)
end Go.Proofs.Ytmjhbdmicejppaa.Pu
