import Derived.Test.YtdmbfmfdijgdkaaZuCc
import Derived.Test.YtdmbfmfdijgdkaaZuPx9
import Derived.Test.YtdmbfmfdijgdkaaZuPx17
namespace Go.Proofs.Ytdmbfmfdijgdkaa.Pu
open Go.RowKit Go.Proofs.Ytdmbfmfdijgdkaa.Px Go.Proofs.YtdmbfmfdijgdkaaW.PrintWords Go.Proofs.YtdmbfmfdijgdkaaW.PrintLast
set_option linter.unusedVariables false
theorem rd_getD (f : List Int) (i : Nat) : rd f (i : Int) = f.getD i 0 := by simp [rd]
def exq (x : S98) : S52 := ⟨x.f0, x.f1, x.f2⟩
theorem rd98_nat (l : List S98) (i : Nat) (h : i < l.length) : rd_T98 l (i : Int) = l[i] := by simp [rd_T98, h]
theorem toExpectS_l (l : List S98) (hn : l.length ≤ 4611686018427387904) : ∀ (d i : Nat), i + d = l.length → ∀ m : List S52, m.length = (l.map exq).length → m.take i = (l.map exq).take i → Ev (fun k => laws_toExpectS.l0 k l m (i : Int)) (l.map exq) := by
  intro d
  induction d with
  | zero =>
    intro i hi m hm ht
    refine Ev.step (f := fun _ => some (l.map exq)) (fun k => ?_) (Ev.now _)
    rw [List.take_of_length_le (by simp at hm; omega), List.take_of_length_le (by simp; omega)] at ht
    subst ht
    simp only [laws_toExpectS.l0]
    rw [if_neg (by omega)]
  | succ d ih =>
    intro i hi m hm ht
    have hm' : m.length = l.length := by simpa using hm
    refine Ev.step (f := fun k => laws_toExpectS.l0 k l (m.set i (l.map exq)[i]) ((i + 1 : Nat) : Int)) (fun k => ?_) (ih (i + 1) (by omega) _ (by simp [hm']) (take_set m (l.map exq) i hm (by simp; omega) ht))
    simp only [laws_toExpectS.l0, laws_toExpect.f, Option.bind_some]
    rw [if_pos (by omega), if_pos (by omega), if_pos (by omega), wrap_in (by omega) (by omega), rd98_nat l i (by omega)]
    simp [exq]
theorem toExpectS_ev (l : List S98) (hn : l.length ≤ 1048576) : Ev (fun k => laws_toExpectS.f k l) (l.map exq) := by
  refine Ev.congr (f := fun k => laws_toExpectS.l0 k l (List.replicate l.length z52) ((0 : Nat) : Int)) (fun k => ?_) (toExpectS_l l (by omega) l.length 0 (by omega) _ (by simp) (by simp))
  simp only [laws_toExpectS.f]
  rw [if_pos (by omega), if_pos (by omega)]
  simp
theorem eqExpectS_l (l : List S52) (hn : l.length ≤ 4611686018427387904) : ∀ (d i : Nat), i + d = l.length → Ev (fun k => laws_eqExpectS.l0 k l l (i : Int)) true := by
  intro d
  induction d with
  | zero =>
    intro i hi
    refine Ev.step (f := fun _ => some true) (fun k => ?_) (Ev.now _)
    simp only [laws_eqExpectS.l0]
    rw [if_neg (by omega)]
  | succ d ih =>
    intro i hi
    refine Ev.step (f := fun k => laws_eqExpectS.l0 k l l ((i + 1 : Nat) : Int)) (fun k => ?_) (ih (i + 1) (by omega))
    simp only [laws_eqExpectS.l0, laws_eqExpect.f]
    rw [if_pos (by omega), if_pos (by omega), if_pos (by omega), wrap_in (by omega) (by omega)]
    simp
theorem eqExpectS_ev (l : List S52) (hn : l.length ≤ 1048576) : Ev (fun k => laws_eqExpectS.f k l l) true := by
  refine Ev.congr (f := fun k => laws_eqExpectS.l0 k l l ((0 : Nat) : Int)) (fun k => ?_) (eqExpectS_l l (by omega) l.length 0 (by omega))
  simp only [laws_eqExpectS.f]
  simp
theorem szExpectS_big (l : List S98) (c : Int) (h : l.length ≤ 17592186044416) (hc : 0 ≤ c ∧ c ≤ 1048576) : ∃ t, laws_szExpectS.f l c = some t ∧ (0 ≤ t → l.length ≤ 1048576 ∧ t ≤ 1048576) := by
  unfold laws_szExpectS.f
  rw [wrap_in (by omega) (by omega)]
  split
  · exact ⟨_, rfl, by omega⟩
  · exact ⟨_, rfl, by omega⟩
def sgq (x : S100) : S89 := ⟨x.f0, x.f1⟩
theorem rd100_nat (l : List S100) (i : Nat) (h : i < l.length) : rd_T100 l (i : Int) = l[i] := by simp [rd_T100, h]
theorem toSightS_l (l : List S100) (hn : l.length ≤ 4611686018427387904) : ∀ (d i : Nat), i + d = l.length → ∀ m : List S89, m.length = (l.map sgq).length → m.take i = (l.map sgq).take i → Ev (fun k => laws_toSightS.l0 k l m (i : Int)) (l.map sgq) := by
  intro d
  induction d with
  | zero =>
    intro i hi m hm ht
    refine Ev.step (f := fun _ => some (l.map sgq)) (fun k => ?_) (Ev.now _)
    rw [List.take_of_length_le (by simp at hm; omega), List.take_of_length_le (by simp; omega)] at ht
    subst ht
    simp only [laws_toSightS.l0]
    rw [if_neg (by omega)]
  | succ d ih =>
    intro i hi m hm ht
    have hm' : m.length = l.length := by simpa using hm
    refine Ev.step (f := fun k => laws_toSightS.l0 k l (m.set i (l.map sgq)[i]) ((i + 1 : Nat) : Int)) (fun k => ?_) (ih (i + 1) (by omega) _ (by simp [hm']) (take_set m (l.map sgq) i hm (by simp; omega) ht))
    simp only [laws_toSightS.l0, laws_toSight.f, Option.bind_some]
    rw [if_pos (by omega), if_pos (by omega), if_pos (by omega), wrap_in (by omega) (by omega), rd100_nat l i (by omega)]
    simp [sgq]
theorem toSightS_ev (l : List S100) (hn : l.length ≤ 1048576) : Ev (fun k => laws_toSightS.f k l) (l.map sgq) := by
  refine Ev.congr (f := fun k => laws_toSightS.l0 k l (List.replicate l.length z89) ((0 : Nat) : Int)) (fun k => ?_) (toSightS_l l (by omega) l.length 0 (by omega) _ (by simp) (by simp))
  simp only [laws_toSightS.f]
  rw [if_pos (by omega), if_pos (by omega)]
  simp
theorem eqSightS_l (l : List S89) (hn : l.length ≤ 4611686018427387904) : ∀ (d i : Nat), i + d = l.length → Ev (fun k => laws_eqSightS.l0 k l l (i : Int)) true := by
  intro d
  induction d with
  | zero =>
    intro i hi
    refine Ev.step (f := fun _ => some true) (fun k => ?_) (Ev.now _)
    simp only [laws_eqSightS.l0]
    rw [if_neg (by omega)]
  | succ d ih =>
    intro i hi
    refine Ev.step (f := fun k => laws_eqSightS.l0 k l l ((i + 1 : Nat) : Int)) (fun k => ?_) (ih (i + 1) (by omega))
    simp only [laws_eqSightS.l0, laws_eqSight.f]
    rw [if_pos (by omega), if_pos (by omega), if_pos (by omega), wrap_in (by omega) (by omega)]
    simp
theorem eqSightS_ev (l : List S89) (hn : l.length ≤ 1048576) : Ev (fun k => laws_eqSightS.f k l l) true := by
  refine Ev.congr (f := fun k => laws_eqSightS.l0 k l l ((0 : Nat) : Int)) (fun k => ?_) (eqSightS_l l (by omega) l.length 0 (by omega))
  simp only [laws_eqSightS.f]
  simp
theorem szSightS_big (l : List S100) (c : Int) (h : l.length ≤ 17592186044416) (hc : 0 ≤ c ∧ c ≤ 1048576) : ∃ t, laws_szSightS.f l c = some t ∧ (0 ≤ t → l.length ≤ 1048576 ∧ t ≤ 1048576) := by
  unfold laws_szSightS.f
  rw [wrap_in (by omega) (by omega)]
  split
  · exact ⟨_, rfl, by omega⟩
  · exact ⟨_, rfl, by omega⟩
theorem eqIntS_l (l : List Int) (hn : l.length ≤ 4611686018427387904) : ∀ (d i : Nat), i + d = l.length → Ev (fun k => laws_eqIntS.l0 k l l (i : Int)) true := by
  intro d
  induction d with
  | zero =>
    intro i hi
    refine Ev.step (f := fun _ => some true) (fun k => ?_) (Ev.now _)
    simp only [laws_eqIntS.l0]
    rw [if_neg (by omega)]
  | succ d ih =>
    intro i hi
    refine Ev.step (f := fun k => laws_eqIntS.l0 k l l ((i + 1 : Nat) : Int)) (fun k => ?_) (ih (i + 1) (by omega))
    simp only [laws_eqIntS.l0]
    rw [if_pos (by omega), if_pos (by omega), if_pos (by omega), wrap_in (by omega) (by omega)]
    simp
theorem eqIntS_ev (l : List Int) (hn : l.length ≤ 1048576) : Ev (fun k => laws_eqIntS.f k l l) true := by
  refine Ev.congr (f := fun k => laws_eqIntS.l0 k l l ((0 : Nat) : Int)) (fun k => ?_) (eqIntS_l l (by omega) l.length 0 (by omega))
  simp only [laws_eqIntS.f]
  simp
theorem markIntS_l (n : Nat) (hn : n ≤ 1048576) : ∀ (d i : Nat), i + d = n → ∀ l : List Int, l.length = n → (∀ j, j < i → l.getD j 0 = 1 + (j : Int)) →
    ∃ m : List Int, m.length = n ∧ (∀ j, j < n → m.getD j 0 = 1 + (j : Int)) ∧ Ev (fun k => laws_markIntS.l0 k l (1 + (i : Int)) (i : Int)) (1 + (n : Int), m) := by
  intro d
  induction d with
  | zero =>
    intro i hi l hl hm
    have : i = n := by omega
    subst this
    refine ⟨l, hl, hm, Ev.step (f := fun _ => some (1 + (i : Int), l)) (fun k => ?_) (Ev.now _)⟩
    simp only [laws_markIntS.l0]
    rw [if_neg (by omega)]
  | succ d ih =>
    intro i hi l hl hm
    obtain ⟨m, h1, h2, h3⟩ := ih (i + 1) (by omega) (l.set i (1 + (i : Int))) (by simpa using hl) (by
      intro j hj
      simp only [List.getD_eq_getElem?_getD, List.getElem?_set]
      by_cases e : i = j
      · subst e
        rw [if_pos rfl, if_pos (by omega)]
        rfl
      · rw [if_neg e]
        have := hm j (by omega)
        simpa only [List.getD_eq_getElem?_getD] using this)
    refine ⟨m, h1, h2, Ev.step (fun k => ?_) h3⟩
    simp only [laws_markIntS.l0]
    rw [if_pos (by omega), if_pos (by omega), wrap_in (x := 1 + (i : Int) + 1) (by omega) (by omega), wrap_in (x := (i : Int) + 1) (by omega) (by omega)]
    have : (1 + (i : Int) + 1) = 1 + ((i + 1 : Nat) : Int) := by omega
    rw [this]
    simp
theorem markIntS_ev (l : List Int) (hn : l.length ≤ 1048576) : ∃ m : List Int, m.length = l.length ∧ (∀ j, j < l.length → m.getD j 0 = 1 + (j : Int)) ∧ Ev (fun k => laws_markIntS.f k l 1) (1 + (l.length : Int), m) := by
  obtain ⟨m, h1, h2, h3⟩ := markIntS_l l.length hn l.length 0 (by omega) l rfl (fun j hj => by omega)
  exact ⟨m, h1, h2, Ev.congr (fun k => by simp only [laws_markIntS.f]; simp) h3⟩
theorem heldIntS_l (m : List Int) (hn : m.length ≤ 1048576) (hm : ∀ j, j < m.length → m.getD j 0 = 1 + (j : Int)) : ∀ (d i : Nat), i + d = m.length → Ev (fun k => laws_heldIntS.l0 k m (1 + (i : Int)) (i : Int)) (1 + (m.length : Int)) := by
  intro d
  induction d with
  | zero =>
    intro i hi
    have : i = m.length := by omega
    subst this
    refine Ev.step (f := fun _ => some (1 + (m.length : Int))) (fun k => ?_) (Ev.now _)
    simp only [laws_heldIntS.l0]
    rw [if_neg (by omega)]
  | succ d ih =>
    intro i hi
    refine Ev.step (fun k => ?_) (ih (i + 1) (by omega))
    simp only [laws_heldIntS.l0]
    have := hm i (by omega)
    rw [if_pos (by omega), if_pos (by omega), rd_getD, this, if_pos rfl, wrap_in (x := 1 + (i : Int) + 1) (by omega) (by omega), wrap_in (x := (i : Int) + 1) (by omega) (by omega)]
    have : (1 + (i : Int) + 1) = 1 + ((i + 1 : Nat) : Int) := by omega
    rw [this]
    rfl
theorem heldIntS_ev (m : List Int) (hn : m.length ≤ 1048576) (hm : ∀ j, j < m.length → m.getD j 0 = 1 + (j : Int)) : Ev (fun k => laws_heldIntS.f k m 1) (1 + (m.length : Int)) :=
  Ev.congr (fun k => by simp only [laws_heldIntS.f]; simp) (heldIntS_l m hn hm m.length 0 (by omega))
theorem markExpectS_l (n : Nat) (hn : n ≤ 1048576) : ∀ (d i : Nat), i + d = n → ∀ (l : List S52) (c : Int), l.length = n → 0 ≤ c → c ≤ 1 + 3 * i → ∃ r, 0 ≤ r.1 ∧ r.1 ≤ 1 + 3 * (n : Int) ∧ Ev (fun k => laws_markExpectS.l0 k l c (i : Int)) r := by
  intro d
  induction d with
  | zero =>
    intro i hi l c hl h0 h1
    refine ⟨(c, l), h0, by show c ≤ _; omega, Ev.step (f := fun _ => some (c, l)) (fun k => ?_) (Ev.now _)⟩
    simp only [laws_markExpectS.l0]
    rw [if_neg (by omega)]
  | succ d ih =>
    intro i hi l c hl h0 h1
    obtain ⟨r, h2, h3, h4⟩ := ih (i + 1) (by omega) (((l.set i ⟨c, (rd_T52 l (i : Int)).f1, (rd_T52 l (i : Int)).f2⟩).set i ⟨(rd_T52 (l.set i ⟨c, (rd_T52 l (i : Int)).f1, (rd_T52 l (i : Int)).f2⟩) (i : Int)).f0, c + 1, (rd_T52 (l.set i ⟨c, (rd_T52 l (i : Int)).f1, (rd_T52 l (i : Int)).f2⟩) (i : Int)).f2⟩).set i ⟨(rd_T52 ((l.set i ⟨c, (rd_T52 l (i : Int)).f1, (rd_T52 l (i : Int)).f2⟩).set i ⟨(rd_T52 (l.set i ⟨c, (rd_T52 l (i : Int)).f1, (rd_T52 l (i : Int)).f2⟩) (i : Int)).f0, c + 1, (rd_T52 (l.set i ⟨c, (rd_T52 l (i : Int)).f1, (rd_T52 l (i : Int)).f2⟩) (i : Int)).f2⟩) (i : Int)).f0, (rd_T52 ((l.set i ⟨c, (rd_T52 l (i : Int)).f1, (rd_T52 l (i : Int)).f2⟩).set i ⟨(rd_T52 (l.set i ⟨c, (rd_T52 l (i : Int)).f1, (rd_T52 l (i : Int)).f2⟩) (i : Int)).f0, c + 1, (rd_T52 (l.set i ⟨c, (rd_T52 l (i : Int)).f1, (rd_T52 l (i : Int)).f2⟩) (i : Int)).f2⟩) (i : Int)).f1, c + 1 + 1⟩) (c + 1 + 1 + 1) (by simpa using hl) (by omega) (by omega)
    refine ⟨r, h2, h3, Ev.step (fun k => ?_) h4⟩
    simp only [laws_markExpectS.l0, Option.bind_some]
    rw [if_pos (by omega), if_pos (by omega), wrap_in (x := c + 1) (by omega) (by omega), wrap_in (x := c + 1 + 1) (by omega) (by omega), wrap_in (x := c + 1 + 1 + 1) (by omega) (by omega), wrap_in (x := (i : Int) + 1) (by omega) (by omega)]
    simp
theorem markExpectS_ev (l : List S52) (hn : l.length ≤ 1048576) : ∃ r, 0 ≤ r.1 ∧ r.1 ≤ 1 + 3 * (l.length : Int) ∧ Ev (fun k => laws_markExpectS.f k l 1) r := by
  obtain ⟨r, h0, h1, h⟩ := markExpectS_l l.length hn l.length 0 (by omega) l 1 rfl (by omega) (by omega)
  exact ⟨r, h0, h1, Ev.congr (fun k => by simp only [laws_markExpectS.f]; rfl) h⟩
theorem markSightS_l (n : Nat) (hn : n ≤ 1048576) : ∀ (d i : Nat), i + d = n → ∀ (l : List S89) (c : Int), l.length = n → 0 ≤ c → c ≤ 4194304 + 2 * i → ∃ r, 0 ≤ r.1 ∧ Ev (fun k => laws_markSightS.l0 k l c (i : Int)) r := by
  intro d
  induction d with
  | zero =>
    intro i hi l c hl h0 h1
    refine ⟨(c, l), h0, Ev.step (f := fun _ => some (c, l)) (fun k => ?_) (Ev.now _)⟩
    simp only [laws_markSightS.l0]
    rw [if_neg (by omega)]
  | succ d ih =>
    intro i hi l c hl h0 h1
    obtain ⟨r, h2, h4⟩ := ih (i + 1) (by omega) ((l.set i ⟨c, (rd_T89 l (i : Int)).f1⟩).set i ⟨(rd_T89 (l.set i ⟨c, (rd_T89 l (i : Int)).f1⟩) (i : Int)).f0, c + 1⟩) (c + 1 + 1) (by simpa using hl) (by omega) (by omega)
    refine ⟨r, h2, Ev.step (fun k => ?_) h4⟩
    simp only [laws_markSightS.l0, Option.bind_some]
    rw [if_pos (by omega), if_pos (by omega), wrap_in (x := c + 1) (by omega) (by omega), wrap_in (x := c + 1 + 1) (by omega) (by omega), wrap_in (x := (i : Int) + 1) (by omega) (by omega)]
    simp
theorem markSightS_ev (l : List S89) (hn : l.length ≤ 1048576) (c : Int) (h0 : 0 ≤ c) (h1 : c ≤ 4194304) : ∃ r, 0 ≤ r.1 ∧ Ev (fun k => laws_markSightS.f k l c) r := by
  obtain ⟨r, h2, h⟩ := markSightS_l l.length hn l.length 0 (by omega) l c rfl h0 (by omega)
  exact ⟨r, h2, Ev.congr (fun k => by simp only [laws_markSightS.f]; rfl) h⟩
end Go.Proofs.Ytdmbfmfdijgdkaa.Pu
