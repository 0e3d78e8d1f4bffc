/- Marks: what is written into the answers and found there again. -/
import Derived.Test.YtdmbfmfdijgdkaaSv
import Derived.Test.YtdmbfmfdijgdkaaPx9
namespace Go.Proofs.Ytdmbfmfdijgdkaa.Pu
open Go.RowKit Go.Proofs.Ytdmbfmfdijgdkaa.Px Go.Proofs.YtdmbfmfdijgdkaaW.PrintWords Go.Proofs.YtdmbfmfdijgdkaaW.PrintLast
set_option linter.unusedVariables false

theorem eqIntS_l (l : List Int) (hn : l.length ≤ 4611686018427387904) : ∀ (d i : Nat), i + d = l.length → Ev (fun k => laws_eqIntS.l0 k l l (i : Int)) true := by
  intro d
  induction d with
  | zero =>
    intro i hi
    refine Ev.step (f := fun _ => some true) (fun k => ?_) (Ev.now _)
    simp only [laws_eqIntS.l0]
    rw [if_neg (by omega)]
  | succ d ih =>
    intro i hi
    refine Ev.step (f := fun k => laws_eqIntS.l0 k l l ((i + 1 : Nat) : Int)) (fun k => ?_) (ih (i + 1) (by omega))
    simp only [laws_eqIntS.l0]
    rw [if_pos (by omega), if_pos (by omega), if_pos (by omega), wrap_in (by omega) (by omega)]
    simp
theorem eqIntS_ev (l : List Int) (hn : l.length ≤ 1048576) : Ev (fun k => laws_eqIntS.f k l l) true := by
  refine Ev.congr (f := fun k => laws_eqIntS.l0 k l l ((0 : Nat) : Int)) (fun k => ?_) (eqIntS_l l (by omega) l.length 0 (by omega))
  simp only [laws_eqIntS.f]
  simp
theorem markIntS_l (n : Nat) (hn : n ≤ 1048576) : ∀ (d i : Nat), i + d = n → ∀ l : List Int, l.length = n → (∀ j, j < i → l.getD j 0 = 1 + (j : Int)) →
    ∃ m : List Int, m.length = n ∧ (∀ j, j < n → m.getD j 0 = 1 + (j : Int)) ∧ Ev (fun k => laws_markIntS.l0 k l (1 + (i : Int)) (i : Int)) (1 + (n : Int), m) := by
  intro d
  induction d with
  | zero =>
    intro i hi l hl hm
    have : i = n := by omega
    subst this
    refine ⟨l, hl, hm, Ev.step (f := fun _ => some (1 + (i : Int), l)) (fun k => ?_) (Ev.now _)⟩
    simp only [laws_markIntS.l0]
    rw [if_neg (by omega)]
  | succ d ih =>
    intro i hi l hl hm
    obtain ⟨m, h1, h2, h3⟩ := ih (i + 1) (by omega) (l.set i (1 + (i : Int))) (by simpa using hl) (by
      intro j hj
      simp only [List.getD_eq_getElem?_getD, List.getElem?_set]
      by_cases e : i = j
      · subst e
        rw [if_pos rfl, if_pos (by omega)]
        rfl
      · rw [if_neg e]
        have := hm j (by omega)
        simpa only [List.getD_eq_getElem?_getD] using this)
    refine ⟨m, h1, h2, Ev.step (fun k => ?_) h3⟩
    simp only [laws_markIntS.l0]
    rw [if_pos (by omega), if_pos (by omega), wrap_in (x := 1 + (i : Int) + 1) (by omega) (by omega), wrap_in (x := (i : Int) + 1) (by omega) (by omega)]
    have : (1 + (i : Int) + 1) = 1 + ((i + 1 : Nat) : Int) := by omega
    rw [this]
    simp
theorem markIntS_ev (l : List Int) (hn : l.length ≤ 1048576) : ∃ m : List Int, m.length = l.length ∧ (∀ j, j < l.length → m.getD j 0 = 1 + (j : Int)) ∧ Ev (fun k => laws_markIntS.f k l 1) (1 + (l.length : Int), m) := by
  obtain ⟨m, h1, h2, h3⟩ := markIntS_l l.length hn l.length 0 (by omega) l rfl (fun j hj => by omega)
  exact ⟨m, h1, h2, Ev.congr (fun k => by simp only [laws_markIntS.f]; simp) h3⟩
theorem heldIntS_l (m : List Int) (hn : m.length ≤ 1048576) (hm : ∀ j, j < m.length → m.getD j 0 = 1 + (j : Int)) : ∀ (d i : Nat), i + d = m.length → Ev (fun k => laws_heldIntS.l0 k m (1 + (i : Int)) (i : Int)) (1 + (m.length : Int)) := by
  intro d
  induction d with
  | zero =>
    intro i hi
    have : i = m.length := by omega
    subst this
    refine Ev.step (f := fun _ => some (1 + (m.length : Int))) (fun k => ?_) (Ev.now _)
    simp only [laws_heldIntS.l0]
    rw [if_neg (by omega)]
  | succ d ih =>
    intro i hi
    refine Ev.step (fun k => ?_) (ih (i + 1) (by omega))
    simp only [laws_heldIntS.l0]
    have := hm i (by omega)
    rw [if_pos (by omega), if_pos (by omega), rd_getD, this, if_pos rfl, wrap_in (x := 1 + (i : Int) + 1) (by omega) (by omega), wrap_in (x := (i : Int) + 1) (by omega) (by omega)]
    have : (1 + (i : Int) + 1) = 1 + ((i + 1 : Nat) : Int) := by omega
    rw [this]
    rfl
theorem heldIntS_ev (m : List Int) (hn : m.length ≤ 1048576) (hm : ∀ j, j < m.length → m.getD j 0 = 1 + (j : Int)) : Ev (fun k => laws_heldIntS.f k m 1) (1 + (m.length : Int)) :=
  Ev.congr (fun k => by simp only [laws_heldIntS.f]; simp) (heldIntS_l m hn hm m.length 0 (by omega))
theorem markImageS_l (n : Nat) (hn : n ≤ 1048576) : ∀ (d i : Nat), i + d = n → ∀ (l : List S41) (c : Int), l.length = n → 0 ≤ c → c ≤ 1 + 2 * i → ∃ r, 0 ≤ r.1 ∧ Ev (fun k => laws_markImageS.l0 k l c (i : Int)) r := by
  intro d
  induction d with
  | zero =>
    intro i hi l c hl h0 h1
    refine ⟨(c, l), h0, Ev.step (f := fun _ => some (c, l)) (fun k => ?_) (Ev.now _)⟩
    simp only [laws_markImageS.l0]
    rw [if_neg (by omega)]
  | succ d ih =>
    intro i hi l c hl h0 h1
    obtain ⟨r, hr, h⟩ := ih (i + 1) (by omega) ((l.set i (⟨c, (rd_T41 l (i : Int)).f1⟩ : S41)).set i (⟨(rd_T41 (l.set i (⟨c, (rd_T41 l (i : Int)).f1⟩ : S41)) (i : Int)).f0, c + 1⟩ : S41)) (c + 1 + 1) (by simpa using hl) (by omega) (by omega)
    refine ⟨r, hr, Ev.step (fun k => ?_) h⟩
    simp only [laws_markImageS.l0, Option.bind_some]
    rw [if_pos (by omega), if_pos (by omega), wrap_in (x := c + 1) (by omega) (by omega), wrap_in (x := c + 1 + 1) (by omega) (by omega), wrap_in (x := (i : Int) + 1) (by omega) (by omega)]
    rfl
theorem markImageS_ev (l : List S41) (hn : l.length ≤ 1048576) : ∃ r, 0 ≤ r.1 ∧ Ev (fun k => laws_markImageS.f k l 1) r := by
  obtain ⟨r, h0, h⟩ := markImageS_l l.length hn l.length 0 (by omega) l 1 rfl (by omega) (by omega)
  exact ⟨r, h0, Ev.congr (fun k => by simp only [laws_markImageS.f]; rfl) h⟩
end Go.Proofs.Ytdmbfmfdijgdkaa.Pu
