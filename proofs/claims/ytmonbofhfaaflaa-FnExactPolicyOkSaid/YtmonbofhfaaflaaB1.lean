/- Plain lemmas on the printed functions of this seat: conversions, comparisons, sizes. No memory, no Go. -/
import Derived.Test.YtmonbofhfaaflaaPx7
import Derived.Test.YtmonbofhfaaflaaPx10
namespace Go.Proofs.Ytmonbofhfaaflaa.Pu
open Go.RowKit Go.Proofs.Ytmonbofhfaaflaa.Px Go.Proofs.YtmonbofhfaaflaaW.PrintWords Go.Proofs.YtmonbofhfaaflaaW.PrintLast
set_option linter.unusedVariables false

theorem Ev.and2 {α β : Type} {g : Nat → Option α} {f : Nat → Option β} {a : α} {b : β} (h : Ev g a) (k : Ev f b) : ∃ K, ∀ n, K ≤ n → g n = some a ∧ f n = some b := by
  obtain ⟨K, h⟩ := h
  obtain ⟨K', k⟩ := k
  exact ⟨max K K', fun n hn => ⟨h n (by omega), k n (by omega)⟩⟩
/-- What holds from some number of rounds on. -/
def Lt (p : Nat → Prop) : Prop := ∃ K, ∀ n, K ≤ n → p n
theorem Lt.and {p q : Nat → Prop} (h : Lt p) (k : Lt q) : Lt (fun n => p n ∧ q n) := by
  obtain ⟨K, h⟩ := h
  obtain ⟨K', k⟩ := k
  exact ⟨max K K', fun n hn => ⟨h n (by omega), k n (by omega)⟩⟩
theorem Lt.of {α : Type} {g : Nat → Option α} {r : α} (h : Ev g r) : Lt (fun n => g n = some r) := h
theorem Lt.ev {α : Type} {g : Nat → Option α} {r : α} {p : Nat → Prop} (h : Lt p) (k : ∀ n, p n → g n = some r) : Ev g r := by
  obtain ⟨K, h⟩ := h
  exact ⟨K, fun n hn => k n (h n hn)⟩
theorem Lt.get {α : Type} {g : Nat → Option α} {r : α} {p : Nat → Prop} (h : Lt p) (k : ∀ n, p n → g n = some r) : ∃ n, g n = some r := (h.ev k).rounds

theorem wrap_in {x : Int} (h0 : -9223372036854775808 ≤ x) (h1 : x ≤ 9223372036854775807) : wrap64 x = x := by
  unfold wrap64
  omega
theorem wf_in {x : Int} (h : (Lit.int .i64 x).wf = true) : -9223372036854775808 ≤ x ∧ x ≤ 9223372036854775807 := by
  simp [Lit.wf] at h
  have h1 : IntKind.i64.min = -9223372036854775808 := by decide
  have h2 : IntKind.i64.max = 9223372036854775807 := by decide
  omega
theorem rd_nat (l : List Int) (i : Nat) (h : i < l.length) : rd l (i : Int) = l[i] := by simp [rd, h]
theorem take_set {α : Type} (l m : List α) (i : Nat) (hl : l.length = m.length) (hi : i < m.length) (h : l.take i = m.take i) : (l.set i m[i]).take (i + 1) = m.take (i + 1) := by
  apply List.ext_getElem?
  intro j
  rw [List.getElem?_take, List.getElem?_take]
  split
  · rename_i hj
    rw [List.getElem?_set]
    split
    · rename_i e
      subst e
      rw [if_pos (by omega), List.getElem?_eq_getElem hi]
    · have := congrArg (fun z => z[j]?) h
      simp only [List.getElem?_take] at this
      rwa [if_pos (by omega), if_pos (by omega)] at this
  · rfl

theorem toIntS_l (l : List Int) (hn : l.length ≤ 4611686018427387904) : ∀ (d i : Nat), i + d = l.length → ∀ m : List Int, m.length = l.length → m.take i = l.take i → Ev (fun k => laws_toIntS.l0 k l m (i : Int)) l := by
  intro d
  induction d with
  | zero =>
    intro i hi m hm ht
    refine Ev.step (f := fun _ => some l) (fun k => ?_) (Ev.now _)
    rw [List.take_of_length_le (by omega), List.take_of_length_le (by omega)] at ht
    subst ht
    simp only [laws_toIntS.l0]
    rw [if_neg (by omega)]
  | succ d ih =>
    intro i hi m hm ht
    refine Ev.step (f := fun k => laws_toIntS.l0 k l (m.set i l[i]) ((i + 1 : Nat) : Int)) (fun k => ?_) (ih (i + 1) (by omega) _ (by simp [hm]) (take_set m l i hm (by omega) ht))
    simp only [laws_toIntS.l0]
    rw [if_pos (by omega), if_pos (by omega), if_pos (by omega), wrap_in (by omega) (by omega), rd_nat l i (by omega)]
    simp
theorem toIntS_ev (l : List Int) (hn : l.length ≤ 1048576) : Ev (fun k => laws_toIntS.f k l) l := by
  refine Ev.congr (f := fun k => laws_toIntS.l0 k l (List.replicate l.length 0) ((0 : Nat) : Int)) (fun k => ?_) (toIntS_l l (by omega) l.length 0 (by omega) _ (by simp) (by simp))
  simp only [laws_toIntS.f]
  rw [if_pos (by omega), if_pos (by omega)]
  simp
theorem eqIntS_l (l : List Int) (hn : l.length ≤ 4611686018427387904) : ∀ (d i : Nat), i + d = l.length → Ev (fun k => laws_eqIntS.l0 k l l (i : Int)) true := by
  intro d
  induction d with
  | zero =>
    intro i hi
    refine Ev.step (f := fun _ => some true) (fun k => ?_) (Ev.now _)
    simp only [laws_eqIntS.l0]
    rw [if_neg (by omega)]
  | succ d ih =>
    intro i hi
    refine Ev.step (f := fun k => laws_eqIntS.l0 k l l ((i + 1 : Nat) : Int)) (fun k => ?_) (ih (i + 1) (by omega))
    simp only [laws_eqIntS.l0]
    rw [if_pos (by omega), if_pos (by omega), if_pos (by omega), wrap_in (by omega) (by omega)]
    simp
theorem eqIntS_ev (l : List Int) (hn : l.length ≤ 1048576) : Ev (fun k => laws_eqIntS.f k l l) true := by
  refine Ev.congr (f := fun k => laws_eqIntS.l0 k l l ((0 : Nat) : Int)) (fun k => ?_) (eqIntS_l l (by omega) l.length 0 (by omega))
  simp only [laws_eqIntS.f]
  simp
theorem rdB_nat (l : List Bool) (i : Nat) (h : i < l.length) : rdOf false l (i : Int) = l[i] := by simp [rdOf, h]
theorem toBoolS_l (l : List Bool) (hn : l.length ≤ 4611686018427387904) : ∀ (d i : Nat), i + d = l.length → ∀ m : List Bool, m.length = l.length → m.take i = l.take i → Ev (fun k => laws_toBoolS.l0 k l m (i : Int)) l := by
  intro d
  induction d with
  | zero =>
    intro i hi m hm ht
    refine Ev.step (f := fun _ => some l) (fun k => ?_) (Ev.now _)
    rw [List.take_of_length_le (by omega), List.take_of_length_le (by omega)] at ht
    subst ht
    simp only [laws_toBoolS.l0]
    rw [if_neg (by omega)]
  | succ d ih =>
    intro i hi m hm ht
    refine Ev.step (f := fun k => laws_toBoolS.l0 k l (m.set i l[i]) ((i + 1 : Nat) : Int)) (fun k => ?_) (ih (i + 1) (by omega) _ (by simp [hm]) (take_set m l i hm (by omega) ht))
    simp only [laws_toBoolS.l0]
    rw [if_pos (by omega), if_pos (by omega), if_pos (by omega), wrap_in (by omega) (by omega), rdB_nat l i (by omega)]
    simp
theorem toBoolS_ev (l : List Bool) (hn : l.length ≤ 1048576) : Ev (fun k => laws_toBoolS.f k l) l := by
  refine Ev.congr (f := fun k => laws_toBoolS.l0 k l (List.replicate l.length false) ((0 : Nat) : Int)) (fun k => ?_) (toBoolS_l l (by omega) l.length 0 (by omega) _ (by simp) (by simp))
  simp only [laws_toBoolS.f]
  rw [if_pos (by omega), if_pos (by omega)]
  simp
theorem eqBoolS_l (l : List Bool) (hn : l.length ≤ 4611686018427387904) : ∀ (d i : Nat), i + d = l.length → Ev (fun k => laws_eqBoolS.l0 k l l (i : Int)) true := by
  intro d
  induction d with
  | zero =>
    intro i hi
    refine Ev.step (f := fun _ => some true) (fun k => ?_) (Ev.now _)
    simp only [laws_eqBoolS.l0]
    rw [if_neg (by omega)]
  | succ d ih =>
    intro i hi
    refine Ev.step (f := fun k => laws_eqBoolS.l0 k l l ((i + 1 : Nat) : Int)) (fun k => ?_) (ih (i + 1) (by omega))
    simp only [laws_eqBoolS.l0]
    rw [if_pos (by omega), if_pos (by omega), if_pos (by omega), wrap_in (by omega) (by omega)]
    simp
theorem eqBoolS_ev (l : List Bool) (hn : l.length ≤ 1048576) : Ev (fun k => laws_eqBoolS.f k l l) true := by
  refine Ev.congr (f := fun k => laws_eqBoolS.l0 k l l ((0 : Nat) : Int)) (fun k => ?_) (eqBoolS_l l (by omega) l.length 0 (by omega))
  simp only [laws_eqBoolS.f]
  simp
/-- The images, as the program's own type. -/
def img (x : S79) : S77 := ⟨x.f0, x.f1⟩
theorem rd79_nat (l : List S79) (i : Nat) (h : i < l.length) : rd_T79 l (i : Int) = l[i] := by simp [rd_T79, h]
theorem rd77_nat (l : List S77) (i : Nat) (h : i < l.length) : rd_T77 l (i : Int) = l[i] := by simp [rd_T77, h]
theorem toImageS_l (l : List S79) (hn : l.length ≤ 4611686018427387904) : ∀ (d i : Nat), i + d = l.length → ∀ m : List S77, m.length = (l.map img).length → m.take i = (l.map img).take i → Ev (fun k => laws_toImageS.l0 k l m (i : Int)) (l.map img) := by
  intro d
  induction d with
  | zero =>
    intro i hi m hm ht
    refine Ev.step (f := fun _ => some (l.map img)) (fun k => ?_) (Ev.now _)
    rw [List.take_of_length_le (by simp at hm; omega), List.take_of_length_le (by simp; omega)] at ht
    subst ht
    simp only [laws_toImageS.l0]
    rw [if_neg (by omega)]
  | succ d ih =>
    intro i hi m hm ht
    have hm' : m.length = l.length := by simpa using hm
    refine Ev.step (f := fun k => laws_toImageS.l0 k l (m.set i (l.map img)[i]) ((i + 1 : Nat) : Int)) (fun k => ?_) (ih (i + 1) (by omega) _ (by simp [hm']) (take_set m (l.map img) i hm (by simp; omega) ht))
    simp only [laws_toImageS.l0, laws_toImage.f, Option.bind_some]
    rw [if_pos (by omega), if_pos (by omega), if_pos (by omega), wrap_in (by omega) (by omega), rd79_nat l i (by omega)]
    simp [img]
theorem toImageS_ev (l : List S79) (hn : l.length ≤ 1048576) : Ev (fun k => laws_toImageS.f k l) (l.map img) := by
  refine Ev.congr (f := fun k => laws_toImageS.l0 k l (List.replicate l.length z77) ((0 : Nat) : Int)) (fun k => ?_) (toImageS_l l (by omega) l.length 0 (by omega) _ (by simp) (by simp))
  simp only [laws_toImageS.f]
  rw [if_pos (by omega), if_pos (by omega)]
  simp
theorem eqImageS_l (l : List S77) (hn : l.length ≤ 4611686018427387904) : ∀ (d i : Nat), i + d = l.length → Ev (fun k => laws_eqImageS.l0 k l l (i : Int)) true := by
  intro d
  induction d with
  | zero =>
    intro i hi
    refine Ev.step (f := fun _ => some true) (fun k => ?_) (Ev.now _)
    simp only [laws_eqImageS.l0]
    rw [if_neg (by omega)]
  | succ d ih =>
    intro i hi
    refine Ev.step (f := fun k => laws_eqImageS.l0 k l l ((i + 1 : Nat) : Int)) (fun k => ?_) (ih (i + 1) (by omega))
    simp only [laws_eqImageS.l0, laws_eqImage.f]
    rw [if_pos (by omega), if_pos (by omega), if_pos (by omega), wrap_in (by omega) (by omega)]
    simp
theorem eqImageS_ev (l : List S77) (hn : l.length ≤ 1048576) : Ev (fun k => laws_eqImageS.f k l l) true := by
  refine Ev.congr (f := fun k => laws_eqImageS.l0 k l l ((0 : Nat) : Int)) (fun k => ?_) (eqImageS_l l (by omega) l.length 0 (by omega))
  simp only [laws_eqImageS.f]
  simp
theorem szIntS_big (l : List Int) (h : l.length ≤ 17592186044416) : ∃ t, laws_szIntS.f l 1048576 = some t ∧ (0 ≤ t → l.length ≤ 1048576) := by
  unfold laws_szIntS.f
  rw [wrap_in (by omega) (by omega)]
  split
  · exact ⟨_, rfl, by omega⟩
  · exact ⟨_, rfl, by omega⟩
theorem szImageS_big (l : List S79) (h : l.length ≤ 17592186044416) : ∃ t, laws_szImageS.f l 1048576 = some t ∧ (0 ≤ t → l.length ≤ 1048576) := by
  unfold laws_szImageS.f
  rw [wrap_in (by omega) (by omega)]
  split
  · exact ⟨_, rfl, by omega⟩
  · exact ⟨_, rfl, by omega⟩
theorem szPolicy_big (l : List Int) (h : l.length ≤ 17592186044416) : ∃ t, laws_szPolicy.f l 1048576 = some t ∧ (0 ≤ t → l.length ≤ 1048576) := by
  obtain ⟨t, ht, h0⟩ := szIntS_big l h
  unfold laws_szPolicy.f
  rw [ht]
  simp only [Option.bind_some]
  split
  · exact ⟨_, rfl, by omega⟩
  · exact ⟨_, rfl, h0⟩
theorem toPolicy_ev (l : List Int) (hn : l.length ≤ 1048576) : Ev (fun k => laws_toPolicy.f k l) l :=
  Lt.ev (Lt.of (toIntS_ev l hn)) (fun n h => by simp only [laws_toPolicy.f]; rw [h]; rfl)
theorem eqPolicy_ev (l : List Int) (hn : l.length ≤ 1048576) : Ev (fun k => laws_eqPolicy.f k l l) true :=
  Lt.ev (Lt.of (eqIntS_ev l hn)) (fun n h => by simp only [laws_eqPolicy.f]; rw [h]; rfl)
end Go.Proofs.Ytmonbofhfaaflaa.Pu
