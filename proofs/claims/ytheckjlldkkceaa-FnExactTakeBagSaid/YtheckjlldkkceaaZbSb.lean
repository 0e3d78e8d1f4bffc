import Derived.Test.YtheckjlldkkceaaZbBa
import Derived.Test.YtheckjlldkkceaaZbPx4
namespace Go.Proofs.Ytheckjlldkkceaa.Pu
open Go.RowKit Go.Proofs.Ytheckjlldkkceaa.Px Go.Proofs.YtheckjlldkkceaaW.PrintWords Go.Proofs.YtheckjlldkkceaaW.PrintLast
set_option linter.unusedVariables false
def kep (x : S98) : S30 := ⟨x.f0, x.f1⟩
def kps (l : List S98) : List S30 := l.map kep
theorem rd98_nat (l : List S98) (i : Nat) (h : i < l.length) : rd_T98 l (i : Int) = l[i] := by simp [rd_T98, h]
theorem rd30_nat (l : List S30) (i : Nat) (h : i < l.length) : rd_T30 l (i : Int) = l[i] := by simp [rd_T30, h]
theorem rdL2_nat (l : List (List S30)) (i : Nat) (h : i < l.length) : rd_L2 l (i : Int) = l[i] := by simp [rd_L2, h]
theorem rdLQ_nat (l : List (List S98)) (i : Nat) (h : i < l.length) : rd_L7 l (i : Int) = l[i] := by simp [rd_L7, h]
theorem toKeptS_l (l : List S98) (hn : l.length ≤ 4611686018427387904) : ∀ (d i : Nat), i + d = l.length → ∀ m : List S30, m.length = (kps l).length → m.take i = (kps l).take i → Ev (fun k => laws_toKeptS.l0 k l m (i : Int)) (kps l) := by
  intro d
  induction d with
  | zero =>
    intro i hi m hm ht
    refine Ev.step (f := fun _ => some (kps l)) (fun k => ?_) (Ev.now _)
    rw [List.take_of_length_le (by simp [kps] at hm; omega), List.take_of_length_le (by simp [kps]; omega)] at ht
    subst ht
    simp only [laws_toKeptS.l0]
    rw [if_neg (by omega)]
  | succ d ih =>
    intro i hi m hm ht
    have hm' : m.length = l.length := by simpa [kps] using hm
    refine Ev.step (f := fun k => laws_toKeptS.l0 k l (m.set i ((kps l)[i]'(by simp [kps]; omega))) ((i + 1 : Nat) : Int)) (fun k => ?_) (ih (i + 1) (by omega) _ (by simp [hm', kps]) (take_set m (kps l) i hm (by simp [kps]; omega) ht))
    simp only [laws_toKeptS.l0, laws_toKept.f, Option.bind_some]
    rw [if_pos (by omega), if_pos (by omega), if_pos (by omega), wrap_in (by omega) (by omega), rd98_nat l i (by omega)]
    simp [kep, kps]
theorem toKeptS_ev (l : List S98) (hn : l.length ≤ 1048576) : Ev (fun k => laws_toKeptS.f k l) (kps l) := by
  refine Ev.congr (f := fun k => laws_toKeptS.l0 k l (List.replicate l.length z30) ((0 : Nat) : Int)) (fun k => ?_) (toKeptS_l l (by omega) l.length 0 (by omega) _ (by simp [kps]) (by simp))
  simp only [laws_toKeptS.f]
  rw [if_pos (by omega), if_pos (by omega)]
  simp
theorem toKeptSS_l (l : List (List S98)) (hn : l.length ≤ 1048576) (hb : ∀ x ∈ l, x.length ≤ 1048576) : ∀ (d i : Nat), i + d = l.length → ∀ m : List (List S30), m.length = (l.map kps).length → m.take i = (l.map kps).take i → Ev (fun k => laws_toKeptSS.l0 k l m (i : Int)) (l.map kps) := by
  intro d
  induction d with
  | zero =>
    intro i hi m hm ht
    refine Ev.step (f := fun _ => some (l.map kps)) (fun k => ?_) (Ev.now _)
    rw [List.take_of_length_le (by simp at hm; omega), List.take_of_length_le (by simp; omega)] at ht
    subst ht
    simp only [laws_toKeptSS.l0]
    rw [if_neg (by omega)]
  | succ d ih =>
    intro i hi m hm ht
    have hm' : m.length = l.length := by simpa using hm
    have hlt : i < l.length := by omega
    refine Ev.round ((Lt.of (toKeptS_ev l[i] (hb _ (List.getElem_mem hlt)))).and (Lt.of (ih (i + 1) (by omega) (m.set i (l.map kps)[i]) (by simp [hm']) (take_set m (l.map kps) i hm (by simp; omega) ht)))) fun k ⟨e1, e2⟩ => ?_
    simp only [laws_toKeptSS.l0]
    rw [if_pos (by omega), if_pos (by omega), rdLQ_nat l i hlt, e1]
    simp only [Option.bind_some]
    rw [if_pos (by omega), wrap_in (by omega) (by omega)]
    simpa using e2
theorem toStore_ev (a : Int) (l : List (List S98)) (hn : l.length ≤ 1048576) (hb : ∀ x ∈ l, x.length ≤ 1048576) : Ev (fun k => laws_toStore.f k a l) (a, l.map kps) := by
  refine Lt.ev (Lt.of (toKeptSS_l l hn hb l.length 0 (by omega) (List.replicate l.length []) (by simp) (by simp))) fun k e => ?_
  simp only [laws_toStore.f, laws_toKeptSS.f]
  rw [if_pos (by omega), if_pos (by omega)]
  have e' : laws_toKeptSS.l0 k l (List.replicate ((l.length : Int)).toNat []) 0 = some (l.map kps) := by simpa using e
  rw [e']
  rfl
theorem eqKeptS_l (l : List S30) (hn : l.length ≤ 4611686018427387904) : ∀ (d i : Nat), i + d = l.length → Ev (fun k => laws_eqKeptS.l0 k l l (i : Int)) true := by
  intro d
  induction d with
  | zero =>
    intro i hi
    refine Ev.step (f := fun _ => some true) (fun k => ?_) (Ev.now _)
    simp only [laws_eqKeptS.l0]
    rw [if_neg (by omega)]
  | succ d ih =>
    intro i hi
    refine Ev.step (f := fun k => laws_eqKeptS.l0 k l l ((i + 1 : Nat) : Int)) (fun k => ?_) (ih (i + 1) (by omega))
    simp only [laws_eqKeptS.l0, laws_eqKept.f]
    rw [if_pos (by omega), if_pos (by omega), if_pos (by omega), wrap_in (by omega) (by omega)]
    simp
theorem eqKeptS_ev (l : List S30) (hn : l.length ≤ 1048576) : Ev (fun k => laws_eqKeptS.f k l l) true := by
  refine Ev.congr (f := fun k => laws_eqKeptS.l0 k l l ((0 : Nat) : Int)) (fun k => ?_) (eqKeptS_l l (by omega) l.length 0 (by omega))
  simp only [laws_eqKeptS.f]
  simp
theorem eqKeptSS_l (l : List (List S30)) (hn : l.length ≤ 1048576) (hb : ∀ x ∈ l, x.length ≤ 1048576) : ∀ (d i : Nat), i + d = l.length → Ev (fun k => laws_eqKeptSS.l0 k l l (i : Int)) true := by
  intro d
  induction d with
  | zero =>
    intro i hi
    refine Ev.step (f := fun _ => some true) (fun k => ?_) (Ev.now _)
    simp only [laws_eqKeptSS.l0]
    rw [if_neg (by omega)]
  | succ d ih =>
    intro i hi
    have hlt : i < l.length := by omega
    refine Ev.round ((Lt.of (eqKeptS_ev l[i] (hb _ (List.getElem_mem hlt)))).and (Lt.of (ih (i + 1) (by omega)))) fun k ⟨e1, e2⟩ => ?_
    simp only [laws_eqKeptSS.l0]
    rw [if_pos (by omega), if_pos (by omega), if_pos (by omega), rdL2_nat l i hlt, e1]
    simp only [Option.bind_some]
    rw [if_pos trivial, wrap_in (by omega) (by omega)]
    exact e2
theorem eqStore_ev (a : Int) (l : List (List S30)) (hn : l.length ≤ 1048576) (hb : ∀ x ∈ l, x.length ≤ 1048576) : Ev (fun k => laws_eqStore.f k a l a l) true := by
  refine Lt.ev (Lt.of (eqKeptSS_l l hn hb l.length 0 (by omega))) fun k e => ?_
  simp only [laws_eqStore.f, laws_eqKeptSS.f]
  rw [if_pos trivial, if_pos trivial]
  have e' : laws_eqKeptSS.l0 k l l 0 = some true := e
  rw [e']
  rfl
def tot (l : List (List S98)) : Nat := (l.map List.length).sum
theorem szKeptSS_l (l : List (List S98)) (hn : l.length ≤ 17592186044416) (hb : ∀ x ∈ l, x.length ≤ 17592186044416) : ∀ (d i : Nat), i + d = l.length → ∀ c : Int, 0 ≤ c → c ≤ 1048576 → ∃ t, Ev (fun k => laws_szKeptSS.l0 k l c (i : Int)) t ∧ (0 ≤ t → (tot (l.drop i) : Int) ≤ c) := by
  intro d
  induction d with
  | zero =>
    intro i hi c h0 h1
    refine ⟨c, Ev.step (f := fun _ => some c) (fun k => ?_) (Ev.now _), fun _ => ?_⟩
    · simp only [laws_szKeptSS.l0]
      rw [if_neg (by omega)]
    · rw [List.drop_of_length_le (by omega)]
      simpa [tot] using h0
  | succ d ih =>
    intro i hi c h0 h1
    have hlt : i < l.length := by omega
    have hbi := hb _ (List.getElem_mem hlt)
    by_cases hc : c - (l[i].length : Int) < 0
    · refine ⟨-1, Ev.step (f := fun _ => some (-1)) (fun k => ?_) (Ev.now _), fun h => absurd h (by omega)⟩
      simp only [laws_szKeptSS.l0, laws_szKeptS.f]
      rw [if_pos (by omega), if_pos (by omega), rdLQ_nat l i hlt, wrap_in (x := c - (l[i].length : Int)) (by omega) (by omega), if_pos hc]
      rfl
    · obtain ⟨t, e, ht⟩ := ih (i + 1) (by omega) (c - (l[i].length : Int)) (by omega) (by omega)
      refine ⟨t, Ev.step (fun k => ?_) e, fun h => ?_⟩
      · simp only [laws_szKeptSS.l0, laws_szKeptS.f]
        rw [if_pos (by omega), if_pos (by omega), rdLQ_nat l i hlt, wrap_in (x := c - (l[i].length : Int)) (by omega) (by omega), if_neg hc]
        simp only [Option.bind_some]
        rw [if_neg hc, wrap_in (x := (i : Int) + 1) (by omega) (by omega)]
        rfl
      · have := ht h
        rw [List.drop_eq_getElem_cons hlt]
        simp only [tot, List.map_cons, List.sum_cons] at this ⊢
        omega
theorem szStore_ev (a : Int) (l : List (List S98)) (hn : l.length ≤ 17592186044416) (hb : ∀ x ∈ l, x.length ≤ 17592186044416) : ∃ t, Ev (fun k => laws_szStore.f k a l 1048576) t ∧ (0 ≤ t → l.length + tot l ≤ 1048576) := by
  by_cases hc : (1048576 : Int) - (l.length : Int) < 0
  · refine ⟨-1, Ev.congr (f := fun _ => some (-1)) (fun k => ?_) (Ev.now _), fun h => absurd h (by omega)⟩
    simp only [laws_szStore.f, laws_szKeptSS.f]
    rw [wrap_in (x := (1048576 : Int) - (l.length : Int)) (by omega) (by omega), if_pos hc]
    rfl
  · obtain ⟨t, e, ht⟩ := szKeptSS_l l hn hb l.length 0 (by omega) (1048576 - (l.length : Int)) (by omega) (by omega)
    refine ⟨if t < 0 then -1 else t, Lt.ev (Lt.of e) fun k e => ?_, fun h => ?_⟩
    · simp only [laws_szStore.f, laws_szKeptSS.f]
      rw [wrap_in (x := (1048576 : Int) - (l.length : Int)) (by omega) (by omega), if_neg hc]
      have e' : laws_szKeptSS.l0 k l (1048576 - (l.length : Int)) 0 = some t := e
      rw [e']
      simp only [Option.bind_some]
      split <;> rfl
    · have h2 : 0 ≤ t := by
        by_cases h3 : t < 0
        · rw [if_pos h3] at h; omega
        · omega
      have := ht h2
      simp only [List.drop_zero] at this
      omega
theorem tot_ge (l : List (List S98)) (x : List S98) (hx : x ∈ l) : x.length ≤ tot l := by
  induction l with
  | nil => cases hx
  | cons y r ih =>
    simp only [tot, List.map_cons, List.sum_cons]
    rcases List.mem_cons.1 hx with rfl | h
    · omega
    · have := ih h
      simp only [tot] at this
      omega
theorem tot_flat (l : List (List S98)) : (l.map kps).flatten.length = tot l := by
  rw [List.length_flatten, List.map_map]
  unfold tot
  congr 1
  apply List.map_congr_left
  intro x _
  simp [kps]
end Go.Proofs.Ytheckjlldkkceaa.Pu
