/- MostServed: both versions alike. -/
import Derived.Test.YtdmbfmfdijgdkaaLs
import Derived.Test.YtdmbfmfdijgdkaaPx7
import Derived.KernelRfl
namespace Go.Proofs.Ytdmbfmfdijgdkaa.Pu
open Go.RowKit Go.Proofs.Ytdmbfmfdijgdkaa.Px Go.Proofs.YtdmbfmfdijgdkaaW.PrintWords Go.Proofs.YtdmbfmfdijgdkaaW.PrintLast Go.Proofs.YtdmbfmfdijgdkaaW.PrintMore
set_option linter.unusedVariables false

/-- The images of a set, the first of them at place i. -/
def pick (s : Nat) : Nat → List S41 → List S41
  | _, [] => []
  | i, x :: r => if s.testBit i = true then x :: pick s (i + 1) r else pick s (i + 1) r
/-- How many bits of the ten stand. -/
def pop (s : Nat) : Nat → Nat → Nat
  | _, 0 => 0
  | i, d + 1 => (if s.testBit i = true then 1 else 0) + pop s (i + 1) d
theorem pick_len (s : Nat) : ∀ (l : List S41) (i : Nat), (pick s i l).length = pop s i l.length
  | [], i => rfl
  | x :: r, i => by
    simp only [pick, List.length_cons, pop]
    split
    · simp [pick_len s r, Nat.add_comm]
    · simp [pick_len s r]
theorem pop_zero (s m : Nat) (hs : s < 2 ^ m) : ∀ (d i : Nat), m ≤ i → pop s i d = 0
  | 0, i, h => rfl
  | d + 1, i, h => by
    simp only [pop]
    rw [pop_zero s m hs d (i + 1) (by omega)]
    have : s.testBit i = false := Nat.testBit_lt_two_pow (Nat.lt_of_lt_of_le hs (Nat.pow_le_pow_right (by omega) h))
    simp [this]
theorem pop_more (s m : Nat) (hs : s < 2 ^ m) (e : Nat) : ∀ (d i : Nat), i + d = m → pop s i (d + e) = pop s i d
  | 0, i, h => by
    rw [Nat.zero_add, pop_zero s m hs e i (by omega)]
    rfl
  | d + 1, i, h => by
    rw [Nat.add_right_comm]
    simp only [pop]
    rw [pop_more s m hs e d (i + 1) (by omega)]
theorem ones_all : ((List.range 1024).all fun s => decide (bits_OnesCount.f (IntKind.u64.wrap (s : Int)) = some ((pop s 0 10 : Nat) : Int))) = true := by kernel_rfl
theorem ones (s m : Nat) (hm : m ≤ 10) (hs : s < 2 ^ m) (l : List S41) (hl : l.length = m) : bits_OnesCount.f (IntKind.u64.wrap (s : Int)) = some (((pick s 0 l).length : Nat) : Int) := by
  have h10 : s < 1024 := Nat.lt_of_lt_of_le hs (Nat.pow_le_pow_right (by omega) hm : 2 ^ m ≤ 2 ^ 10)
  have := List.all_eq_true.1 ones_all s (List.mem_range.2 h10)
  rw [pick_len, hl]
  have e := pop_more s m hs (10 - m) m 0 (by omega)
  rw [show m + (10 - m) = 10 by omega] at e
  rw [← e]
  exact of_decide_eq_true this
theorem bit_is (s i : Nat) (hs : s < 1024) (hi : i < 10) : (Go.bits .and .i64 (shr .i64 (s : Int) (i : Int)) 1 = 1) ↔ s.testBit i = true := by
  have h : ((List.range 1024).all fun s => (List.range 10).all fun i => decide ((Go.bits .and .i64 (shr .i64 (s : Int) (i : Int)) 1 = 1) ↔ s.testBit i = true)) = true := by kernel_rfl
  exact of_decide_eq_true (List.all_eq_true.1 (List.all_eq_true.1 h s (List.mem_range.2 hs)) i (List.mem_range.2 hi))
theorem shl_in (m : Nat) (hm : m ≤ 10) : shl .i64 1 (m : Int) = ((2 ^ m : Nat) : Int) := by
  have h : ((List.range 11).all fun m => decide (shl .i64 1 (m : Int) = ((2 ^ m : Nat) : Int))) = true := by kernel_rfl
  exact of_decide_eq_true (List.all_eq_true.1 h m (List.mem_range.2 (by omega)))
/-- The most, over the sets from s on, d of them, b the best so far. -/
def best (l : List S41) (w n : Int) : Nat → Nat → Int → Int
  | 0, _, b => b
  | d + 1, s, b => best l w n d (s + 1) (if ((pick s 0 l).length : Int) > b ∧ dropped (pick s 0 l) w n = 0 then ((pick s 0 l).length : Int) else b)
def mostServed (l : List S41) (w n : Int) : Int := if rt l w n = true ∧ l.length ≤ 10 then best l w n (2 ^ l.length) 0 0 else -1
theorem pick_le (s : Nat) : ∀ (l : List S41) (i : Nat), (pick s i l).length ≤ l.length
  | [], i => by simp [pick]
  | x :: r, i => by
    simp only [pick]
    have := pick_le s r (i + 1)
    split <;> simp <;> omega
theorem two_le (m : Nat) (hm : m ≤ 10) : 2 ^ m ≤ 1024 := (Nat.pow_le_pow_right (by omega) hm : 2 ^ m ≤ 2 ^ 10)
theorem spec_in_l (l : List S41) (hl : l.length ≤ 10) (w n b : Int) (s : Nat) (hs : s < 1024) (r : Int) : ∀ (d i : Nat), i + d = l.length → ∀ out : List S41, out.length ≤ i →
    Ev (fun k => spec_MostServed.l1 k l w n b (s : Int) (out ++ pick s i (l.drop i)) (l.length : Int)) r → Ev (fun k => spec_MostServed.l1 k l w n b (s : Int) out (i : Int)) r := by
  intro d
  induction d with
  | zero =>
    intro i hi out ho h
    have : i = l.length := by omega
    subst this
    rw [List.drop_of_length_le (by omega)] at h
    simpa [pick] using h
  | succ d ih =>
    intro i hi out ho h
    have hlt : i < l.length := by omega
    rw [List.drop_eq_getElem_cons hlt] at h
    have er : rd_T41 l (i : Int) = l[i] := by rw [rd41_getD]; simp [hlt]
    simp only [pick] at h
    by_cases hb : s.testBit i = true
    · rw [if_pos hb] at h
      refine Ev.step (fun k => ?_) (ih (i + 1) (by omega) (out ++ [l[i]]) (by simp; omega) (by simpa using h))
      simp only [spec_MostServed.l1]
      rw [if_pos (by omega), if_pos (by omega), if_pos ((bit_is s i hs (by omega)).2 hb), if_pos (by omega), er, wrap_in (x := (i : Int) + 1) (by omega) (by omega)]
      rfl
    · rw [if_neg hb] at h
      refine Ev.step (fun k => ?_) (ih (i + 1) (by omega) out (by omega) h)
      simp only [spec_MostServed.l1]
      rw [if_pos (by omega), if_pos (by omega), if_neg (fun e => hb ((bit_is s i hs (by omega)).1 e)), wrap_in (x := (i : Int) + 1) (by omega) (by omega)]
      rfl
theorem spec_mo_l (l : List S41) (hl : l.length ≤ 10) (w n : Int) : ∀ (d s : Nat), s + d = 2 ^ l.length → ∀ b : Int, Ev (fun k => spec_MostServed.l0 k l w n b (s : Int)) (best l w n d s b) := by
  have h2 := two_le l.length hl
  intro d
  induction d with
  | zero =>
    intro s hs b
    refine Ev.step (f := fun _ => some b) (fun k => ?_) (Ev.now _)
    simp only [spec_MostServed.l0]
    rw [shl_in _ hl, if_neg (by omega)]
  | succ d ih =>
    intro s hs b
    have hp := pick_le s l 0
    have last : Ev (fun k => spec_MostServed.l1 k l w n b (s : Int) ([] ++ pick s 0 (l.drop 0)) (l.length : Int)) (best l w n (d + 1) s b) := by
      simp only [List.nil_append, List.drop_zero, best]
      have h := ih (s + 1) (by omega) (if ((pick s 0 l).length : Int) > b ∧ dropped (pick s 0 l) w n = 0 then ((pick s 0 l).length : Int) else b)
      refine Ev.round ((Lt.of (spec_dr_ev (pick s 0 l) (by omega) w n)).and (Lt.of h)) fun k ⟨e1, e2⟩ => ?_
      simp only [spec_MostServed.l1, e1, Option.bind_some]
      rw [if_neg (by omega), wrap_in (x := (s : Int) + 1) (by omega) (by omega)]
      by_cases c1 : ((pick s 0 l).length : Int) > b
      · rw [if_pos c1]
        by_cases c2 : dropped (pick s 0 l) w n = 0
        · rw [if_pos (show ((pick s 0 l).length : Int) > b ∧ dropped (pick s 0 l) w n = 0 from ⟨c1, c2⟩)] at e2 ⊢
          rw [if_pos c2]
          exact e2
        · rw [if_neg (show ¬ (((pick s 0 l).length : Int) > b ∧ dropped (pick s 0 l) w n = 0) from fun h => c2 h.2)] at e2 ⊢
          rw [if_neg c2]
          exact e2
      · rw [if_neg (show ¬ (((pick s 0 l).length : Int) > b ∧ dropped (pick s 0 l) w n = 0) from fun h => c1 h.1)] at e2 ⊢
        rw [if_neg c1]
        exact e2
    refine Ev.step (fun k => ?_) (spec_in_l l hl w n b s (by omega) _ l.length 0 (by omega) [] (by simp) last)
    simp only [spec_MostServed.l0]
    rw [shl_in _ hl, if_pos (by omega)]
    rfl
theorem impl_in_l (l : List S41) (hl : l.length ≤ 10) (w n b : Int) (s : Nat) (hs : s < 1024) (r : Int) : ∀ (d i : Nat), i + d = l.length → ∀ out : List S41, out.length ≤ i →
    Ev (fun k => impl_MostServed.l1 k l w n b (s : Int) (out ++ pick s i (l.drop i)) l (l.length : Int) (l.length : Int)) r → Ev (fun k => impl_MostServed.l1 k l w n b (s : Int) out l (l.length : Int) (i : Int)) r := by
  intro d
  induction d with
  | zero =>
    intro i hi out ho h
    have : i = l.length := by omega
    subst this
    rw [List.drop_of_length_le (by omega)] at h
    simpa [pick] using h
  | succ d ih =>
    intro i hi out ho h
    have hlt : i < l.length := by omega
    rw [List.drop_eq_getElem_cons hlt] at h
    have er : rd_T41 l (i : Int) = l[i] := by rw [rd41_getD]; simp [hlt]
    simp only [pick] at h
    by_cases hb : s.testBit i = true
    · rw [if_pos hb] at h
      refine Ev.step (fun k => ?_) (ih (i + 1) (by omega) (out ++ [l[i]]) (by simp; omega) (by simpa using h))
      simp only [impl_MostServed.l1]
      rw [if_pos (by omega), if_pos (by omega), if_pos (by omega), if_pos ((bit_is s i hs (by omega)).2 hb), if_pos (by omega), er, wrap_in (x := (i : Int) + 1) (by omega) (by omega)]
      rfl
    · rw [if_neg hb] at h
      refine Ev.step (fun k => ?_) (ih (i + 1) (by omega) out (by omega) h)
      simp only [impl_MostServed.l1]
      rw [if_pos (by omega), if_pos (by omega), if_pos (by omega), if_neg (fun e => hb ((bit_is s i hs (by omega)).1 e)), wrap_in (x := (i : Int) + 1) (by omega) (by omega)]
      rfl
theorem impl_mo_l (l : List S41) (hl : l.length ≤ 10) (w n : Int) : ∀ (d s : Nat), s + d = 2 ^ l.length → ∀ b : Int, Ev (fun k => impl_MostServed.l0 k l w n b (s : Int)) (best l w n d s b) := by
  have h2 := two_le l.length hl
  intro d
  induction d with
  | zero =>
    intro s hs b
    refine Ev.step (f := fun _ => some b) (fun k => ?_) (Ev.now _)
    simp only [impl_MostServed.l0]
    rw [shl_in _ hl, if_neg (by omega)]
  | succ d ih =>
    intro s hs b
    have hp := pick_le s l 0
    have last : Ev (fun k => impl_MostServed.l1 k l w n b (s : Int) ([] ++ pick s 0 (l.drop 0)) l (l.length : Int) (l.length : Int)) (best l w n (d + 1) s b) := by
      simp only [List.nil_append, List.drop_zero, best]
      have h := ih (s + 1) (by omega) (if ((pick s 0 l).length : Int) > b ∧ dropped (pick s 0 l) w n = 0 then ((pick s 0 l).length : Int) else b)
      refine Ev.round ((Lt.of (impl_dr_ev (pick s 0 l) (by omega) w n)).and (Lt.of h)) fun k ⟨e1, e2⟩ => ?_
      simp only [impl_MostServed.l1, e1, ones s l.length hl (by omega) l rfl, Option.bind_some]
      rw [if_neg (by omega), wrap_in (x := (s : Int) + 1) (by omega) (by omega)]
      by_cases c2 : dropped (pick s 0 l) w n = 0
      · rw [if_pos c2]
        by_cases c1 : ((pick s 0 l).length : Int) > b
        · rw [if_pos (show ((pick s 0 l).length : Int) > b ∧ dropped (pick s 0 l) w n = 0 from ⟨c1, c2⟩)] at e2 ⊢
          have : mx b ((pick s 0 l).length : Int) = ((pick s 0 l).length : Int) := by unfold mx; rw [if_pos (by omega)]
          rw [this]
          exact e2
        · rw [if_neg (show ¬ (((pick s 0 l).length : Int) > b ∧ dropped (pick s 0 l) w n = 0) from fun h => c1 h.1)] at e2 ⊢
          have : mx b ((pick s 0 l).length : Int) = b := by unfold mx; rw [if_neg (by omega)]
          rw [this]
          exact e2
      · rw [if_neg (show ¬ (((pick s 0 l).length : Int) > b ∧ dropped (pick s 0 l) w n = 0) from fun h => c2 h.2)] at e2 ⊢
        rw [if_neg c2]
        exact e2
    refine Ev.step (fun k => ?_) (impl_in_l l hl w n b s (by omega) _ l.length 0 (by omega) [] (by simp) last)
    simp only [impl_MostServed.l0]
    rw [shl_in _ hl, if_pos (by omega)]
    rfl
theorem spec_mo_ev (l : List S41) (hn : l.length ≤ 4611686018427387904) (w n : Int) : Ev (fun k => spec_MostServed.f k l w n) (mostServed l w n) := by
  have dead : Ev (fun k => spec_MostServed.j0 k l w n true) (-1) := Ev.step (f := fun _ => some (-1)) (fun k => by simp [spec_MostServed.j0]) (Ev.now _)
  unfold mostServed
  by_cases h : rt l w n = true
  · by_cases hl : l.length ≤ 10
    · rw [if_pos ⟨h, hl⟩]
      have live : Ev (fun k => spec_MostServed.j0 k l w n false) (best l w n (2 ^ l.length) 0 0) :=
        Ev.step (fun k => by simp only [spec_MostServed.j0]; rw [if_neg (by simp)]; rfl) (spec_mo_l l hl w n (2 ^ l.length) 0 (by omega) 0)
      refine Lt.ev ((Lt.of (right_ev l hn w n)).and (Lt.of live)) fun k ⟨e1, e2⟩ => ?_
      simp only [spec_MostServed.f, e1, h, Option.bind_some]
      rw [if_pos trivial, decide_eq_false (by omega)]
      exact e2
    · rw [if_neg (fun e => hl e.2)]
      refine Lt.ev ((Lt.of (right_ev l hn w n)).and (Lt.of dead)) fun k ⟨e1, e2⟩ => ?_
      simp only [spec_MostServed.f, e1, h, Option.bind_some]
      rw [if_pos trivial, decide_eq_true (by omega)]
      exact e2
  · rw [if_neg (fun e => h e.1)]
    refine Lt.ev ((Lt.of (right_ev l hn w n)).and (Lt.of dead)) fun k ⟨e1, e2⟩ => ?_
    simp only [spec_MostServed.f, e1, Option.bind_some]
    rw [if_neg h]
    exact e2
theorem impl_mo_ev (l : List S41) (hn : l.length ≤ 4611686018427387904) (w n : Int) : Ev (fun k => impl_MostServed.f k l w n) (mostServed l w n) := by
  have dead : Ev (fun k => impl_MostServed.j0 k l w n true) (-1) := Ev.step (f := fun _ => some (-1)) (fun k => by simp [impl_MostServed.j0]) (Ev.now _)
  unfold mostServed
  by_cases h : rt l w n = true
  · have hd : ¬ dropped l w n < 0 := by unfold dropped; rw [if_pos h]; omega
    by_cases hl : l.length ≤ 10
    · rw [if_pos ⟨h, hl⟩]
      have live : Ev (fun k => impl_MostServed.j0 k l w n false) (best l w n (2 ^ l.length) 0 0) :=
        Ev.step (fun k => by simp only [impl_MostServed.j0]; rw [if_neg (by simp)]; rfl) (impl_mo_l l hl w n (2 ^ l.length) 0 (by omega) 0)
      refine Lt.ev ((Lt.of (impl_dr_ev l hn w n)).and (Lt.of live)) fun k ⟨e1, e2⟩ => ?_
      simp only [impl_MostServed.f, e1, Option.bind_some]
      rw [if_neg hd, decide_eq_false (by omega)]
      exact e2
    · rw [if_neg (fun e => hl e.2)]
      refine Lt.ev ((Lt.of (impl_dr_ev l hn w n)).and (Lt.of dead)) fun k ⟨e1, e2⟩ => ?_
      simp only [impl_MostServed.f, e1, Option.bind_some]
      rw [if_neg hd, decide_eq_true (by omega)]
      exact e2
  · rw [if_neg (fun e => h e.1)]
    have hd : dropped l w n < 0 := by unfold dropped; rw [if_neg h]; omega
    refine Lt.ev ((Lt.of (impl_dr_ev l hn w n)).and (Lt.of dead)) fun k ⟨e1, e2⟩ => ?_
    simp only [impl_MostServed.f, e1, Option.bind_some]
    rw [if_pos hd]
    exact e2
end Go.Proofs.Ytdmbfmfdijgdkaa.Pu
