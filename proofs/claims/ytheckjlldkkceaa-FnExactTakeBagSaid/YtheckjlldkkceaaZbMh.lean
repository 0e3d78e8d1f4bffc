import Derived.Test.YtheckjlldkkceaaZbHp
import Derived.Test.YtheckjlldkkceaaZbMk
import Derived.Test.YtheckjlldkkceaaZbPx32
namespace Go.Proofs.Ytheckjlldkkceaa.Pu
open Go.RowKit Go.Proofs.Ytheckjlldkkceaa.Px Go.Proofs.YtheckjlldkkceaaW.PrintWords Go.Proofs.YtheckjlldkkceaaW.PrintLast Go.Proofs.YtheckjlldkkceaaW.PrintMore
set_option linter.unusedVariables false
theorem eqHopS_l (l : List S78) (hn : l.length ≤ 1048576) : ∀ (d i : Nat), i + d = l.length → Ev (fun k => laws_eqHopS.l0 k l l (i : Int)) true := by
  intro d
  induction d with
  | zero =>
    intro i hi
    refine Ev.step (f := fun _ => some true) (fun k => ?_) (Ev.now _)
    simp only [laws_eqHopS.l0]
    rw [if_neg (by omega)]
  | succ d ih =>
    intro i hi
    refine Ev.step (fun k => ?_) (ih (i + 1) (by omega))
    simp only [laws_eqHopS.l0, laws_eqHop.f]
    rw [if_pos (by omega), if_pos (by omega), if_pos (by omega), if_pos trivial, if_pos trivial, if_pos trivial]
    simp only [Option.bind_some]
    rw [if_pos trivial, wrap_in (x := (i : Int) + 1) (by omega) (by omega)]
    rfl
theorem eqHopS_ev (l : List S78) (hn : l.length ≤ 1048576) : Ev (fun k => laws_eqHopS.f k l l) true := by
  refine Lt.ev (Lt.of (eqHopS_l l hn l.length 0 (by omega))) fun k e => ?_
  simp only [laws_eqHopS.f]
  rw [if_pos trivial]
  exact e
def mkH : Int → List S78 → List S78
  | _, [] => []
  | x, _ :: ms => ⟨x, x + 1, x + 2⟩ :: mkH (x + 3) ms
theorem markH_l : ∀ (ms pre : List S78) (x : Int), 0 ≤ x → x + 3 * ms.length ≤ 4611686018427387904 → pre.length + ms.length ≤ 4611686018427387904 →
    Ev (fun k => laws_markHopS.l0 k (pre ++ ms) x (pre.length : Int)) (x + 3 * ms.length, pre ++ mkH x ms)
  | [], pre, x, h0, h1, h2 => by
    refine Ev.step (f := fun _ => some (x + 3 * (([] : List S78).length : Int), pre ++ mkH x [])) (fun k => ?_) (Ev.now _)
    simp only [laws_markHopS.l0]
    rw [if_neg (by simp)]
    simp [mkH]
  | s :: ms, pre, x, h0, h1, h2 => by
    rw [List.length_cons] at h1 h2
    have h := markH_l ms (pre ++ [⟨x, x + 1, x + 2⟩]) (x + 3) (by omega) (by omega) (by rw [List.length_append]; simp; omega)
    have e1 : pre ++ [(⟨x, x + 1, x + 2⟩ : S78)] ++ ms = pre ++ ⟨x, x + 1, x + 2⟩ :: ms := by simp
    have e2 : pre ++ [(⟨x, x + 1, x + 2⟩ : S78)] ++ mkH (x + 3) ms = pre ++ mkH x (s :: ms) := by simp [mkH]
    rw [e1, e2] at h
    have e3 : x + 3 + 3 * (ms.length : Int) = x + 3 * ((s :: ms).length : Int) := by simp only [List.length_cons]; omega
    rw [e3] at h
    refine Ev.step (fun k => ?_) h
    simp only [laws_markHopS.l0]
    rw [if_pos (by simp only [List.length_append, List.length_cons]; omega), if_pos (by omega)]
    simp only [Option.bind_some, rd_T78, Int.toNat_natCast, set_mid, getD_mid]
    rw [wrap_in (x := x + 1) (by omega) (by omega), wrap_in (x := x + 1 + 1) (by omega) (by omega), wrap_in (x := x + 1 + 1 + 1) (by omega) (by omega), wrap_in (x := (pre.length : Int) + 1) (by omega) (by omega), show x + 1 + 1 = x + 2 by omega, show x + 2 + 1 = x + 3 by omega]
    simp
theorem markH_ev (ms : List S78) (x : Int) (h0 : 0 ≤ x) (h1 : x + 3 * ms.length ≤ 4611686018427387904) (h2 : ms.length ≤ 1048576) : Ev (fun k => laws_markHopS.f k ms x) (x + 3 * ms.length, mkH x ms) :=
  Ev.congr (fun k => by simp only [laws_markHopS.f]; rfl) (markH_l ms [] x h0 h1 (by simp; omega))
theorem heldH_l : ∀ (ms pre : List S78) (x : Int), 0 ≤ x → x + 3 * ms.length ≤ 4611686018427387904 → pre.length + ms.length ≤ 4611686018427387904 →
    Ev (fun k => laws_heldHopS.l0 k (pre ++ mkH x ms) x (pre.length : Int)) (x + 3 * ms.length)
  | [], pre, x, h0, h1, h2 => by
    refine Ev.step (f := fun _ => some (x + 3 * (([] : List S78).length : Int))) (fun k => ?_) (Ev.now _)
    simp only [laws_heldHopS.l0]
    rw [if_neg (by simp [mkH])]
    simp
  | s :: ms, pre, x, h0, h1, h2 => by
    rw [List.length_cons] at h1 h2
    have h := heldH_l ms (pre ++ [⟨x, x + 1, x + 2⟩]) (x + 3) (by omega) (by omega) (by rw [List.length_append]; simp; omega)
    have e2 : pre ++ [(⟨x, x + 1, x + 2⟩ : S78)] ++ mkH (x + 3) ms = pre ++ ⟨x, x + 1, x + 2⟩ :: mkH (x + 3) ms := by simp
    rw [e2] at h
    have e3 : x + 3 + 3 * (ms.length : Int) = x + 3 * ((s :: ms).length : Int) := by simp only [List.length_cons]; omega
    rw [e3] at h
    rw [show mkH x (s :: ms) = ⟨x, x + 1, x + 2⟩ :: mkH (x + 3) ms from rfl]
    refine Ev.step (fun k => ?_) h
    simp only [laws_heldHopS.l0]
    rw [if_pos (by simp only [List.length_append, List.length_cons]; omega), if_pos (by omega)]
    simp only [rd_T78, Int.toNat_natCast, getD_mid]
    rw [if_pos trivial, wrap_in (x := x + 1) (by omega) (by omega), if_pos rfl, wrap_in (x := x + 1 + 1) (by omega) (by omega), if_pos (by omega), wrap_in (x := x + 1 + 1 + 1) (by omega) (by omega), wrap_in (x := (pre.length : Int) + 1) (by omega) (by omega), show x + 1 + 1 + 1 = x + 3 by omega]
    simp
theorem heldH_ev (ms : List S78) (x : Int) (h0 : 0 ≤ x) (h1 : x + 3 * ms.length ≤ 4611686018427387904) (h2 : ms.length ≤ 1048576) : Ev (fun k => laws_heldHopS.f k (mkH x ms) x) (x + 3 * ms.length) :=
  Ev.congr (fun k => by simp only [laws_heldHopS.f]; rfl) (heldH_l ms [] x h0 h1 (by simp; omega))
theorem take_both (a : Int) (l : List (List S30)) (b : Int) (hl : l.length ≤ 1048576) (hf : l.flatten.length ≤ 1048576) (hm : ∀ x ∈ l, x.length ≤ 1048576) : ∃ (l' : List (List S30)) (h : List S78) (ok : Bool),
    Ev (fun k => impl_TakeBag.f k a l b) (a, l', h, ok) ∧ Ev (fun k => spec_TakeBag.f k a l b) (a, l', h, ok) ∧ l'.length ≤ 1048576 ∧ l'.flatten.length ≤ 1048576 ∧ (∀ x ∈ l', x.length ≤ 1048576) ∧ h.length ≤ 1048576 := by
  by_cases hh : stOk a l = true ∧ ¬ fnd l b < 0
  · obtain ⟨i, hi, x, hfd, hx, hb⟩ := fnd_in hh.2
    obtain ⟨p, q, e⟩ := lane_split hx
    subst hb
    obtain ⟨t1, t2⟩ := take_yes hh.1 hi e
    cases ht : tk a i q.length l [] with
    | none =>
      rw [ht] at t1 t2
      exact ⟨l, [], false, t1, t2, hl, hf, hm, by simp⟩
    | some r =>
      obtain ⟨l', h'⟩ := r
      rw [ht] at t1 t2
      obtain ⟨r1, r2, r3, r4, r5⟩ := tk_is q.length l [] p q x hh.1 hi e rfl l' h' ht
      have := st_small r1
      have := flat_small r1
      have := lane_short hh.1 hi e
      exact ⟨l', h', true, t1, t2, by omega, by omega, (st_small r1).2, by rw [r3]; simp; omega⟩
  · obtain ⟨t1, t2⟩ := take_no a l b hl hf hm hh
    exact ⟨l, [], false, t1, t2, hl, hf, hm, by simp⟩
end Go.Proofs.Ytheckjlldkkceaa.Pu
