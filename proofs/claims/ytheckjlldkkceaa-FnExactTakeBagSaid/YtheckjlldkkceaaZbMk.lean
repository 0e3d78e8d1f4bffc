import Derived.Test.YtheckjlldkkceaaZbSb
import Derived.Test.YtheckjlldkkceaaZbPx20
namespace Go.Proofs.Ytheckjlldkkceaa.Pu
open Go.RowKit Go.Proofs.Ytheckjlldkkceaa.Px Go.Proofs.YtheckjlldkkceaaW.PrintWords Go.Proofs.YtheckjlldkkceaaW.PrintLast Go.Proofs.YtheckjlldkkceaaW.PrintMore
set_option linter.unusedVariables false
theorem set_mid {α : Type} (pre ms : List α) (s x : α) : (pre ++ s :: ms).set pre.length x = pre ++ x :: ms := by
  rw [List.set_append_right _ _ (Nat.le_refl _), Nat.sub_self]
  rfl
theorem getD_mid {α : Type} (pre ms : List α) (s z : α) : (pre ++ s :: ms).getD pre.length z = s := by simp
def mkK : Int → List S30 → List S30
  | _, [] => []
  | x, _ :: ms => ⟨x, x + 1⟩ :: mkK (x + 2) ms
theorem markK_l : ∀ (ms pre : List S30) (x : Int), 0 ≤ x → x + 2 * ms.length ≤ 4611686018427387904 → pre.length + ms.length ≤ 4611686018427387904 →
    Ev (fun k => laws_markKeptS.l0 k (pre ++ ms) x (pre.length : Int)) (x + 2 * ms.length, pre ++ mkK x ms)
  | [], pre, x, h0, h1, h2 => by
    refine Ev.step (f := fun _ => some (x + 2 * (([] : List S30).length : Int), pre ++ mkK x [])) (fun k => ?_) (Ev.now _)
    simp only [laws_markKeptS.l0]
    rw [if_neg (by simp)]
    simp [mkK]
  | s :: ms, pre, x, h0, h1, h2 => by
    rw [List.length_cons] at h1 h2
    have h := markK_l ms (pre ++ [⟨x, x + 1⟩]) (x + 2) (by omega) (by omega) (by rw [List.length_append]; simp; omega)
    have e1 : pre ++ [(⟨x, x + 1⟩ : S30)] ++ ms = pre ++ ⟨x, x + 1⟩ :: ms := by simp
    have e2 : pre ++ [(⟨x, x + 1⟩ : S30)] ++ mkK (x + 2) ms = pre ++ mkK x (s :: ms) := by simp [mkK]
    rw [e1, e2] at h
    have e3 : x + 2 + 2 * (ms.length : Int) = x + 2 * ((s :: ms).length : Int) := by simp only [List.length_cons]; omega
    rw [e3] at h
    refine Ev.step (fun k => ?_) h
    simp only [laws_markKeptS.l0]
    rw [if_pos (by simp only [List.length_append, List.length_cons]; omega), if_pos (by omega)]
    simp only [Option.bind_some, rd_T30, Int.toNat_natCast, set_mid, getD_mid]
    rw [wrap_in (x := x + 1) (by omega) (by omega), wrap_in (x := x + 1 + 1) (by omega) (by omega), wrap_in (x := (pre.length : Int) + 1) (by omega) (by omega), show x + 1 + 1 = x + 2 by omega]
    simp
theorem markK_ev (ms : List S30) (x : Int) (h0 : 0 ≤ x) (h1 : x + 2 * ms.length ≤ 4611686018427387904) (h2 : ms.length ≤ 1048576) : Ev (fun k => laws_markKeptS.f k ms x) (x + 2 * ms.length, mkK x ms) :=
  Ev.congr (fun k => by simp only [laws_markKeptS.f]; rfl) (markK_l ms [] x h0 h1 (by simp; omega))
theorem heldK_l : ∀ (ms pre : List S30) (x : Int), 0 ≤ x → x + 2 * ms.length ≤ 4611686018427387904 → pre.length + ms.length ≤ 4611686018427387904 →
    Ev (fun k => laws_heldKeptS.l0 k (pre ++ mkK x ms) x (pre.length : Int)) (x + 2 * ms.length)
  | [], pre, x, h0, h1, h2 => by
    refine Ev.step (f := fun _ => some (x + 2 * (([] : List S30).length : Int))) (fun k => ?_) (Ev.now _)
    simp only [laws_heldKeptS.l0]
    rw [if_neg (by simp [mkK])]
    simp
  | s :: ms, pre, x, h0, h1, h2 => by
    rw [List.length_cons] at h1 h2
    have h := heldK_l ms (pre ++ [⟨x, x + 1⟩]) (x + 2) (by omega) (by omega) (by rw [List.length_append]; simp; omega)
    have e2 : pre ++ [(⟨x, x + 1⟩ : S30)] ++ mkK (x + 2) ms = pre ++ ⟨x, x + 1⟩ :: mkK (x + 2) ms := by simp
    rw [e2] at h
    have e3 : x + 2 + 2 * (ms.length : Int) = x + 2 * ((s :: ms).length : Int) := by simp only [List.length_cons]; omega
    rw [e3] at h
    rw [show mkK x (s :: ms) = ⟨x, x + 1⟩ :: mkK (x + 2) ms from rfl]
    refine Ev.step (fun k => ?_) h
    simp only [laws_heldKeptS.l0]
    rw [if_pos (by simp only [List.length_append, List.length_cons]; omega), if_pos (by omega)]
    simp only [rd_T30, Int.toNat_natCast, getD_mid]
    rw [if_pos trivial, wrap_in (x := x + 1) (by omega) (by omega), if_pos rfl, wrap_in (x := x + 1 + 1) (by omega) (by omega), wrap_in (x := (pre.length : Int) + 1) (by omega) (by omega), show x + 1 + 1 = x + 2 by omega]
    simp
theorem heldK_ev (ms : List S30) (x : Int) (h0 : 0 ≤ x) (h1 : x + 2 * ms.length ≤ 4611686018427387904) (h2 : ms.length ≤ 1048576) : Ev (fun k => laws_heldKeptS.f k (mkK x ms) x) (x + 2 * ms.length) :=
  Ev.congr (fun k => by simp only [laws_heldKeptS.f]; rfl) (heldK_l ms [] x h0 h1 (by simp; omega))
def mkS : Int → List (List S30) → List (List S30)
  | _, [] => []
  | x, m :: ms => mkK x m :: mkS (x + 2 * m.length) ms
theorem markS_l : ∀ (ms pre : List (List S30)) (x : Int), 0 ≤ x → x + 2 * ms.flatten.length ≤ 4611686018427387904 → pre.length + ms.length ≤ 4611686018427387904 → (∀ m ∈ ms, m.length ≤ 1048576) →
    Ev (fun k => laws_markKeptSS.l0 k (pre ++ ms) x (pre.length : Int)) (x + 2 * ms.flatten.length, pre ++ mkS x ms)
  | [], pre, x, h0, h1, h2, h3 => by
    refine Ev.step (f := fun _ => some (x + 2 * (([] : List (List S30)).flatten.length : Int), pre ++ mkS x [])) (fun k => ?_) (Ev.now _)
    simp only [laws_markKeptSS.l0]
    rw [if_neg (by simp)]
    simp [mkS]
  | s :: ms, pre, x, h0, h1, h2, h3 => by
    rw [List.flatten_cons, List.length_append] at h1
    rw [List.length_cons] at h2
    have hs := markK_ev s x h0 (by omega) (h3 s List.mem_cons_self)
    have h := markS_l ms (pre ++ [mkK x s]) (x + 2 * s.length) (by omega) (by omega) (by rw [List.length_append]; simp; omega) (fun m hm => h3 m (List.mem_cons_of_mem _ hm))
    have e1 : pre ++ [mkK x s] ++ ms = pre ++ mkK x s :: ms := by simp
    have e2 : pre ++ [mkK x s] ++ mkS (x + 2 * s.length) ms = pre ++ mkS x (s :: ms) := by simp [mkS]
    rw [e1, e2] at h
    have e3 : x + 2 * (s.length : Int) + 2 * (ms.flatten.length : Int) = x + 2 * ((s :: ms).flatten.length : Int) := by simp only [List.flatten_cons, List.length_append]; omega
    rw [e3] at h
    refine Ev.round ((Lt.of hs).and (Lt.of h)) fun k ⟨f1, f2⟩ => ?_
    simp only [laws_markKeptSS.l0]
    rw [if_pos (by simp only [List.length_append, List.length_cons]; omega), if_pos (by omega)]
    simp only [rd_L2, Int.toNat_natCast, getD_mid, f1, Option.bind_some, set_mid]
    rw [wrap_in (x := (pre.length : Int) + 1) (by omega) (by omega)]
    simpa using f2
theorem markS_ev (a : Int) (l : List (List S30)) (hl : l.length ≤ 1048576) (hf : l.flatten.length ≤ 1048576) (hm : ∀ m ∈ l, m.length ≤ 1048576) : Ev (fun k => laws_markStore.f k a l 1) (1 + 2 * l.flatten.length, mkS 1 l) :=
  Ev.congr (fun k => by simp only [laws_markStore.f, laws_markKeptSS.f]; rfl) (markS_l l [] 1 (by omega) (by omega) (by simp; omega) hm)
theorem heldS_l : ∀ (ms pre : List (List S30)) (x : Int), 0 ≤ x → x + 2 * ms.flatten.length ≤ 4611686018427387904 → pre.length + ms.length ≤ 4611686018427387904 → (∀ m ∈ ms, m.length ≤ 1048576) →
    Ev (fun k => laws_heldKeptSS.l0 k (pre ++ mkS x ms) x (pre.length : Int)) (x + 2 * ms.flatten.length)
  | [], pre, x, h0, h1, h2, h3 => by
    refine Ev.step (f := fun _ => some (x + 2 * (([] : List (List S30)).flatten.length : Int))) (fun k => ?_) (Ev.now _)
    simp only [laws_heldKeptSS.l0]
    rw [if_neg (by simp [mkS])]
    simp
  | s :: ms, pre, x, h0, h1, h2, h3 => by
    rw [List.flatten_cons, List.length_append] at h1
    rw [List.length_cons] at h2
    have hs := heldK_ev s x h0 (by omega) (h3 s List.mem_cons_self)
    have h := heldS_l ms (pre ++ [mkK x s]) (x + 2 * s.length) (by omega) (by omega) (by rw [List.length_append]; simp; omega) (fun m hm => h3 m (List.mem_cons_of_mem _ hm))
    have e2 : pre ++ [mkK x s] ++ mkS (x + 2 * s.length) ms = pre ++ mkK x s :: mkS (x + 2 * s.length) ms := by simp
    rw [e2] at h
    have e3 : x + 2 * (s.length : Int) + 2 * (ms.flatten.length : Int) = x + 2 * ((s :: ms).flatten.length : Int) := by simp only [List.flatten_cons, List.length_append]; omega
    rw [e3] at h
    rw [show mkS x (s :: ms) = mkK x s :: mkS (x + 2 * s.length) ms from rfl]
    refine Ev.round ((Lt.of hs).and (Lt.of h)) fun k ⟨f1, f2⟩ => ?_
    simp only [laws_heldKeptSS.l0]
    rw [if_pos (by simp only [List.length_append, List.length_cons]; omega), if_pos (by omega)]
    simp only [rd_L2, Int.toNat_natCast, getD_mid, f1, Option.bind_some]
    rw [if_neg (by omega), wrap_in (x := (pre.length : Int) + 1) (by omega) (by omega)]
    simpa using f2
theorem heldS_ev (a : Int) (l : List (List S30)) (hl : l.length ≤ 1048576) (hf : l.flatten.length ≤ 1048576) (hm : ∀ m ∈ l, m.length ≤ 1048576) : Ev (fun k => laws_heldStore.f k a (mkS 1 l) 1) (1 + 2 * l.flatten.length) := by
  have h := heldS_l l [] 1 (by omega) (by omega) (by simp; omega) hm
  refine Lt.ev (Lt.of h) fun k e => ?_
  have e' : laws_heldKeptSS.l0 k (mkS 1 l) 1 0 = some (1 + 2 * (l.flatten.length : Int)) := e
  simp only [laws_heldStore.f, laws_heldKeptSS.f, e', Option.bind_some]
  rw [if_neg (by omega)]
end Go.Proofs.Ytheckjlldkkceaa.Pu
