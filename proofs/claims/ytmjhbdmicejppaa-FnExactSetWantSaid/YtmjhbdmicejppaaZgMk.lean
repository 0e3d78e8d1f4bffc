import Derived.Test.YtmjhbdmicejppaaZgLb
import Derived.Test.YtmjhbdmicejppaaZgPx12
import Derived.Test.YtmjhbdmicejppaaZgPx15
namespace Go.Proofs.Ytmjhbdmicejppaa.Pu
open Go.RowKit Go.Proofs.Ytmjhbdmicejppaa.Px Go.Proofs.YtmjhbdmicejppaaW.PrintWords Go.Proofs.YtmjhbdmicejppaaW.PrintLast Go.Proofs.YtmjhbdmicejppaaW.PrintMore
set_option linter.unusedVariables false
theorem set_mid {α : Type} (pre ms : List α) (s x : α) : (pre ++ s :: ms).set pre.length x = pre ++ x :: ms := by
  rw [List.set_append_right _ _ (Nat.le_refl _), Nat.sub_self]
  rfl
theorem getD_mid {α : Type} (pre ms : List α) (s z : α) : (pre ++ s :: ms).getD pre.length z = s := by simp
def mkI : Int → List Int → List Int
  | _, [] => []
  | x, _ :: ms => x :: mkI (x + 1) ms
theorem markI_l : ∀ (ms pre : List Int) (x : Int), 0 ≤ x → x + ms.length ≤ 4611686018427387904 → pre.length + ms.length ≤ 4611686018427387904 →
    Ev (fun k => laws_markIntS.l0 k (pre ++ ms) x (pre.length : Int)) (x + ms.length, pre ++ mkI x ms)
  | [], pre, x, h0, h1, h2 => by
    refine Ev.step (f := fun _ => some (x + (([] : List Int).length : Int), pre ++ mkI x [])) (fun k => ?_) (Ev.now _)
    simp only [laws_markIntS.l0]
    rw [if_neg (by simp)]
    simp [mkI]
  | s :: ms, pre, x, h0, h1, h2 => by
    rw [List.length_cons] at h1 h2
    have h := markI_l ms (pre ++ [x]) (x + 1) (by omega) (by omega) (by rw [List.length_append]; simp; omega)
    have e1 : pre ++ [x] ++ ms = pre ++ x :: ms := by simp
    have e2 : pre ++ [x] ++ mkI (x + 1) ms = pre ++ mkI x (s :: ms) := by simp [mkI]
    rw [e1, e2] at h
    have e3 : x + 1 + (ms.length : Int) = x + ((s :: ms).length : Int) := by simp only [List.length_cons]; omega
    rw [e3] at h
    refine Ev.step (fun k => ?_) h
    simp only [laws_markIntS.l0]
    rw [if_pos (by simp only [List.length_append, List.length_cons]; omega), if_pos (by omega)]
    simp only [Int.toNat_natCast, set_mid]
    rw [wrap_in (x := x + 1) (by omega) (by omega), wrap_in (x := (pre.length : Int) + 1) (by omega) (by omega)]
    simp
theorem markI_ev (ms : List Int) (x : Int) (h0 : 0 ≤ x) (h1 : x + ms.length ≤ 4611686018427387904) : Ev (fun k => laws_markIntS.f k ms x) (x + ms.length, mkI x ms) :=
  Ev.congr (fun k => by simp only [laws_markIntS.f]; rfl) (markI_l ms [] x h0 h1 (by simp; omega))
theorem heldI_l : ∀ (ms pre : List Int) (x : Int), 0 ≤ x → x + ms.length ≤ 4611686018427387904 → pre.length + ms.length ≤ 4611686018427387904 →
    Ev (fun k => laws_heldIntS.l0 k (pre ++ mkI x ms) x (pre.length : Int)) (x + ms.length)
  | [], pre, x, h0, h1, h2 => by
    refine Ev.step (f := fun _ => some (x + (([] : List Int).length : Int))) (fun k => ?_) (Ev.now _)
    simp only [laws_heldIntS.l0]
    rw [if_neg (by simp [mkI])]
    simp
  | s :: ms, pre, x, h0, h1, h2 => by
    rw [List.length_cons] at h1 h2
    have h := heldI_l ms (pre ++ [x]) (x + 1) (by omega) (by omega) (by rw [List.length_append]; simp; omega)
    have e2 : pre ++ [x] ++ mkI (x + 1) ms = pre ++ x :: mkI (x + 1) ms := by simp
    rw [e2] at h
    have e3 : x + 1 + (ms.length : Int) = x + ((s :: ms).length : Int) := by simp only [List.length_cons]; omega
    rw [e3] at h
    rw [show mkI x (s :: ms) = x :: mkI (x + 1) ms from rfl]
    refine Ev.step (fun k => ?_) h
    simp only [laws_heldIntS.l0]
    rw [if_pos (by simp only [List.length_append, List.length_cons]; omega), if_pos (by omega)]
    simp only [rd, Int.toNat_natCast, getD_mid]
    rw [if_pos trivial, wrap_in (x := x + 1) (by omega) (by omega), wrap_in (x := (pre.length : Int) + 1) (by omega) (by omega)]
    simp
theorem heldI_ev (ms : List Int) (x : Int) (h0 : 0 ≤ x) (h1 : x + ms.length ≤ 4611686018427387904) : Ev (fun k => laws_heldIntS.f k (mkI x ms) x) (x + ms.length) :=
  Ev.congr (fun k => by simp only [laws_heldIntS.f]; rfl) (heldI_l ms [] x h0 h1 (by simp; omega))
def wC (cs : List S69) : Nat := (cs.map (fun c => 2 + c.f2.length)).sum
def wW (cs : List S74) : Nat := (cs.map (fun c => 1 + c.f1.length)).sum
theorem wC_cons (c : S69) (cs : List S69) : wC (c :: cs) = 2 + c.f2.length + wC cs := by simp [wC]
theorem wW_cons (c : S74) (cs : List S74) : wW (c :: cs) = 1 + c.f1.length + wW cs := by simp [wW]
theorem wC_len : ∀ cs : List S69, cs.length ≤ wC cs
  | [] => Nat.zero_le _
  | c :: cs => by have := wC_len cs; rw [wC_cons, List.length_cons]; omega
theorem wW_len : ∀ cs : List S74, cs.length ≤ wW cs
  | [] => Nat.zero_le _
  | c :: cs => by have := wW_len cs; rw [wW_cons, List.length_cons]; omega
def mkC : Int → List S69 → List S69
  | _, [] => []
  | x, c :: cs => ⟨x, x + 1, mkI (x + 2) c.f2⟩ :: mkC (x + 2 + c.f2.length) cs
def mkW : Int → List S74 → List S74
  | _, [] => []
  | x, c :: cs => ⟨x, mkI (x + 1) c.f1⟩ :: mkW (x + 1 + c.f1.length) cs
theorem markC_l : ∀ (ms pre : List S69) (x : Int), 0 ≤ x → x + wC ms ≤ 4611686018427387904 → pre.length + ms.length ≤ 4611686018427387904 →
    Ev (fun k => laws_markChuteS.l0 k (pre ++ ms) x (pre.length : Int)) (x + wC ms, pre ++ mkC x ms)
  | [], pre, x, h0, h1, h2 => by
    refine Ev.step (f := fun _ => some (x + (wC ([] : List S69) : Int), pre ++ mkC x [])) (fun k => ?_) (Ev.now _)
    simp only [laws_markChuteS.l0]
    rw [if_neg (by simp)]
    simp [mkC, wC]
  | s :: ms, pre, x, h0, h1, h2 => by
    rw [wC_cons] at h1
    rw [List.length_cons] at h2
    have hs := markI_ev s.f2 (x + 2) (by omega) (by omega)
    have h := markC_l ms (pre ++ [⟨x, x + 1, mkI (x + 2) s.f2⟩]) (x + 2 + s.f2.length) (by omega) (by omega) (by rw [List.length_append]; simp; omega)
    have e1 : pre ++ [(⟨x, x + 1, mkI (x + 2) s.f2⟩ : S69)] ++ ms = pre ++ ⟨x, x + 1, mkI (x + 2) s.f2⟩ :: ms := by simp
    have e2 : pre ++ [(⟨x, x + 1, mkI (x + 2) s.f2⟩ : S69)] ++ mkC (x + 2 + s.f2.length) ms = pre ++ mkC x (s :: ms) := by simp [mkC]
    rw [e1, e2] at h
    have e3 : x + 2 + (s.f2.length : Int) + (wC ms : Int) = x + (wC (s :: ms) : Int) := by rw [wC_cons]; omega
    rw [e3] at h
    refine Ev.round ((Lt.of hs).and (Lt.of h)) fun k ⟨f1, f2⟩ => ?_
    simp only [laws_markChuteS.l0]
    rw [if_pos (by simp only [List.length_append, List.length_cons]; omega), if_pos (by omega), wrap_in (x := x + 1) (by omega) (by omega), wrap_in (x := x + 1 + 1) (by omega) (by omega), show x + 1 + 1 = x + 2 by omega, wrap_in (x := (pre.length : Int) + 1) (by omega) (by omega)]
    simp only [rd_T69, Int.toNat_natCast, getD_mid, f1, Option.bind_some, set_mid]
    simpa using f2
theorem heldC_l : ∀ (ms pre : List S69) (x : Int), 0 ≤ x → x + wC ms ≤ 4611686018427387904 → pre.length + ms.length ≤ 4611686018427387904 →
    Ev (fun k => laws_heldChuteS.l0 k (pre ++ mkC x ms) x (pre.length : Int)) (x + wC ms)
  | [], pre, x, h0, h1, h2 => by
    refine Ev.step (f := fun _ => some (x + (wC ([] : List S69) : Int))) (fun k => ?_) (Ev.now _)
    simp only [laws_heldChuteS.l0]
    rw [if_neg (by simp [mkC])]
    simp [wC]
  | s :: ms, pre, x, h0, h1, h2 => by
    rw [wC_cons] at h1
    rw [List.length_cons] at h2
    have hs := heldI_ev s.f2 (x + 2) (by omega) (by omega)
    have h := heldC_l ms (pre ++ [⟨x, x + 1, mkI (x + 2) s.f2⟩]) (x + 2 + s.f2.length) (by omega) (by omega) (by rw [List.length_append]; simp; omega)
    have e2 : pre ++ [(⟨x, x + 1, mkI (x + 2) s.f2⟩ : S69)] ++ mkC (x + 2 + s.f2.length) ms = pre ++ ⟨x, x + 1, mkI (x + 2) s.f2⟩ :: mkC (x + 2 + s.f2.length) ms := by simp
    rw [e2] at h
    have e3 : x + 2 + (s.f2.length : Int) + (wC ms : Int) = x + (wC (s :: ms) : Int) := by rw [wC_cons]; omega
    rw [e3] at h
    rw [show mkC x (s :: ms) = ⟨x, x + 1, mkI (x + 2) s.f2⟩ :: mkC (x + 2 + s.f2.length) ms from rfl]
    refine Ev.round ((Lt.of hs).and (Lt.of h)) fun k ⟨f1, f2⟩ => ?_
    simp only [laws_heldChuteS.l0]
    rw [if_pos (by simp only [List.length_append, List.length_cons]; omega), if_pos (by omega), wrap_in (x := x + 1) (by omega) (by omega), wrap_in (x := x + 1 + 1) (by omega) (by omega), show x + 1 + 1 = x + 2 by omega, wrap_in (x := (pre.length : Int) + 1) (by omega) (by omega)]
    simp only [rd_T69, Int.toNat_natCast, getD_mid, f1, Option.bind_some]
    rw [if_pos trivial, if_pos trivial, if_neg (by omega)]
    simpa using f2
theorem markW_l : ∀ (ms pre : List S74) (x : Int), 0 ≤ x → x + wW ms ≤ 4611686018427387904 → pre.length + ms.length ≤ 4611686018427387904 →
    Ev (fun k => laws_markWantS.l0 k (pre ++ ms) x (pre.length : Int)) (x + wW ms, pre ++ mkW x ms)
  | [], pre, x, h0, h1, h2 => by
    refine Ev.step (f := fun _ => some (x + (wW ([] : List S74) : Int), pre ++ mkW x [])) (fun k => ?_) (Ev.now _)
    simp only [laws_markWantS.l0]
    rw [if_neg (by simp)]
    simp [mkW, wW]
  | s :: ms, pre, x, h0, h1, h2 => by
    rw [wW_cons] at h1
    rw [List.length_cons] at h2
    have hs := markI_ev s.f1 (x + 1) (by omega) (by omega)
    have h := markW_l ms (pre ++ [⟨x, mkI (x + 1) s.f1⟩]) (x + 1 + s.f1.length) (by omega) (by omega) (by rw [List.length_append]; simp; omega)
    have e1 : pre ++ [(⟨x, mkI (x + 1) s.f1⟩ : S74)] ++ ms = pre ++ ⟨x, mkI (x + 1) s.f1⟩ :: ms := by simp
    have e2 : pre ++ [(⟨x, mkI (x + 1) s.f1⟩ : S74)] ++ mkW (x + 1 + s.f1.length) ms = pre ++ mkW x (s :: ms) := by simp [mkW]
    rw [e1, e2] at h
    have e3 : x + 1 + (s.f1.length : Int) + (wW ms : Int) = x + (wW (s :: ms) : Int) := by rw [wW_cons]; omega
    rw [e3] at h
    refine Ev.round ((Lt.of hs).and (Lt.of h)) fun k ⟨f1, f2⟩ => ?_
    simp only [laws_markWantS.l0]
    rw [if_pos (by simp only [List.length_append, List.length_cons]; omega), if_pos (by omega), wrap_in (x := x + 1) (by omega) (by omega), wrap_in (x := (pre.length : Int) + 1) (by omega) (by omega)]
    simp only [rd_T74, Int.toNat_natCast, getD_mid, f1, Option.bind_some, set_mid]
    simpa using f2
theorem heldW_l : ∀ (ms pre : List S74) (x : Int), 0 ≤ x → x + wW ms ≤ 4611686018427387904 → pre.length + ms.length ≤ 4611686018427387904 →
    Ev (fun k => laws_heldWantS.l0 k (pre ++ mkW x ms) x (pre.length : Int)) (x + wW ms)
  | [], pre, x, h0, h1, h2 => by
    refine Ev.step (f := fun _ => some (x + (wW ([] : List S74) : Int))) (fun k => ?_) (Ev.now _)
    simp only [laws_heldWantS.l0]
    rw [if_neg (by simp [mkW])]
    simp [wW]
  | s :: ms, pre, x, h0, h1, h2 => by
    rw [wW_cons] at h1
    rw [List.length_cons] at h2
    have hs := heldI_ev s.f1 (x + 1) (by omega) (by omega)
    have h := heldW_l ms (pre ++ [⟨x, mkI (x + 1) s.f1⟩]) (x + 1 + s.f1.length) (by omega) (by omega) (by rw [List.length_append]; simp; omega)
    have e2 : pre ++ [(⟨x, mkI (x + 1) s.f1⟩ : S74)] ++ mkW (x + 1 + s.f1.length) ms = pre ++ ⟨x, mkI (x + 1) s.f1⟩ :: mkW (x + 1 + s.f1.length) ms := by simp
    rw [e2] at h
    have e3 : x + 1 + (s.f1.length : Int) + (wW ms : Int) = x + (wW (s :: ms) : Int) := by rw [wW_cons]; omega
    rw [e3] at h
    rw [show mkW x (s :: ms) = ⟨x, mkI (x + 1) s.f1⟩ :: mkW (x + 1 + s.f1.length) ms from rfl]
    refine Ev.round ((Lt.of hs).and (Lt.of h)) fun k ⟨f1, f2⟩ => ?_
    simp only [laws_heldWantS.l0]
    rw [if_pos (by simp only [List.length_append, List.length_cons]; omega), if_pos (by omega), wrap_in (x := x + 1) (by omega) (by omega), wrap_in (x := (pre.length : Int) + 1) (by omega) (by omega)]
    simp only [rd_T74, Int.toNat_natCast, getD_mid, f1, Option.bind_some]
    rw [if_pos trivial, if_neg (by omega)]
    simpa using f2
def wL (tr : List Int) (ch : List S69) (wa : List S74) : Nat := tr.length + wC ch + wW wa
theorem markL_ev (tr : List Int) (T : Int) (ch : List S69) (wa : List S74) (h : wL tr ch wa ≤ 4611686018427387900) :
    Ev (fun k => laws_markLoop.f k tr T ch wa 1) (1 + (wL tr ch wa : Int), mkI 1 tr, mkC (1 + tr.length) ch, mkW (1 + tr.length + wC ch) wa) := by
  unfold wL at h
  have l1 := wC_len ch
  have l2 := wW_len wa
  have h1 := markI_ev tr 1 (by omega) (by omega)
  have h2 := markC_l ch [] (1 + tr.length) (by omega) (by omega) (by simp; omega)
  have h3 := markW_l wa [] (1 + tr.length + wC ch) (by omega) (by omega) (by simp; omega)
  refine Lt.ev ((Lt.of h1).and ((Lt.of h2).and (Lt.of h3))) fun k ⟨e1, e2, e3⟩ => ?_
  have e2' : laws_markChuteS.l0 k ch (1 + (tr.length : Int)) 0 = some (1 + (tr.length : Int) + (wC ch : Int), mkC (1 + tr.length) ch) := e2
  have e3' : laws_markWantS.l0 k wa (1 + (tr.length : Int) + (wC ch : Int)) 0 = some (1 + (tr.length : Int) + (wC ch : Int) + (wW wa : Int), mkW (1 + tr.length + wC ch) wa) := e3
  simp only [laws_markLoop.f, e1, Option.bind_some, laws_markChuteS.f, e2', laws_markWantS.f, e3']
  rw [show 1 + (tr.length : Int) + (wC ch : Int) + (wW wa : Int) = 1 + (wL tr ch wa : Int) by unfold wL; omega]
theorem heldL_ev (tr : List Int) (T : Int) (ch : List S69) (wa : List S74) (h : wL tr ch wa ≤ 4611686018427387900) :
    Ev (fun k => laws_heldLoop.f k (mkI 1 tr) T (mkC (1 + tr.length) ch) (mkW (1 + tr.length + wC ch) wa) 1) (1 + (wL tr ch wa : Int)) := by
  unfold wL at h
  have l1 := wC_len ch
  have l2 := wW_len wa
  have h1 := heldI_ev tr 1 (by omega) (by omega)
  have h2 := heldC_l ch [] (1 + tr.length) (by omega) (by omega) (by simp; omega)
  have h3 := heldW_l wa [] (1 + tr.length + wC ch) (by omega) (by omega) (by simp; omega)
  refine Lt.ev ((Lt.of h1).and ((Lt.of h2).and (Lt.of h3))) fun k ⟨e1, e2, e3⟩ => ?_
  have e2' : laws_heldChuteS.l0 k (mkC (1 + tr.length) ch) (1 + (tr.length : Int)) 0 = some (1 + (tr.length : Int) + (wC ch : Int)) := e2
  have e3' : laws_heldWantS.l0 k (mkW (1 + tr.length + wC ch) wa) (1 + (tr.length : Int) + (wC ch : Int)) 0 = some (1 + (tr.length : Int) + (wC ch : Int) + (wW wa : Int)) := e3
  simp only [laws_heldLoop.f, e1, Option.bind_some]
  rw [if_neg (by omega)]
  simp only [laws_heldChuteS.f, e2', Option.bind_some]
  rw [if_neg (by omega)]
  simp only [laws_heldWantS.f, e3', Option.bind_some]
  rw [if_neg (by omega), show 1 + (tr.length : Int) + (wC ch : Int) + (wW wa : Int) = 1 + (wL tr ch wa : Int) by unfold wL; omega]
end Go.Proofs.Ytmjhbdmicejppaa.Pu
