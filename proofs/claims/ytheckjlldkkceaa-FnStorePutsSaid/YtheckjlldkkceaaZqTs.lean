import Derived.Test.YtheckjlldkkceaaZqHp
import Derived.Test.YtheckjlldkkceaaZqBu
import Derived.Test.YtheckjlldkkceaaZqPx15
import Derived.Test.YtheckjlldkkceaaZqPx26
import Derived.Test.YtheckjlldkkceaaZqPx0
import Derived.Test.YtheckjlldkkceaaZqPx1
import Derived.Test.YtheckjlldkkceaaZqPx2
import Derived.Test.YtheckjlldkkceaaZqPx3
import Derived.Test.YtheckjlldkkceaaZqPx12
import Derived.Test.YtheckjlldkkceaaZqPx4
import Derived.Test.YtheckjlldkkceaaZqPx7
import Derived.Test.YtheckjlldkkceaaZqPx8
import Derived.Test.YtheckjlldkkceaaZqPx11
import Derived.Test.YtheckjlldkkceaaZqPx6
namespace Go.Proofs.Ytheckjlldkkceaa.Pu
open Go.RowKit Go.Proofs.Ytheckjlldkkceaa.Px Go.Proofs.YtheckjlldkkceaaW.PrintWords Go.Proofs.YtheckjlldkkceaaW.PrintLast Go.Proofs.YtheckjlldkkceaaW.PrintMore
set_option linter.unusedVariables false
instance decS30 : DecidableEq S30 := fun a b => decidable_of_iff (a.f0 = b.f0 ∧ a.f1 = b.f1) ⟨fun h => by
  obtain ⟨h1, h2⟩ := h
  cases a; cases b
  simp only at h1 h2
  rw [h1, h2], fun h => by subst h; exact ⟨rfl, rfl⟩⟩
theorem sameKept_l (l : List S30) (hn : l.length ≤ 1048576) : ∀ (d i : Nat), i + d = l.length → Ev (fun k => laws_sameKept.l0 k l l (i : Int)) true := by
  intro d
  induction d with
  | zero =>
    intro i hi
    refine Ev.step (f := fun _ => some true) (fun k => ?_) (Ev.now _)
    simp only [laws_sameKept.l0]
    rw [if_neg (by omega)]
  | succ d ih =>
    intro i hi
    refine Ev.step (f := fun k => laws_sameKept.l0 k l l ((i + 1 : Nat) : Int)) (fun k => ?_) (ih (i + 1) (by omega))
    simp only [laws_sameKept.l0]
    rw [if_pos (by omega), if_pos (by omega), if_pos (by omega), wrap_in (by omega) (by omega)]
    simp
theorem sameKept_ev (l : List S30) (hn : l.length ≤ 1048576) : Ev (fun k => laws_sameKept.f k l l) true := by
  refine Ev.congr (f := fun k => laws_sameKept.l0 k l l ((0 : Nat) : Int)) (fun k => ?_) (sameKept_l l hn l.length 0 (by omega))
  simp only [laws_sameKept.f]
  simp
theorem sameStore_l (a : Int) (l : List (List S30)) (hn : l.length ≤ 1048576) (hb : ∀ x ∈ l, x.length ≤ 1048576) : ∀ (d i : Nat), i + d = l.length → Ev (fun k => laws_sameStore.l0 k (i : Int) a l a l) true := by
  intro d
  induction d with
  | zero =>
    intro i hi
    refine Ev.step (f := fun _ => some true) (fun k => ?_) (Ev.now _)
    simp only [laws_sameStore.l0]
    rw [if_neg (by omega)]
  | succ d ih =>
    intro i hi
    have hlt : i < l.length := by omega
    refine Ev.round ((Lt.of (sameKept_ev l[i] (hb _ (List.getElem_mem hlt)))).and (Lt.of (ih (i + 1) (by omega)))) fun k ⟨e1, e2⟩ => ?_
    simp only [laws_sameStore.l0]
    rw [if_pos (by omega), if_pos (by omega), if_pos (by omega), rdL2_nat l i hlt, e1]
    simp only [Option.bind_some]
    rw [if_pos trivial, wrap_in (by omega) (by omega)]
    exact e2
theorem sameStore_ev (a : Int) (l : List (List S30)) (hn : l.length ≤ 1048576) (hb : ∀ x ∈ l, x.length ≤ 1048576) : Ev (fun k => laws_sameStore.f k a l a l) true := by
  have hj : Ev (fun k => laws_sameStore.j0 k false a l a l) true := Ev.step (fun k => by
    simp only [laws_sameStore.j0]
    rw [if_neg (by simp)]
    rfl) (sameStore_l a l hn hb l.length 0 (by omega))
  refine Lt.ev (Lt.of hj) fun k e => ?_
  simp only [laws_sameStore.f]
  rw [if_pos trivial]
  simpa using e
theorem kept_l (a : Int) (l : List (List S30)) (hl : l.length ≤ 1048576) (hf : l.flatten.length ≤ 1048576) : ∀ (d i : Nat), i + d = l.length → ∀ c : Int, 0 ≤ c → c + (l.drop i).flatten.length = l.flatten.length → Ev (fun k => laws_kept.l0 k c (i : Int) a l) (l.flatten.length : Int) := by
  intro d
  induction d with
  | zero =>
    intro i hi c h0 hc
    rw [List.drop_of_length_le (by omega)] at hc
    have ec : c = (l.flatten.length : Int) := by simpa using hc
    rw [ec]
    refine Ev.step (f := fun _ => some (l.flatten.length : Int)) (fun k => ?_) (Ev.now _)
    simp only [laws_kept.l0]
    rw [if_neg (by omega)]
  | succ d ih =>
    intro i hi c h0 hc
    have hlt : i < l.length := by omega
    rw [List.drop_eq_getElem_cons hlt, List.flatten_cons, List.length_append] at hc
    refine Ev.step (fun k => ?_) (ih (i + 1) (by omega) (c + (l[i].length : Int)) (by omega) (by omega))
    simp only [laws_kept.l0]
    rw [if_pos (by omega), if_pos (by omega), rdL2_nat l i hlt, wrap_in (x := c + (l[i].length : Int)) (by omega) (by omega), wrap_in (x := (i : Int) + 1) (by omega) (by omega)]
    rfl
theorem kept_ev (a : Int) (l : List (List S30)) (hl : l.length ≤ 1048576) (hf : l.flatten.length ≤ 1048576) : Ev (fun k => laws_kept.f k a l) (l.flatten.length : Int) :=
  Ev.congr (fun k => by simp only [laws_kept.f]; rfl) (kept_l a l hl hf l.length 0 (by omega) 0 (by omega) (by simp))
section
variable {a : Int} {l : List (List S30)} (hs : stOk a l = true)
include hs
end
end Go.Proofs.Ytheckjlldkkceaa.Pu
