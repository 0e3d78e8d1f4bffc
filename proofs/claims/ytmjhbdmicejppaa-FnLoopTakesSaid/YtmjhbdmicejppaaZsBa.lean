import Derived.Test.YtmjhbdmicejppaaZsWN
import Derived.Test.YtmjhbdmicejppaaZsWMore
namespace Go.Proofs.Ytmjhbdmicejppaa.Pu
open Go.RowKit Go.Proofs.YtmjhbdmicejppaaW.PrintWords Go.Proofs.YtmjhbdmicejppaaW.PrintLast
set_option linter.unusedVariables false
def Lt (p : Nat → Prop) : Prop := ∃ K, ∀ n, K ≤ n → p n
theorem Lt.and {p q : Nat → Prop} (h : Lt p) (k : Lt q) : Lt (fun n => p n ∧ q n) := by
  obtain ⟨K, h⟩ := h
  obtain ⟨K', k⟩ := k
  exact ⟨max K K', fun n hn => ⟨h n (by omega), k n (by omega)⟩⟩
theorem Lt.of {α : Type} {g : Nat → Option α} {r : α} (h : Ev g r) : Lt (fun n => g n = some r) := h
theorem Lt.ev {α : Type} {g : Nat → Option α} {r : α} {p : Nat → Prop} (h : Lt p) (k : ∀ n, p n → g n = some r) : Ev g r := by
  obtain ⟨K, h⟩ := h
  exact ⟨K, fun n hn => k n (h n hn)⟩
theorem Lt.imp {p q : Nat → Prop} (h : Lt p) (k : ∀ n, p n → q n) : Lt q := by
  obtain ⟨K, h⟩ := h
  exact ⟨K, fun n hn => k n (h n hn)⟩
theorem Lt.succ {p : Nat → Prop} (h : Lt p) : Lt (fun n => ∃ m, n = m + 1 ∧ p m) := by
  obtain ⟨K, h⟩ := h
  exact ⟨K + 1, fun n hn => ⟨n - 1, by omega, h _ (by omega)⟩⟩
theorem Lt.true : Lt (fun _ => True) := ⟨0, fun _ _ => trivial⟩
theorem Ev.round {α : Type} {g : Nat → Option α} {r : α} {p : Nat → Prop} (h : Lt p) (k : ∀ n, p n → g (n + 1) = some r) : Ev g r := by
  obtain ⟨K, h⟩ := h
  refine ⟨K + 1, fun n hn => ?_⟩
  obtain ⟨m, rfl⟩ : ∃ m, n = m + 1 := ⟨n - 1, by omega⟩
  exact k m (h m (by omega))
theorem wrap_in {x : Int} (h0 : -9223372036854775808 ≤ x) (h1 : x ≤ 9223372036854775807) : wrap64 x = x := by
  unfold wrap64
  omega
theorem rd_nat (l : List Int) (i : Nat) (h : i < l.length) : rd l (i : Int) = l[i] := by simp [rd, h]
theorem take_set {α : Type} (l m : List α) (i : Nat) (hl : l.length = m.length) (hi : i < m.length) (h : l.take i = m.take i) : (l.set i m[i]).take (i + 1) = m.take (i + 1) := by
  apply List.ext_getElem?
  intro j
  rw [List.getElem?_take, List.getElem?_take]
  split
  · rename_i hj
    rw [List.getElem?_set]
    split
    · rename_i e
      subst e
      rw [if_pos (by omega), List.getElem?_eq_getElem hi]
    · have := congrArg (fun z => z[j]?) h
      simp only [List.getElem?_take] at this
      rwa [if_pos (by omega), if_pos (by omega)] at this
  · rfl
def allF (p : Nat → Bool) : Nat → Nat → Bool
  | _, 0 => Bool.true
  | i, d + 1 => p i && allF p (i + 1) d
theorem allF_iff (p : Nat → Bool) : ∀ (d i : Nat), allF p i d = Bool.true ↔ ∀ j, i ≤ j → j < i + d → p j = Bool.true
  | 0, i => ⟨fun _ j h1 h2 => by omega, fun _ => rfl⟩
  | d + 1, i => by
    simp only [allF, Bool.and_eq_true, allF_iff p d (i + 1)]
    constructor
    · rintro ⟨h1, h2⟩ j hj1 hj2
      by_cases e : j = i
      · subst e; exact h1
      · exact h2 j (by omega) (by omega)
    · intro h
      exact ⟨h i (by omega) (by omega), fun j h1 h2 => h j (by omega) (by omega)⟩
end Go.Proofs.Ytmjhbdmicejppaa.Pu
