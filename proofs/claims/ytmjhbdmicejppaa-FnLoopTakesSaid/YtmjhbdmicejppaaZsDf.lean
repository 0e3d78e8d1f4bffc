import Derived.Lib.SlicesCompact
namespace Go.Proofs.Ytmjhbdmicejppaa.Px
open Go.Lib
theorem compact_count (S : List Int) : (compact S).length = (List.range S.length).countP (keeps S.toArray) := by
  unfold compact compactUpTo
  rw [List.length_map, List.countP_eq_length_filter]
theorem compact_len_iff (S : List Int) : (compact S).length = S.length ↔ ∀ j, j < S.length → keeps S.toArray j = true := by
  rw [compact_count]
  have h := List.countP_eq_length (p := keeps S.toArray) (l := List.range S.length)
  rw [List.length_range] at h
  rw [h]
  exact ⟨fun k j hj => k j (List.mem_range.2 hj), fun k j hj => k j (List.mem_range.1 hj)⟩
theorem nodup_sorted (S : List Int) (hs : S.Pairwise (fun x y => x ≤ y)) : S.Nodup ↔ ∀ j, j < S.length → keeps S.toArray j = true := by
  constructor
  · intro hn j hj
    simp only [keeps, decide_eq_true_eq]
    by_cases e : j = 0
    · exact .inl e
    · right
      rw [getElem!_pos _ j (by simpa using hj), getElem!_pos _ (j - 1) (by simp; omega)]
      have := List.pairwise_iff_getElem.1 hn (j - 1) j (by omega) hj (by omega)
      simp only [List.getElem_toArray]
      exact fun h => this h.symm
  · intro hk
    have step : ∀ j (hj : j + 1 < S.length), S[j] < S[j + 1] := by
      intro j hj
      have h1 := hk (j + 1) hj
      simp only [keeps, decide_eq_true_eq] at h1
      rcases h1 with h1 | h1
      · omega
      · rw [getElem!_pos _ (j + 1) (by simpa using hj), getElem!_pos _ (j + 1 - 1) (by simp; omega)] at h1
        simp only [List.getElem_toArray, Nat.add_sub_cancel] at h1
        have h2 := List.pairwise_iff_getElem.1 hs j (j + 1) (by omega) hj (by omega)
        omega
    have far : ∀ (d i : Nat) (h : i + d + 1 < S.length), S[i] < S[i + d + 1] := by
      intro d
      induction d with
      | zero => intro i h; exact step i h
      | succ d ih =>
        intro i h
        exact Int.lt_trans (ih i (by omega)) (step (i + d + 1) h)
    refine List.pairwise_iff_getElem.2 fun i j hi hj hij => ?_
    have := far (j - i - 1) i (by omega)
    simp only [show i + (j - i - 1) + 1 = j by omega] at this
    omega
theorem sorted_pw (l : List Int) : (l.mergeSort fun x y => decide (x ≤ y)).Pairwise (fun x y => x ≤ y) := by
  have h := List.pairwise_mergeSort (le := fun (x y : Int) => decide (x ≤ y)) (fun a b c h1 h2 => by simp only [decide_eq_true_eq] at *; omega) (fun a b => by simp only [Bool.or_eq_true, decide_eq_true_eq]; omega) l
  exact h.imp (fun h => by simpa using h)
theorem diff_iff (l : List Int) : (compact (l.mergeSort fun x y => decide (x ≤ y))).length = l.length ↔ l.Nodup := by
  have hp := List.mergeSort_perm l (fun x y => decide (x ≤ y))
  rw [← hp.nodup_iff, nodup_sorted _ (sorted_pw l), ← compact_len_iff, List.length_mergeSort]
theorem diff_eq (l : List Int) : (((compact (l.mergeSort fun x y => decide (x ≤ y))).length : Int) == (l.length : Int)) = decide l.Nodup := by
  have h := diff_iff l
  by_cases hn : l.Nodup
  · rw [decide_eq_true hn]
    have := h.2 hn
    simp [this]
  · rw [decide_eq_false hn]
    have : (compact (l.mergeSort fun x y => decide (x ≤ y))).length ≠ l.length := fun e => hn (h.1 e)
    simp only [beq_eq_false_iff_ne]
    omega
end Go.Proofs.Ytmjhbdmicejppaa.Px
