import Derived.Test.YtmjhbdmicejppaaZsWMore
import Derived.ChangeArms
import Derived.SizedLaws
import Derived.DataReads
namespace Go.Proofs.Ytmjhbdmicejppaa
open Go.RowKit Go.Proofs.YtmjhbdmicejppaaW.PrintWords
set_option linter.unusedVariables false
namespace Opens
section
variable {P : Program}
structure Opn {α : Type} (P : Program) (t : TypeId) (d : Kd α) (wf : α → Prop) : Prop where
  op : ∀ {H : Type} {enc : TypeId × Value → H} {w : World} {base : Nat} {spare : Nat → Bool} {held : Bool} {fuel : Nat} {cs : List Value} {x : DataW H × List MemPlace},
    DataW.trod enc P w base spare held fuel t cs = some x → (x.1.weights P t).all (· ≤ reachBytes) = true → ∃ y, d.K w y cs ∧ wf y
theorem op_int {t : TypeId} {k : IntKind} (ht : P.underlying t = some (.int k)) : Opn P t (Kd.int k) (fun n => (Lit.int k n).wf = true) := by
  constructor
  intro H enc w base spare held fuel cs x h _
  obtain ⟨n, rfl, _, hw⟩ := DataW.trod_int ht h
  exact ⟨n, rfl, hw⟩
theorem weightsAll_mem {H : Type} {e : TypeId} {ds : List (DataW H)} {d : DataW H} (hd : d ∈ ds) {n : Nat} (hn : n ∈ d.weights P e) : n ∈ DataW.weightsAll P e ds := by
  induction ds with
  | nil => cases hd
  | cons a r ih =>
    simp only [DataW.weightsAll, List.mem_append]
    rcases List.mem_cons.1 hd with rfl | hd
    · exact .inl hn
    · exact .inr (ih hd)
theorem op_slice {α : Type} {t e : TypeId} {d : Kd α} {wf : α → Prop} (E : Nat) (ht : P.underlying t = some (.slice e)) (he : Opn P e d wf) (hc : P.cellsOf e = d.sz) (B : Nat) (hB : P.bytesOf e = B) :
    Opn P t (Kd.slice E d) (fun xs => xs.length * B ≤ 140737488351232 ∧ xs.length ≤ maxLen ∧ ∀ x ∈ xs, wf x) := by
  constructor
  intro H enc w base spare held fuel cs x h hsz
  rcases DataW.trod_slice ht h with ⟨rfl, _⟩ | ⟨a, len, cap, elems, rest, n, _, rfl, rfl, hb, hl, hm, hlen, hel, _, _⟩
  · refine ⟨[], ⟨none, 0, rfl, Nat.le_refl _, rfl, by simp, fun h0 => absurd h0 (by simp)⟩, by simp, by simp, (fun x hx => by cases hx)⟩
  · simp only [DataW.weights, ht] at hsz
    rw [List.all_cons, Bool.and_eq_true] at hsz
    obtain ⟨hw0, hwr⟩ := hsz
    have each : ∀ i, i < len → ∃ y c, c.length = d.sz ∧ d.K w y c ∧ wf y ∧ ∀ j u, c[j]? = some u → w.cell? (a.add (i * d.sz + j)) = some u := by
      intro i hi
      have h1 := hel i hi
      have hie : i < elems.length := by omega
      rw [List.getElem?_eq_getElem hie, Option.bind_eq_some_iff] at h1
      obtain ⟨c, hcs, htr⟩ := h1
      obtain ⟨_, hcl, hcell⟩ := World.cells?_some hcs
      rw [hc] at hcl hcell
      have hwi : (elems[i].1.weights P e).all (· ≤ reachBytes) = true := by
        rw [List.all_eq_true]
        intro m hmm
        refine List.all_eq_true.1 hwr m (List.mem_append_left _ (weightsAll_mem (d := elems[i].1) ?_ hmm))
        exact List.mem_map.2 ⟨_, List.getElem_mem hie, rfl⟩
      obtain ⟨y, hy, hwf⟩ := he.op htr hwi
      refine ⟨y, c, hcl, hy, hwf, fun j u hu => ?_⟩
      have hj : j < d.sz := by
        have := (List.getElem?_eq_some_iff.1 hu).1
        omega
      have := hcell j hj
      rw [hu] at this
      rw [← this]
      congr 1
      unfold Addr.add
      by_cases h0 : i * d.sz = 0
      · simp [h0]
      · by_cases h1 : j = 0
        · simp [h0, h1]
        · simp [h0, h1, Nat.add_assoc]
    have build : ∀ m, m ≤ len → ∃ ys : List α, ys.length = m ∧ (∀ x ∈ ys, wf x) ∧ ∀ j p, ys[j]? = some p → ∃ c, c.length = d.sz ∧ d.K w p c ∧ ∀ i u, c[i]? = some u → w.cell? (a.add (j * d.sz + i)) = some u := by
      intro m
      induction m with
      | zero => exact fun _ => ⟨[], rfl, (fun x hx => by cases hx), (fun j p hj => by simp at hj)⟩
      | succ m ih =>
        intro hm'
        obtain ⟨ys, hy1, hy2, hy3⟩ := ih (by omega)
        obtain ⟨y, c, hcl, hK, hwf, hcell⟩ := each m (by omega)
        refine ⟨ys ++ [y], by simp [hy1], ?_, ?_⟩
        · intro x hx
          rcases List.mem_append.1 hx with hx | hx
          · exact hy2 x hx
          · rw [List.mem_singleton.1 hx]; exact hwf
        · intro j p hj
          rcases Nat.lt_or_ge j ys.length with hlt | hge
          · rw [List.getElem?_append_left hlt] at hj
            exact hy3 j p hj
          · have hjm : j = m := by
              have := (List.getElem?_eq_some_iff.1 hj).1
              simp at this
              omega
            subst hjm
            rw [List.getElem?_append_right hge] at hj
            have : p = y := by
              have h2 : j - ys.length = 0 := by omega
              rw [h2] at hj
              simpa using hj.symm
            subst this
            exact ⟨c, hcl, hK, hcell⟩
    obtain ⟨ys, hy1, hy2, hy3⟩ := build len (Nat.le_refl _)
    have hml : len ≤ maxLen := by omega
    refine ⟨ys, ⟨some a, cap, by rw [hy1], by omega, rfl, by rw [hy1]; simpa [maxLen] using hml, fun _ => ⟨a, rfl, hy3⟩⟩, ?_, by omega, hy2⟩
    rw [hB] at hw0
    have hw1 : (elems.length + rest.length) * B ≤ reachBytes := by simpa using hw0
    have hw2 : ys.length * B ≤ (elems.length + rest.length) * B := Nat.mul_le_mul_right _ (by omega)
    have hr : reachBytes = 140737488351232 := rfl
    omega
theorem weightsEach_mem {H : Type} {ts : List TypeId} {ds : List (DataW H)} {i : Nat} {t : TypeId} {d : DataW H} (ht : ts[i]? = some t) (hd : ds[i]? = some d) (h : (DataW.weightsEach P ts ds).all (· ≤ reachBytes) = true) : (d.weights P t).all (· ≤ reachBytes) = true := by
  rw [List.all_eq_true] at h ⊢
  intro m hm
  exact h m (DataW.weights_mem_each ht hd m hm)
end
def idxB {α : Type} (p : α → Bool) (l : List α) : Int := match l.findIdx? p with | some i => (i : Int) | none => -1
theorem idxB_hit {α : Type} (p : α → Bool) (l : List α) (k : Nat) (h : k < l.length) (hp : p l[k] = true) (hn : ∀ j (hj : j < k), p (l[j]'(by omega)) = false) : idxB p l = k := by
  unfold idxB
  have : l.findIdx? p = some k := by
    rw [List.findIdx?_eq_some_iff_getElem]
    exact ⟨h, hp, fun j hj => by simp [hn j hj]⟩
  rw [this]
theorem idxB_miss {α : Type} (p : α → Bool) (l : List α) (hn : ∀ j (hj : j < l.length), p l[j] = false) : idxB p l = -1 := by
  unfold idxB
  have : l.findIdx? p = none := by
    rw [List.findIdx?_eq_none_iff]
    intro x hx
    obtain ⟨j, hj, rfl⟩ := List.mem_iff_getElem.1 hx
    exact hn j hj
  rw [this]
theorem idxB_any {α : Type} (p : α → Bool) (l : List α) : decide (0 ≤ idxB p l) = l.any p := by
  unfold idxB
  cases h : l.findIdx? p with
  | none =>
    rw [List.findIdx?_eq_none_iff] at h
    have : l.any p = false := by rw [List.any_eq_false]; intro x hx; simp [h x hx]
    rw [this]; decide
  | some i =>
    rw [List.findIdx?_eq_some_iff_getElem] at h
    obtain ⟨h1, h2, _⟩ := h
    have : l.any p = true := by rw [List.any_eq_true]; exact ⟨_, List.getElem_mem h1, h2⟩
    rw [this]; simp
end Opens
end Go.Proofs.Ytmjhbdmicejppaa
