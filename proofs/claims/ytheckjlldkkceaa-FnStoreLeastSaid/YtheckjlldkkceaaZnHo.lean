import Derived.Test.YtheckjlldkkceaaZnTk
import Derived.Test.YtheckjlldkkceaaZnPx4
import Derived.Test.YtheckjlldkkceaaZnPx7
import Derived.Test.YtheckjlldkkceaaZnPx8
import Derived.Test.YtheckjlldkkceaaZnPx10
import Derived.Test.YtheckjlldkkceaaZnPx13
import Derived.Test.YtheckjlldkkceaaZnPx14
import Derived.Test.YtheckjlldkkceaaZnPx18
namespace Go.Proofs.Ytheckjlldkkceaa.Pu
open Go.RowKit Go.Proofs.Ytheckjlldkkceaa.Px Go.Proofs.YtheckjlldkkceaaW.PrintWords Go.Proofs.YtheckjlldkkceaaW.PrintLast Go.Proofs.YtheckjlldkkceaaW.PrintMore
set_option linter.unusedVariables false
theorem copyI_l (a : Int) (l : List (List S30)) (hl : l.length ≤ 1048576) (hm : ∀ x ∈ l, x.length ≤ 1048576) : ∀ (d i : Nat), i + d = l.length → ∀ acc, acc = l.take i → Ev (fun k => impl_copyStore.l0 k l (l.length : Int) (i : Int) a acc) (a, l) := by
  intro d
  induction d with
  | zero =>
    intro i hi acc ha
    rw [List.take_of_length_le (by omega)] at ha
    subst ha
    refine Ev.step (f := fun _ => some (a, acc)) (fun k => ?_) (Ev.now _)
    simp only [impl_copyStore.l0]
    rw [if_neg (by omega)]
  | succ d ih =>
    intro i hi acc ha
    have hlt : i < l.length := by omega
    have hml := hm _ (List.getElem_mem hlt)
    refine Ev.step (fun k => ?_) (ih (i + 1) (by omega) (acc ++ [l[i]]) (by rw [ha, List.take_succ_eq_append_getElem hlt]))
    simp only [impl_copyStore.l0, impl_Kept_90.f]
    rw [if_pos (by omega), if_pos (by omega), if_pos (by omega), rdL2_nat l i hlt, if_pos (by omega)]
    simp only [Option.bind_some]
    rw [if_pos (by rw [ha, List.length_take]; omega), wrap_in (x := (i : Int) + 1) (by omega) (by omega)]
    rfl
theorem copyI_ev (a : Int) (l : List (List S30)) (hl : l.length ≤ 1048576) (hm : ∀ x ∈ l, x.length ≤ 1048576) : Ev (fun k => impl_copyStore.f k a l) (a, l) :=
  Ev.congr (fun k => by simp only [impl_copyStore.f]; rfl) (copyI_l a l hl hm l.length 0 (by omega) [] (by simp))
theorem copyS_l (a : Int) (l : List (List S30)) (hl : l.length ≤ 1048576) (hm : ∀ x ∈ l, x.length ≤ 1048576) : ∀ (d i : Nat), i + d = l.length → ∀ acc, acc = l.take i → Ev (fun k => spec_l06Copy.l0 k acc (i : Int) a l) (a, l) := by
  intro d
  induction d with
  | zero =>
    intro i hi acc ha
    rw [List.take_of_length_le (by omega)] at ha
    subst ha
    refine Ev.step (f := fun _ => some (a, acc)) (fun k => ?_) (Ev.now _)
    simp only [spec_l06Copy.l0]
    rw [if_neg (by omega)]
  | succ d ih =>
    intro i hi acc ha
    have hlt : i < l.length := by omega
    have hml := hm _ (List.getElem_mem hlt)
    refine Ev.step (fun k => ?_) (ih (i + 1) (by omega) (acc ++ [l[i]]) (by rw [ha, List.take_succ_eq_append_getElem hlt]))
    simp only [spec_l06Copy.l0]
    rw [if_pos (by omega)]
    simp only [Option.bind_some]
    rw [if_pos (by omega), rdL2_nat l i hlt, if_pos (by simp; omega), if_pos (by rw [ha, List.length_take]; omega), wrap_in (x := (i : Int) + 1) (by omega) (by omega), List.nil_append]
    rfl
theorem copyS_ev (a : Int) (l : List (List S30)) (hl : l.length ≤ 1048576) (hm : ∀ x ∈ l, x.length ≤ 1048576) : Ev (fun k => spec_l06Copy.f k a l) (a, l) :=
  Ev.congr (fun k => by simp only [spec_l06Copy.f]; rfl) (copyS_l a l hl hm l.length 0 (by omega) [] (by simp))
def hasB (b : Int) (m : List S30) : Bool := m.any fun y => y.f0 == b
def fnd (l : List (List S30)) (b : Int) : Int := Opens.idxB (hasB b) l
theorem laneOf_ev (a : Int) (l : List (List S30)) (b : Int) : impl_laneOf.f a l b = some (fnd l b) := by
  simp only [impl_laneOf.f, vc_impl_laneOf_1_idx.f, Option.bind_some]
  rfl
theorem find_l1 (a : Int) (l : List (List S30)) (b : Int) (i : Nat) (hi : i < l.length) (hm : l[i].length ≤ 1048576) (r : Int) : ∀ (d j : Nat), j + d = l[i].length →
    (hasB b (l[i].drop j) = true → r = i) → (hasB b (l[i].drop j) = false → Ev (fun k => spec_l06Find.l0 k b (wrap64 ((i : Int) + 1)) a l) r) → Ev (fun k => spec_l06Find.l1 k b (i : Int) (j : Int) a l) r := by
  have ei : rd_L2 l (i : Int) = l[i] := rdL2_nat l i hi
  intro d
  induction d with
  | zero =>
    intro j hj h1 h2
    rw [List.drop_of_length_le (by omega)] at h2
    refine Ev.step (fun k => ?_) (h2 rfl)
    simp only [spec_l06Find.l1, ei]
    rw [if_pos (by omega), if_pos (by omega), if_neg (by omega)]
  | succ d ih =>
    intro j hj h1 h2
    have hjl : j < l[i].length := by omega
    have ej : rd_T30 l[i] (j : Int) = l[i][j] := rd30_nat l[i] j hjl
    rw [List.drop_eq_getElem_cons hjl] at h1 h2
    simp only [hasB, List.any_cons] at h1 h2
    by_cases hb : l[i][j].f0 = b
    · have hr := h1 (by rw [hb]; simp)
      refine Ev.step (f := fun _ => some r) (fun k => ?_) (Ev.now _)
      simp only [spec_l06Find.l1, ei, ej]
      rw [if_pos (by omega), if_pos (by omega), if_pos (by omega), if_pos (by omega), if_pos hb, hr]
    · have hb' : (l[i][j].f0 == b) = false := by simpa using hb
      rw [hb', Bool.false_or] at h1 h2
      refine Ev.step (fun k => ?_) (ih (j + 1) (by omega) h1 h2)
      simp only [spec_l06Find.l1, ei, ej]
      rw [if_pos (by omega), if_pos (by omega), if_pos (by omega), if_pos (by omega), if_neg hb, wrap_in (x := (j : Int) + 1) (by omega) (by omega)]
      rfl
theorem find_l0 (a : Int) (l : List (List S30)) (b : Int) (hl : l.length ≤ 1048576) (hm : ∀ x ∈ l, x.length ≤ 1048576) : ∀ (d i : Nat), i + d = l.length → (∀ j (hj : j < l.length), j < i → hasB b l[j] = false) → Ev (fun k => spec_l06Find.l0 k b (i : Int) a l) (fnd l b) := by
  intro d
  induction d with
  | zero =>
    intro i hi ha
    have e : fnd l b = -1 := Opens.idxB_miss _ l (fun j hj => ha j hj (by omega))
    rw [e]
    refine Ev.step (f := fun _ => some (-1)) (fun k => ?_) (Ev.now _)
    simp only [spec_l06Find.l0]
    rw [if_neg (by omega)]
  | succ d ih =>
    intro i hi ha
    have hlt : i < l.length := by omega
    refine Ev.step (fun k => ?_) (find_l1 a l b i hlt (hm _ (List.getElem_mem hlt)) (fnd l b) l[i].length 0 (by omega) (fun h => ?_) (fun h => ?_))
    · simp only [spec_l06Find.l0]
      rw [if_pos (by omega)]
      rfl
    · rw [List.drop_zero] at h
      exact Opens.idxB_hit _ l i hlt h (fun j hj => ha j (by omega) hj)
    · rw [List.drop_zero] at h
      rw [wrap_in (x := (i : Int) + 1) (by omega) (by omega)]
      refine ih (i + 1) (by omega) (fun j hj hji => ?_)
      by_cases e : j = i
      · subst e; exact h
      · exact ha j hj (by omega)
theorem find_ev (a : Int) (l : List (List S30)) (b : Int) (hl : l.length ≤ 1048576) (hm : ∀ x ∈ l, x.length ≤ 1048576) : Ev (fun k => spec_l06Find.f k a l b) (fnd l b) :=
  Ev.congr (fun k => by simp only [spec_l06Find.f]; rfl) (find_l0 a l b hl hm l.length 0 (by omega) (fun j hj h => absurd h (by omega)))
theorem fnd_at {a : Int} {l : List (List S30)} (h : stOk a l = true) {i : Nat} (hi : i < l.length) {x : S30} (hx : x ∈ l[i]) : fnd l x.f0 = i := by
  refine Opens.idxB_hit _ l i hi ?_ (fun j hj => ?_)
  · simp only [hasB, List.any_eq_true]
    exact ⟨x, hx, by simp⟩
  · simp only [hasB]
    rw [Bool.eq_false_iff]
    intro hh
    rw [List.any_eq_true] at hh
    obtain ⟨y, hy, e⟩ := hh
    have e' : y.f0 = x.f0 := by simpa using e
    have hyx := bag_one h (lane_flat (by omega) hy) (lane_flat hi hx) e'
    subst hyx
    have := lane_one h (i := j) (j := i) (by omega) hi hy hx
    omega
theorem laneI_ev {a : Int} {l : List (List S30)} (h : stOk a l = true) {time : Int} (ht : 0 ≤ time ∧ time ≤ 100000) (but : Int) : Ev (fun k => impl_laneFor.f k a l time but) (laneFor a l time but) := by
  obtain ⟨h1, h2, h3, h4, h5, h6, h7⟩ := st_in h
  unfold laneFor
  rw [if_pos ⟨h, ht⟩, la_eq h]
  have live := impl_lf_l a time but l (by omega) (fun i => rdL2_in l (fun x => x.length ≤ 1048576) (by simp) (fun x hx => by have := h5 x hx; omega) i) l.length 0 (by omega) (-1) (-1) (-1) (by omega) (by omega)
  refine Ev.congr (fun k => ?_) live
  simp only [impl_laneFor.f]
  rfl
theorem lane_rd {l : List (List S30)} {i : Nat} (hi : i < l.length) {m : List S30} {k : S30} (e : l[i] = m ++ [k]) (hm : m.length ≤ 1048576) :
    rd_L2 l (i : Int) = m ++ [k] ∧ wrap64 (((rd_L2 l (i : Int)).length : Int) - 1) = (m.length : Int) ∧ rd_T30 (rd_L2 l (i : Int)) (m.length : Int) = k ∧ (rd_L2 l (i : Int)).take m.length = m := by
  have e1 : rd_L2 l (i : Int) = m ++ [k] := by rw [rdL2_nat l i hi, e]
  refine ⟨e1, ?_, ?_, ?_⟩
  · rw [e1, List.length_append, List.length_singleton, wrap_in (by omega) (by omega)]
    omega
  · rw [e1, rd30_nat _ _ (by simp)]
    simp
  · rw [e1]
    simp
theorem hop_ev {a : Int} {l : List (List S30)} (hl : l.length ≤ 1048576) (hmx : ∀ x ∈ l, x.length ≤ 1048576) {i t : Nat} (hi : i < l.length) (ht : t < l.length) (hti : t ≠ i) {m : List S30} {k : S30} (e : l[i] = m ++ [k]) :
    Ev (fun n => spec_l06Hop.f n a l (i : Int) (t : Int)) (a, hopd l i t m k) := by
  have hml := hmx _ (List.getElem_mem hi)
  rw [e, List.length_append] at hml
  simp only [List.length_singleton] at hml
  obtain ⟨e1, e2, e3, e4⟩ := lane_rd hi e (by omega)
  have ht1 := hmx _ (List.getElem_mem ht)
  refine Lt.ev (Lt.of (copyS_ev a l hl hmx)) fun n e0 => ?_
  simp only [spec_l06Hop.f, e0, Option.bind_some]
  rw [e2, e3, if_pos (by omega), if_pos (by omega), if_pos (by omega), if_pos (by omega), if_pos (by omega), if_pos (by rw [e1]; simp; omega), if_neg (by omega), rdL2_nat l t ht, if_pos (by omega)]
  have e5 : rd_L2 (l.set t (l[t] ++ [k])) (i : Int) = m ++ [k] := by
    rw [rdL2_nat _ i (by simpa using hi), List.getElem_set_ne hti, e]
  simp only [Int.toNat_natCast, e5]
  rw [if_pos (by simp; omega)]
  simp only [List.take_left]
  rw [hopd, List.set_comm _ _ hti, getD_at l t [] ht]
theorem lane_nodup {a : Int} {l : List (List S30)} (h : stOk a l = true) {i : Nat} (hi : i < l.length) : (l[i].map (·.f0)).Nodup := by
  have hp := (flat_at l i hi).map (·.f0)
  have := hp.nodup_iff.1 (st_in h).2.2.2.2.2.2
  rw [List.map_append, List.nodup_append] at this
  exact this.1
theorem last_ne {a : Int} {l : List (List S30)} (h : stOk a l = true) {i : Nat} (hi : i < l.length) {p q : List S30} {x k : S30} (e : l[i] = (p ++ x :: q) ++ [k]) : ¬ k.f0 = x.f0 := by
  have hn := lane_nodup h hi
  rw [e, List.map_append, List.nodup_append] at hn
  intro e2
  exact hn.2.2 x.f0 (List.mem_map_of_mem (by simp)) k.f0 (by simp) e2.symm
def tkd (a : Int) (l0 : List (List S30)) (r : Option (List (List S30) × List S78)) : Int × List (List S30) × List S78 × Bool := match r with
  | some (l', h') => (a, l', h', true)
  | none => (a, l0, [], false)
theorem st_small {a : Int} {l : List (List S30)} (h : stOk a l = true) : l.length ≤ 1048576 ∧ ∀ x ∈ l, x.length ≤ 1048576 := by
  obtain ⟨h1, h2, h3, h4, h5, h6, h7⟩ := st_in h
  exact ⟨by omega, fun x hx => by have := h5 x hx; omega⟩
theorem time_in {a : Int} {l : List (List S30)} (h : stOk a l = true) {i : Nat} (hi : i < l.length) {x : S30} (hx : x ∈ l[i]) : 1 ≤ x.f0 ∧ 0 ≤ x.f1 ∧ x.f1 ≤ 100000 := okK_in ((st_in h).2.2.2.2.2.1 x (lane_flat hi hx))
theorem impl_tk_l (a : Int) (l0 : List (List S30)) (hl0 : l0.length ≤ 1048576) (hm0 : ∀ x ∈ l0, x.length ≤ 1048576) (i : Nat) (x : S30) : ∀ (d : Nat) (l : List (List S30)) (h : List S78) (p q : List S30), stOk a l = true → ∀ (hi : i < l.length), l[i] = p ++ x :: q → q.length = d → h.length + d ≤ 1000 →
    Ev (fun k => impl_TakeBag.l0 k x.f0 (i : Int) h a l0 a l) (tkd a l0 (tk a i d l h))
  | 0, l, h, p, q, hs, hi, e, hq, hh => by
    have hq0 : q = [] := List.eq_nil_of_length_eq_zero hq
    subst hq0
    have hb := (st_small hs).2 _ (List.getElem_mem hi)
    rw [e, List.length_append] at hb
    obtain ⟨e1, e2, e3, e4⟩ := lane_rd hi e (by omega)
    refine Ev.step (f := fun _ => some (tkd a l0 (tk a i 0 l h))) (fun k => ?_) (Ev.now _)
    simp only [impl_TakeBag.l0]
    rw [e2, e3, if_pos (by omega), if_pos (by omega), if_pos (by omega), if_pos (by rw [e1]; simp; omega), if_pos rfl, if_pos (by rw [e1]; simp; omega)]
    simp only [Int.toNat_natCast, e4, tk, tkd, getD_at l i [] hi, e]
    rw [List.dropLast_concat]
  | d + 1, l, h, p, q, hs, hi, e, hq, hh => by
    obtain ⟨q', k, rfl⟩ : ∃ q' k, q = q' ++ [k] := ⟨q.dropLast, q.getLast (by intro h; rw [h] at hq; cases hq), (List.dropLast_concat_getLast _).symm⟩
    have e' : l[i] = (p ++ x :: q') ++ [k] := by rw [e]; simp
    have hb := (st_small hs).2 _ (List.getElem_mem hi)
    rw [e', List.length_append] at hb
    obtain ⟨e1, e2, e3, e4⟩ := lane_rd hi e' (by omega)
    have hne := last_ne hs hi e'
    have htm := time_in hs hi (x := k) (by rw [e']; simp)
    have hlf := laneI_ev hs htm.2 (i : Int)
    have et : tk a i (d + 1) l h = (if laneFor a l k.f1 (i : Int) < 0 then none else tk a i d (hopd l i (laneFor a l k.f1 (i : Int)).toNat (p ++ x :: q') k) (h ++ [⟨k.f0, i, laneFor a l k.f1 (i : Int)⟩])) := by
      simp only [tk, getD_at l i [] hi, e']
      rw [List.dropLast_concat, last_snoc]
    rw [et]
    by_cases hc : laneFor a l k.f1 (i : Int) < 0
    · rw [if_pos hc]
      refine Ev.round ((Lt.of hlf).and (Lt.of (copyI_ev a l0 hl0 hm0))) fun n ⟨f1, f2⟩ => ?_
      simp only [impl_TakeBag.l0]
      rw [e2, e3, if_pos (by omega), if_pos (by omega), if_pos (by omega), if_pos (by rw [e1]; simp; omega), if_neg hne, f1]
      simp only [Option.bind_some]
      rw [if_pos hc, f2]
      rfl
    · rw [if_neg hc]
      obtain ⟨t, htl, ett, hti, hr⟩ := laneFor_in (a := a) (l := l) (time := k.f1) (but := (i : Int)) (by omega)
      have hti' : t ≠ i := by omega
      have htb := (st_small hs).2 _ (List.getElem_mem htl)
      have ih := impl_tk_l a l0 hl0 hm0 i x d (hopd l i t (p ++ x :: q') k) (h ++ [⟨k.f0, i, t⟩]) p q' (st_hop hs hi htl hti' hr e') (by rw [hopd_len]; exact hi) (hopd_at hi hti') (by simpa using hq) (by simp; omega)
      rw [ett, Int.toNat_natCast]
      rw [ett] at hlf
      refine Ev.round ((Lt.of hlf).and (Lt.of ih)) fun n ⟨f1, f2⟩ => ?_
      simp only [impl_TakeBag.l0]
      rw [e2, e3, if_pos (by omega), if_pos (by omega), if_pos (by omega), if_pos (by rw [e1]; simp; omega), if_neg hne, f1]
      simp only [Option.bind_some]
      have e5 : rd_L2 (l.set i (p ++ x :: q')) (t : Int) = l[t] := by
        rw [rdL2_nat _ t (by simpa using htl), List.getElem_set_ne (Ne.symm hti')]
      rw [if_neg (by omega), if_pos (by rw [e1]; simp; omega)]
      simp only [Int.toNat_natCast, e4, e5]
      rw [if_pos (by omega), if_pos (by omega), if_neg (by omega), if_pos (by omega), if_pos (by omega)]
      have eh : (l.set i (p ++ x :: q')).set t (l[t] ++ [⟨k.f0, k.f1⟩]) = hopd l i t (p ++ x :: q') k := by
        unfold hopd
        rw [getD_at l t [] htl]
      rw [eh]
      exact f2
end Go.Proofs.Ytheckjlldkkceaa.Pu
