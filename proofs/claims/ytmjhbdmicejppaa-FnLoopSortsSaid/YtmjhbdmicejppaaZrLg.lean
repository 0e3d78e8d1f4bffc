import Derived.Test.YtmjhbdmicejppaaZrWt
import Derived.Test.YtmjhbdmicejppaaZrSo
import Derived.Test.YtmjhbdmicejppaaZrMo
import Derived.Test.YtmjhbdmicejppaaZrSk
namespace Go.Proofs.Ytmjhbdmicejppaa.Pu
open Go.RowKit Go.Proofs.Ytmjhbdmicejppaa.Px Go.Proofs.YtmjhbdmicejppaaW.PrintWords Go.Proofs.YtmjhbdmicejppaaW.PrintLast Go.Proofs.YtmjhbdmicejppaaW.PrintMore
set_option linter.unusedVariables false
theorem le_mx (a b : Int) : a ≤ mx a b ∧ b ≤ mx a b := by
  unfold mx
  split <;> omega
theorem le_stp (r : List Int) (g : List Int → Int) (o : Int) (x : Nat) : o ≤ stp r g o x := by
  unfold stp
  split
  · exact (le_mx _ _).1
  · exact Int.le_refl _
theorem le_fold (r : List Int) (g : List Int → Int) : ∀ (ch : List Int) (o : Int), o ≤ ch.foldl (fun o x => stp r g o x.toNat) o
  | [], o => Int.le_refl _
  | x :: ch, o => Int.le_trans (le_stp r g o x.toNat) (le_fold r g ch _)
theorem le_fold_mem (r : List Int) (g : List Int → Int) (x : Nat) (hx : 0 < r.getD x 0) : ∀ (ch : List Int) (o : Int), (x : Int) ∈ ch → 1 + g (r.set x (r.getD x 0 - 1)) ≤ ch.foldl (fun o x => stp r g o x.toNat) o
  | [], o, h => by cases h
  | y :: ch, o, h => by
    rcases List.mem_cons.1 h with e | e
    · refine Int.le_trans ?_ (le_fold r g ch _)
      rw [← e]
      show _ ≤ stp r g o ((x : Int)).toNat
      rw [Int.toNat_natCast]
      unfold stp
      rw [if_pos (by omega)]
      exact (le_mx _ _).2
    · exact le_fold_mem r g x hx ch _ e
theorem mv_ge (w : List S74) (f : Int → Option Nat) : ∀ (bs r : List Int), (∀ b ∈ bs, ∀ x, f b = some x → (x : Int) ∈ wnt w b) → (∀ x, ((bs.countP (fun b => f b == some x) : Nat) : Int) ≤ r.getD x 0) → ((bs.countP (fun b => (f b).isSome) : Nat) : Int) ≤ mv w bs r
  | [], r, _, _ => by simp [mv]
  | b :: bs, r, h, hr => by
    have h' : ∀ b ∈ bs, ∀ x, f b = some x → (x : Int) ∈ wnt w b := fun b hb => h b (List.mem_cons_of_mem _ hb)
    show _ ≤ (wnt w b).foldl (fun o x => stp r (mv w bs) o x.toNat) (mv w bs r)
    cases hf : f b with
    | none =>
      rw [List.countP_cons_of_neg (by simp [hf])]
      refine Int.le_trans (mv_ge w f bs r h' (fun x => ?_)) (le_fold r _ _ _)
      have := hr x
      rw [List.countP_cons_of_neg (by simp [hf])] at this
      exact this
    | some x =>
      rw [List.countP_cons_of_pos (by simp [hf])]
      have hx0 := hr x
      rw [List.countP_cons_of_pos (by simp [hf])] at hx0
      have hpos : 0 < r.getD x 0 := by omega
      have hlen : x < r.length := by
        by_cases q : x < r.length
        · exact q
        · rw [List.getD_eq_getElem?_getD, List.getElem?_eq_none (by omega)] at hpos
          exact absurd hpos (by simp)
      have ih := mv_ge w f bs (r.set x (r.getD x 0 - 1)) h' (fun y => by
        have hy := hr y
        by_cases e : x = y
        · subst e
          rw [List.getD_eq_getElem?_getD, List.getElem?_set, if_pos rfl, if_pos hlen, Option.getD_some]
          omega
        · rw [List.countP_cons_of_neg (by simp [hf, e])] at hy
          rw [List.getD_eq_getElem?_getD, List.getElem?_set, if_neg e, ← List.getD_eq_getElem?_getD]
          exact hy)
      have := le_fold_mem r (mv w bs) x hpos (wnt w b) (mv w bs r) (h b List.mem_cons_self x hf)
      omega
theorem nodup_len : ∀ (l m : List Int), l.Nodup → (∀ x ∈ l, x ∈ m) → l.length ≤ m.length
  | [], _, _, _ => Nat.zero_le _
  | a :: l, m, h, hs => by
    obtain ⟨h1, h2⟩ := List.nodup_cons.1 h
    have ha := hs a List.mem_cons_self
    have ih := nodup_len l (m.erase a) h2 (fun x hx => (List.mem_erase_of_ne (fun e => h1 (by rw [← e]; exact hx))).2 (hs x (List.mem_cons_of_mem _ hx)))
    rw [List.length_erase_of_mem ha] at ih
    have : 0 < m.length := List.length_pos_of_mem ha
    rw [List.length_cons]
    omega
def Grow (wa : List S74) (c e : List S69) : Prop := ∀ x : Nat, ∃ a, (e.getD x z69).f2 = (c.getD x z69).f2 ++ a ∧ ∀ b ∈ a, (x : Int) ∈ wnt wa b
theorem Grow.refl (wa : List S74) (c : List S69) : Grow wa c c := fun x => ⟨[], by simp, fun b hb => by cases hb⟩
theorem Grow.trans {wa : List S74} {c d e : List S69} (h : Grow wa c d) (k : Grow wa d e) : Grow wa c e := fun x => by
  obtain ⟨a, ha, h1⟩ := h x
  obtain ⟨b, hb, h2⟩ := k x
  refine ⟨a ++ b, by rw [hb, ha, List.append_assoc], fun y hy => ?_⟩
  rcases List.mem_append.1 hy with q | q
  · exact h1 y q
  · exact h2 y q
theorem step1_grow (wa : List S74) (T : Int) (tr : List Int) (ch : List S69) (i : Nat) : Grow wa ch (step1 wa T tr ch i).2 := by
  unfold step1
  split
  · exact Grow.refl _ _
  · split
    · rename_i h1 h2
      intro x
      by_cases e : i = x
      · subst e
        by_cases hl : i < ch.length
        · refine ⟨[rd tr (trayV tr T (ch.getD i z69).f0)], ?_, fun b hb => ?_⟩
          · simp only [List.getD_eq_getElem?_getD, List.getElem?_set]
            rw [if_pos trivial, if_pos hl]
            rfl
          · rw [List.mem_singleton.1 hb]
            exact h2.1
        · refine ⟨[], ?_, fun b hb => by cases hb⟩
          simp only [List.getD_eq_getElem?_getD, List.getElem?_set]
          rw [if_pos trivial, if_neg hl, List.getElem?_eq_none (by omega)]
          simp
      · refine ⟨[], ?_, fun b hb => by cases hb⟩
        simp only [List.getD_eq_getElem?_getD, List.getElem?_set]
        rw [if_neg e]
        simp
    · exact Grow.refl _ _
theorem stepL_grow (wa : List S74) (T : Int) : ∀ (d i : Nat) (tr : List Int) (ch : List S69), Grow wa ch (stepL wa T d i tr ch).2
  | 0, _, _, _ => Grow.refl _ _
  | d + 1, i, tr, ch => (step1_grow wa T tr ch i).trans (stepL_grow wa T d (i + 1) _ _)
theorem itV_grow (wa : List S74) : ∀ (d : Nat) (tr : List Int) (T : Int) (ch : List S69), Grow wa ch (itV wa d tr T ch).2.2
  | 0, _, _, _ => Grow.refl _ _
  | d + 1, tr, T, ch => (stepL_grow wa _ _ _ tr ch : Grow wa ch (nxS tr T ch wa).2).trans (itV_grow wa d _ _ _)
theorem stepsV_true (wa : List S74) (b : Int) : ∀ (d i : Nat) (tr : List Int) (T : Int) (ch : List S69), b ∈ tr → (stepsV wa b d i tr T ch).2 = true →
    ∃ j, j < d ∧ (stepsV wa b d i tr T ch).1 = ((i + j + 1 : Nat) : Int) ∧ b ∈ (itV wa j tr T ch).1 ∧ b ∉ (itV wa (j + 1) tr T ch).1
  | 0, _, _, _, _, _, h => by cases h
  | d + 1, i, tr, T, ch, hb, h => by
    unfold stepsV at h ⊢
    by_cases c : b ∈ (nxS tr T ch wa).1
    · rw [if_pos c] at h ⊢
      obtain ⟨j, h1, h2, h3, h4⟩ := stepsV_true wa b d (i + 1) _ _ _ c h
      refine ⟨j + 1, by omega, ?_, h3, h4⟩
      rw [h2]
      congr 1
      omega
    · rw [if_neg c]
      exact ⟨0, by omega, rfl, hb, c⟩
theorem sub_mem {e l : List Int} (h : Sub e l) {b : Int} (hb : b ∈ e) (h0 : b ≠ 0) : b ∈ l := by
  obtain ⟨i, hi, he⟩ := List.mem_iff_getElem.1 hb
  have hl : i < l.length := by rw [← h.1]; exact hi
  have ge : e.getD i 0 = b := by rw [List.getD_eq_getElem?_getD, List.getElem?_eq_getElem hi]; exact he
  rcases h.2 i with q | q
  · rw [← ge, q, show l.getD i 0 = l[i] by simp [hl]]
    exact List.getElem_mem hl
  · exact absurd (ge.symm.trans q) h0
theorem it_gone (wa : List S74) (b : Int) (h0 : b ≠ 0) (m d : Nat) (hm : m ≤ d) (tr : List Int) (T : Int) (ch : List S69) (h : b ∉ (itV wa m tr T ch).1) : b ∉ (itV wa d tr T ch).1 := by
  obtain ⟨e, rfl⟩ : ∃ e, d = m + e := ⟨d - m, by omega⟩
  rw [itV_add]
  exact fun hb => h (sub_mem (itV_sub wa e _ _ _) hb h0)
theorem gone_le {t : List Int} {a : Int} {c : List S69} {w : List S74} (h : lpOk t a c w = true) (hwb : ∀ x ∈ w, x.f1.length ≤ 1048576) (d : Nat) (p : Int → Bool) (hp : ∀ b ∈ t, b ≠ 0 → p b = true → b ∉ (itV w d t a c).1) :
    (((t.filter (fun x => !decide (x = 0))).countP p : Nat) : Int) ≤ mv w (t.filter (fun x => !decide (x = 0))) (room c) := by
  have hV := lp_Vl h hwb
  have hnd := lp_bags h
  have hperm := itV_perm d hV
  have hg := itV_grow w d t a c
  have hl := itV_len d hV
  have hf := fun j => itV_f0 (n := t.length) (wa := w) d (tr := t) (T := a) (ch := c) j
  have hI := itV_V d hV
  obtain ⟨r1, r2, r3, r4⟩ := lp_room h
  generalize itV w d t a c = E at hp hperm hg hl hf hI
  have hA : ∃ A : Nat → List Int, ∀ x, (E.2.2.getD x z69).f2 = (c.getD x z69).f2 ++ A x ∧ ∀ b ∈ A x, (x : Int) ∈ wnt w b := ⟨fun x => Classical.choose (hg x), fun x => Classical.choose_spec (hg x)⟩
  obtain ⟨A, hA⟩ := hA
  have hin : ∀ b ∈ t.filter (fun x => !decide (x = 0)), p b = true → ∃ x, x < c.length ∧ b ∈ A x := fun b hb hpb => by
    obtain ⟨hbt, hb0⟩ := List.mem_filter.1 hb
    have hb0' : b ≠ 0 := by simpa using hb0
    have hne := hp b hbt hb0' hpb
    have hm : b ∈ bagsL E.1 E.2.2 := hperm.mem_iff.2 (List.mem_append_left _ hb)
    rcases List.mem_append.1 hm with q | q
    · exact absurd (List.mem_filter.1 q).1 hne
    · obtain ⟨y, hy, hby⟩ := List.mem_flatMap.1 q
      obtain ⟨x, hx, rfl⟩ := List.mem_iff_getElem.1 hy
      have hxc : x < c.length := by omega
      have e1 := (hA x).1
      rw [show E.2.2.getD x z69 = E.2.2[x] by simp [hx], show c.getD x z69 = c[x] by simp [hxc]] at e1
      rw [e1] at hby
      rcases List.mem_append.1 hby with q | q
      · exfalso
        have hn := (List.nodup_append.1 hnd.2).2.2
        exact hn b hb b (List.mem_flatMap.2 ⟨_, List.getElem_mem hxc, q⟩) rfl
      · exact ⟨x, hxc, q⟩
  have hroom : ∀ x, x < c.length → ((A x).length : Int) ≤ (room c).getD x 0 := fun x hx => by
    have hxE : x < E.2.2.length := by omega
    have e1 := (hA x).1
    have e2 := (hf x).2
    rw [show E.2.2.getD x z69 = E.2.2[x] by simp [hxE], show c.getD x z69 = c[x] by simp [hx]] at e1 e2
    obtain ⟨_, _, _, q⟩ := hI.chs _ (List.getElem_mem hxE)
    rw [e1, e2, List.length_append] at q
    have : (room c).getD x 0 = c[x].f1 - (c[x].f2.length : Int) := by unfold room; simp [hx]
    rw [this]
    omega
  have nd := lp_nd h
  generalize t.filter (fun x => !decide (x = 0)) = L at hin nd ⊢
  let f : Int → Option Nat := fun b => (List.range c.length).find? (fun x => decide (b ∈ A x))
  have h1 := mv_ge w f L (room c) (fun b hb x hx => by
    have := List.find?_some hx
    exact (hA x).2 b (by simpa using this)) (fun x => by
    by_cases hx : x < c.length
    · have q1 : L.countP (fun b => f b == some x) ≤ L.countP (fun b => decide (b ∈ A x)) := List.countP_mono_left (fun b hb hfb => by
        have := List.find?_some (show (List.range c.length).find? (fun x => decide (b ∈ A x)) = some x from eq_of_beq hfb)
        exact this)
      have q2 : L.countP (fun b => decide (b ∈ A x)) ≤ (A x).length := by
        rw [List.countP_eq_length_filter]
        exact nodup_len _ _ (nd.sublist List.filter_sublist) (fun y hy => by simpa using (List.mem_filter.1 hy).2)
      have := hroom x hx
      omega
    · have q1 : L.countP (fun b => f b == some x) = 0 := List.countP_eq_zero.2 (fun b hb hfb => by
        have := List.mem_of_find?_eq_some (show (List.range c.length).find? (fun x => decide (b ∈ A x)) = some x from eq_of_beq hfb)
        exact hx (List.mem_range.1 this))
      rw [q1, List.getD_eq_getElem?_getD, List.getElem?_eq_none (by unfold room; rw [List.length_map]; omega)]
      exact Int.le_refl _)
  have h2 : L.countP p ≤ L.countP (fun b => (f b).isSome) := List.countP_mono_left (fun b hb hpb => by
    obtain ⟨x, hx, hbx⟩ := hin b hb hpb
    rw [List.find?_isSome]
    exact ⟨x, List.mem_range.2 hx, by simpa using hbx⟩)
  omega
end Go.Proofs.Ytmjhbdmicejppaa.Pu
