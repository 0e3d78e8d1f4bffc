import Derived.Test.YtdmbfmfdijgdkaaZvGr
import Derived.Test.YtdmbfmfdijgdkaaZvPx6
import Derived.Test.YtdmbfmfdijgdkaaZvPx10
import Derived.Test.YtdmbfmfdijgdkaaZvPx29
namespace Go.Proofs.Ytdmbfmfdijgdkaa.Pu
open Go.RowKit Go.Proofs.Ytdmbfmfdijgdkaa.Px Go.Proofs.YtdmbfmfdijgdkaaW.PrintWords Go.Proofs.YtdmbfmfdijgdkaaW.PrintLast Go.Proofs.YtdmbfmfdijgdkaaW.PrintMore
set_option linter.unusedVariables false
theorem draw_expects_ev (b : List Int) (hb : b.length ≤ 1048576) : ∃ l s, Ev (fun k => spec_DrawExpects.f k b) (l, s) ∧ GoodE l ∧ GoodS s := by
  obtain ⟨h, e0, c0⟩ := new_ev b hb
  obtain ⟨l, i1, h1, e1, c1, g1⟩ := expects_ok b 0 h c0
  obtain ⟨s, i2, h2, e2, c2, g2⟩ := sights_ok b i1 h1 c1
  refine ⟨l, s, ?_, g1, g2⟩
  refine Lt.ev ((Lt.of e0).and ((Lt.of e1).and (Lt.of e2))) fun k ⟨a0, a1, a2⟩ => ?_
  simp only [spec_DrawExpects.f, a0, a1, a2, Option.bind_some]
theorem choices_small {l : List S52} {s : List S89} (hl : GoodE l) (hs : GoodS s) (i : Nat) (hi : i < s.length) : (choices l s (i : Int)).length ≤ 7 ∧ ∀ v ∈ choices l s (i : Int), 0 ≤ v := by
  have hok : (exOk l && sgOk s) = true := by rw [hl.ok, hs.ok]; rfl
  obtain ⟨h1, h2⟩ := mem_choices hok hi
  have hv : ∀ v ∈ choices l s (i : Int), v = (s.getD i z89).f1 ∨ ∃ x ∈ l, x.f0 = v := fun v hv => by
    obtain ⟨t, ht, _, e⟩ := (h2 v).1 hv
    rcases way_at ht i hi with h | ⟨x, hx, _, h, _⟩
    · exact .inl (by rw [← e, h])
    · exact .inr ⟨x, hx, by rw [← e, h]⟩
  refine ⟨?_, fun v h => ?_⟩
  · have := nodup_len (choices l s (i : Int)) ((s.getD i z89).f1 :: l.map (·.f0)) (h1.imp (fun {a b} h => by intro e; omega)) (fun v h => by
      rcases hv v h with e | ⟨x, hx, e⟩
      · rw [e]; exact List.mem_cons_self
      · exact List.mem_cons_of_mem _ (List.mem_map.2 ⟨x, hx, e⟩))
    simp at this
    have := hl.len
    omega
  · rcases hv v h with e | ⟨x, hx, e⟩
    · rw [e]; exact (hs.el i hi).2.2
    · have := ex_bags hl.ok x hx
      omega
theorem sure_l1 (l : List S52) (s : List S89) (x su : List Int) (i : Nat) (hi : i < s.length) (hs : s.length ≤ 6) (hx : x.length = s.length) (c : List Int) (hc : c.length ≤ 7) (ha : c.Pairwise (· < ·)) (hn : Ev (fun k => laws_FnSure.l0 k l s x su ((i + 1 : Nat) : Int)) true) :
    ∀ (d q : Nat), q + d = c.length → ∀ met : Bool, (met = true ∨ x.getD i 0 ∈ c.drop q) → Ev (fun k => laws_FnSure.l1 k l s x su (i : Int) c met (q : Int)) true := by
  have wi : wrap64 ((i : Int) + 1) = ((i + 1 : Nat) : Int) := by unfold wrap64; omega
  intro d
  induction d with
  | zero =>
    intro q hq met hm
    have hmet : met = true := by
      rcases hm with h | h
      · exact h
      · rw [List.drop_of_length_le (by omega)] at h
        cases h
    subst hmet
    refine Ev.round (Lt.of hn) fun k e => ?_
    simp only [laws_FnSure.l1, wi]
    rw [if_neg (by omega), if_pos trivial]
    exact e
  | succ d ih =>
    intro q hq met hm
    have hql : q < c.length := by omega
    have wq : wrap64 ((q : Int) + 1) = ((q + 1 : Nat) : Int) := by unfold wrap64; omega
    have ec : rd c (q : Int) = c[q] := by rw [rdI]; simp [hql]
    have hasc : (q : Int) > 0 → 0 ≤ wrap64 ((q : Int) - 1) ∧ wrap64 ((q : Int) - 1) < (c.length : Int) ∧ ¬ rd c (q : Int) ≤ rd c (wrap64 ((q : Int) - 1)) := fun h => by
      have e : wrap64 ((q : Int) - 1) = ((q - 1 : Nat) : Int) := by unfold wrap64; omega
      rw [e]
      refine ⟨by omega, by omega, ?_⟩
      have hq1 : q - 1 < c.length := by omega
      rw [rdI, rdI]
      have h1 : c.getD q 0 = c[q] := by simp [hql]
      have h2 : c.getD (q - 1) 0 = c[q - 1] := by simp [hq1]
      rw [h1, h2]
      have := List.pairwise_iff_getElem.1 ha (q - 1) q hq1 hql (by omega)
      omega
    cases met with
    | true =>
      refine Ev.round (Lt.of (ih (q + 1) (by omega) true (.inl rfl))) fun k e => ?_
      simp only [laws_FnSure.l1, wq]
      rw [if_pos (by omega), if_pos trivial]
      by_cases h0 : (q : Int) > 0
      · obtain ⟨a1, a2, a3⟩ := hasc h0
        rw [if_pos h0, if_pos (by omega), if_pos a1, if_pos a2, if_neg a3]
        exact e
      · rw [if_neg h0]
        exact e
    | false =>
      have hm' : x.getD i 0 ∈ c.drop q := hm.resolve_left (by simp)
      rw [List.drop_eq_getElem_cons hql, List.mem_cons] at hm'
      have hnext : (rd c (q : Int) == rd x (i : Int)) = true ∨ x.getD i 0 ∈ c.drop (q + 1) := by
        rcases hm' with h | h
        · exact .inl (by rw [ec, rdI, h]; simp)
        · exact .inr h
      refine Ev.round (Lt.of (ih (q + 1) (by omega) (rd c (q : Int) == rd x (i : Int)) hnext)) fun k e => ?_
      simp only [laws_FnSure.l1, wq]
      rw [if_pos (by omega), if_neg (by simp), if_pos (by omega), if_pos (by omega), if_pos (by omega)]
      by_cases h0 : (q : Int) > 0
      · obtain ⟨a1, a2, a3⟩ := hasc h0
        rw [if_pos h0, if_pos a1, if_pos a2, if_neg a3]
        exact e
      · rw [if_neg h0]
        exact e
theorem sure_at {l : List S52} {s : List S89} (hok : (exOk l && sgOk s) = true) (i : Nat) (hi : i < s.length) : rd (sure l s) (i : Int) = sureAt l s i := by
  unfold sure
  rw [if_pos hok, rdI]
  simp [hi]
theorem sure_l0 (l : List S52) (s : List S89) (hl : GoodE l) (hs : GoodS s) : ∀ (d i : Nat), i + d = s.length → Ev (fun k => laws_FnSure.l0 k l s (assign l s) (sure l s) (i : Int)) true := by
  have hok : (exOk l && sgOk s) = true := by rw [hl.ok, hs.ok]; rfl
  obtain ⟨gw, gc⟩ := greedy_max l s hl hs
  have hal : (assign l s).length = s.length := ((isW_iff l s _).1 gw).1
  have hsl := hs.len
  have hll := hl.len
  have hsul : (sure l s).length = s.length := by unfold sure; rw [if_pos hok]; simp
  intro d
  induction d with
  | zero =>
    intro i hi
    have c1 := impl_ch_ev l s (s.length : Int) (by omega) (by omega)
    rw [choices_no (fun h => by omega)] at c1
    have c2 := impl_ch_ev l s (-1) (by omega) (by omega)
    rw [choices_no (fun h => by omega)] at c2
    refine Ev.round ((Lt.of c1).and (Lt.of c2)) fun k ⟨e1, e2⟩ => ?_
    simp only [laws_FnSure.l0, e1, e2, Option.bind_some]
    rw [if_neg (by omega), if_pos (by simp)]
    simp
  | succ d ih =>
    intro i hi
    have hil : i < s.length := by omega
    obtain ⟨m1, m2⟩ := mem_choices hok hil
    obtain ⟨s1, s2⟩ := choices_small hl hs i hil
    have hx : (assign l s).getD i 0 ∈ choices l s (i : Int) := (m2 _).2 ⟨_, gw, gc, rfl⟩
    have hpos : 0 < (choices l s (i : Int)).length := List.length_pos_of_mem hx
    have hj : Ev (fun k => laws_FnSure.j2 k l s (assign l s) (sure l s) (i : Int) (choices l s (i : Int)) false) true := by
      refine Ev.round (Lt.of (sure_l1 l s (assign l s) (sure l s) i hil hsl hal _ s1 m1 (ih (i + 1) (by omega)) (choices l s (i : Int)).length 0 (by omega) false (.inr (by rw [List.drop_zero]; exact hx)))) fun k e => ?_
      simp only [laws_FnSure.j2]
      rw [if_neg (by simp)]
      exact e
    refine Ev.round ((Lt.of (impl_ch_ev l s (i : Int) (by omega) (by omega))).and ((Lt.of (spec_ch_ev l s (i : Int))).and ((Lt.of (sameI_ev (choices l s (i : Int)) (by omega))).and (Lt.of hj)))) fun k ⟨e1, e2, e3, e4⟩ => ?_
    simp only [laws_FnSure.l0, e1, e2, e3, Option.bind_some, sure_at hok i hil]
    rw [if_pos (by omega), if_pos trivial, if_neg (by omega), if_pos (by omega), if_pos (by omega)]
    by_cases h1 : (choices l s (i : Int)).length = 1
    · have hc : ∃ v, choices l s (i : Int) = [v] := List.length_eq_one_iff.1 h1
      obtain ⟨v, hv⟩ := hc
      have hv2 : (assign l s).getD i 0 = v := by rw [hv] at hx; exact List.mem_singleton.1 hx
      have hsv : sureAt l s i = v := by
        unfold sureAt
        rw [if_pos h1, hv]
        rfl
      have hv0 : 0 ≤ v := s2 v (by rw [hv]; exact List.mem_singleton.2 rfl)
      rw [hsv, if_pos hv0, if_pos (by omega), if_pos (by rw [rdI, hv2]), decide_eq_true (show v ≥ 0 from hv0), show (((choices l s (i : Int)).length : Int) == 1) = true by rw [h1]; rfl]
      exact e4
    · have hsv : sureAt l s i = -1 := if_neg h1
      rw [hsv, if_neg (by omega), show (((choices l s (i : Int)).length : Int) == 1) = false by simp; omega]
      exact e4
theorem sure_law (b : List Int) (hb : b.length ≤ 140737488351232) : Ev (fun k => laws_FnSure.f k b) true := by
  by_cases hbig : b.length ≤ 1048576
  · obtain ⟨l, s, e0, hl, hs⟩ := draw_expects_ev b hbig
    have hok : (exOk l && sgOk s) = true := by rw [hl.ok, hs.ok]; rfl
    obtain ⟨gw, gc⟩ := greedy_max l s hl hs
    have hal : (assign l s).length = s.length := ((isW_iff l s _).1 gw).1
    have hsl := hs.len
    have hll := hl.len
    have hsul : (sure l s).length = s.length := by unfold sure; rw [if_pos hok]; simp
    have hj : Ev (fun k => laws_FnSure.j0 k l s (assign l s) (sure l s) false) true := by
      refine Ev.round (Lt.of (sure_l0 l s hl hs s.length 0 (by omega))) fun k e => ?_
      simp only [laws_FnSure.j0]
      rw [if_neg (by simp)]
      exact e
    refine Lt.ev ((Lt.of e0).and ((Lt.of (impl_as_ev l s (by omega) (by omega))).and ((Lt.of (impl_su_ev l s (by omega) (by omega))).and ((Lt.of (spec_su_ev l s)).and ((Lt.of (sameI_ev (sure l s) (by omega))).and (Lt.of hj)))))) fun k ⟨a0, a1, a2, a3, a4, a5⟩ => ?_
    simp only [laws_FnSure.f, laws_big.f, Option.bind_some, a0, a1, a2, a3, a4]
    rw [if_neg (by simp; omega), if_pos (by omega)]
    exact a5
  · refine Lt.ev Lt.true fun k _ => ?_
    simp only [laws_FnSure.f, laws_big.f, Option.bind_some]
    rw [if_pos (by simp; omega)]
end Go.Proofs.Ytdmbfmfdijgdkaa.Pu
