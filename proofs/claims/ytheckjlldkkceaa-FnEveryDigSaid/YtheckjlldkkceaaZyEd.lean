import Derived.Test.YtheckjlldkkceaaZyLm
import Derived.Test.YtheckjlldkkceaaZyPx8
import Derived.Test.YtheckjlldkkceaaZyPx11
import Derived.Test.YtheckjlldkkceaaZyPx18
namespace Go.Proofs.Ytheckjlldkkceaa.Pu
open Go.RowKit Go.Proofs.Ytheckjlldkkceaa.Px Go.Proofs.YtheckjlldkkceaaW.PrintWords Go.Proofs.YtheckjlldkkceaaW.PrintLast Go.Proofs.YtheckjlldkkceaaW.PrintMore
set_option linter.unusedVariables false

theorem keptE_l (a : Int) (l : List (List S30)) (hl : l.length ≤ 1048576) (hf : l.flatten.length ≤ 1048576) : ∀ (d i : Nat), i + d = l.length → ∀ c : Int, 0 ≤ c → c + (l.drop i).flatten.length = l.flatten.length → Ev (fun k => laws_kept.l0 k c (i : Int) a l) (l.flatten.length : Int) := by
  intro d
  induction d with
  | zero =>
    intro i hi c h0 hc
    rw [List.drop_of_length_le (by omega)] at hc
    have ec : c = (l.flatten.length : Int) := by simpa using hc
    rw [ec]
    refine Ev.step (f := fun _ => some (l.flatten.length : Int)) (fun k => ?_) (Ev.now _)
    simp only [laws_kept.l0]
    rw [if_neg (by omega)]
  | succ d ih =>
    intro i hi c h0 hc
    have hlt : i < l.length := by omega
    rw [List.drop_eq_getElem_cons hlt, List.flatten_cons, List.length_append] at hc
    refine Ev.step (fun k => ?_) (ih (i + 1) (by omega) (c + (l[i].length : Int)) (by omega) (by omega))
    simp only [laws_kept.l0]
    rw [if_pos (by omega), if_pos (by omega), rdL2_nat l i hlt, wrap_in (x := c + (l[i].length : Int)) (by omega) (by omega), wrap_in (x := (i : Int) + 1) (by omega) (by omega)]
    rfl
theorem keptE_ev (a : Int) (l : List (List S30)) (hl : l.length ≤ 1048576) (hf : l.flatten.length ≤ 1048576) : Ev (fun k => laws_kept.f k a l) (l.flatten.length : Int) :=
  Ev.congr (fun k => by simp only [laws_kept.f]; rfl) (keptE_l a l hl hf l.length 0 (by omega) 0 (by omega) (by simp))
section
variable (way : List Int) (a : Int) (l m : List (List S30)) (h : Int)
/-- A lane without the bag is passed by. -/
theorem ed_l3_no (b c : Int) (j : Nat) (hj : j < m.length) (hm : m[j].length ≤ 1048576) (hmm : m.length ≤ 1048576) (hn : ∀ y ∈ m[j], y.f0 ≠ b) (nx : Ev (fun k => laws_FnEveryDig.l2 k way m h b c ((j + 1 : Nat) : Int) a l a) true) :
    ∀ (d p : Nat), p + d = m[j].length → Ev (fun k => laws_FnEveryDig.l3 k way m h b c (j : Int) (p : Int) a l a) true := by
  have ej : rd_L2 m (j : Int) = m[j] := rdL2_nat m j hj
  intro d
  induction d with
  | zero =>
    intro p hp
    refine Ev.step (fun k => ?_) nx
    simp only [laws_FnEveryDig.l3, ej]
    rw [if_pos (by omega), if_pos (by omega), if_neg (by omega), wrap_in (x := (j : Int) + 1) (by omega) (by omega)]
    rfl
  | succ d ih =>
    intro p hp
    have hpl : p < m[j].length := by omega
    have ep : rd_T30 m[j] (p : Int) = m[j][p] := rd30_nat m[j] p hpl
    refine Ev.step (fun k => ?_) (ih (p + 1) (by omega))
    simp only [laws_FnEveryDig.l3, ej, ep]
    rw [if_pos (by omega), if_pos (by omega), if_pos (by omega), if_pos (by omega), if_neg (hn _ (List.getElem_mem hpl)), wrap_in (x := (p : Int) + 1) (by omega) (by omega)]
    rfl
/-- The lane of the bag is told. -/
theorem ed_l3_yes (b : Int) (j : Nat) (hj : j < m.length) (hm : m[j].length ≤ 1048576) (hmm : m.length ≤ 1048576) (nx : Ev (fun k => laws_FnEveryDig.l2 k way m h b (j : Int) ((j + 1 : Nat) : Int) a l a) true) :
    ∀ (d p : Nat) (c : Int), p + d = m[j].length → (∃ y ∈ m[j].drop p, y.f0 = b) ∨ c = j → Ev (fun k => laws_FnEveryDig.l3 k way m h b c (j : Int) (p : Int) a l a) true := by
  have ej : rd_L2 m (j : Int) = m[j] := rdL2_nat m j hj
  intro d
  induction d with
  | zero =>
    intro p c hp hc
    rw [List.drop_of_length_le (by omega)] at hc
    have ec : c = j := by
      rcases hc with ⟨y, hy, _⟩ | hc
      · cases hy
      · exact hc
    subst ec
    refine Ev.step (fun k => ?_) nx
    simp only [laws_FnEveryDig.l3, ej]
    rw [if_pos (by omega), if_pos (by omega), if_neg (by omega), wrap_in (x := (j : Int) + 1) (by omega) (by omega)]
    rfl
  | succ d ih =>
    intro p c hp hc
    have hpl : p < m[j].length := by omega
    have ep : rd_T30 m[j] (p : Int) = m[j][p] := rd30_nat m[j] p hpl
    by_cases hb : m[j][p].f0 = b
    · refine Ev.step (fun k => ?_) (ih (p + 1) (j : Int) (by omega) (.inr rfl))
      simp only [laws_FnEveryDig.l3, ej, ep]
      rw [if_pos (by omega), if_pos (by omega), if_pos (by omega), if_pos (by omega), if_pos hb, wrap_in (x := (p : Int) + 1) (by omega) (by omega)]
      rfl
    · refine Ev.step (fun k => ?_) (ih (p + 1) c (by omega) ?_)
      · simp only [laws_FnEveryDig.l3, ej, ep]
        rw [if_pos (by omega), if_pos (by omega), if_pos (by omega), if_pos (by omega), if_neg hb, wrap_in (x := (p : Int) + 1) (by omega) (by omega)]
        rfl
      · rcases hc with ⟨y, hy, e⟩ | hc
        · rw [List.drop_eq_getElem_cons hpl] at hy
          rcases List.mem_cons.1 hy with hy | hy
          · exact absurd (by rw [← hy]; exact e) hb
          · exact .inl ⟨y, hy, e⟩
        · exact .inr hc
theorem ed_l2 (hs : stOk a m = true) {i : Nat} (hi : i < m.length) {x : S30} (hx : x ∈ m[i]) (nx : Ev (fun k => laws_FnEveryDig.l2 k way m h x.f0 (i : Int) (m.length : Int) a l a) true) :
    ∀ (d j : Nat), j + d = m.length → ∀ c : Int, (i < j → c = i) → Ev (fun k => laws_FnEveryDig.l2 k way m h x.f0 c (j : Int) a l a) true := by
  obtain ⟨hl, hml⟩ := st_small hs
  intro d
  induction d with
  | zero =>
    intro j hj c hc
    have ej : j = m.length := by omega
    subst ej
    rw [hc hi]
    exact nx
  | succ d ih =>
    intro j hj c hc
    have hlt : j < m.length := by omega
    have one : Ev (fun k => laws_FnEveryDig.l3 k way m h x.f0 c (j : Int) ((0 : Nat) : Int) a l a) true := by
      by_cases e : j = i
      · subst e
        exact ed_l3_yes way a l m h x.f0 j hlt (hml _ (List.getElem_mem hlt)) hl (ih (j + 1) (by omega) (j : Int) (fun _ => rfl)) m[j].length 0 c (by omega) (.inl ⟨x, by rw [List.drop_zero]; exact hx, rfl⟩)
      · refine ed_l3_no way a l m h x.f0 c j hlt (hml _ (List.getElem_mem hlt)) hl (fun y hy ey => e ?_) (ih (j + 1) (by omega) c (fun h => hc (by omega))) m[j].length 0 (by omega)
        have := bag_one hs (lane_flat hlt hy) (lane_flat hi hx) ey
        subst this
        exact lane_one hs hlt hi hy hx
    refine Ev.step (fun k => ?_) one
    simp only [laws_FnEveryDig.l2]
    rw [if_pos (by omega)]
    rfl
end
theorem ed_end (way : List Int) {a : Int} {l m : List (List S30)} (hs : stOk a l = true) (h5 : l.flatten.length ≤ 5) {h : Int} (h0 : 0 ≤ h) (hsm : stOk a m = true) (hn : m.flatten = []) (hd : ∀ n, Dig a m n → Dig a l (n + h.toNat)) : Ev (fun k => laws_FnEveryDig.l1 k way m h a l a) true := by
  obtain ⟨hl, hml⟩ := st_small hs
  have hdg := hd 0 (Dig.none hn)
  rw [Nat.zero_add] at hdg
  obtain ⟨r, ok, g1, _, g3⟩ := least_both a l hl (by omega)
  rcases g3 hs h5 with ⟨e, k0, k1, k2⟩ | ⟨_, k⟩
  · subst e
    have hle := k2 _ hdg
    have hb := dig_bus k1 (fun x hx => (okK_in ((st_in hs).2.2.2.2.2.1 x hx)).2.2)
    have hbu : buried a l ≤ r := by
      unfold buried
      rw [if_pos hs]
      omega
    refine Ev.round ((Lt.of (keptE_ev a m (st_small hsm).1 (by rw [hn]; simp))).and ((Lt.of g1).and (Lt.of (impl_bu_ev a l hl (by omega))))) fun k ⟨e1, e2, e3⟩ => ?_
    simp only [laws_FnEveryDig.l1, e1, Option.bind_some]
    rw [if_neg (by rw [hn]; simp), e2]
    simp only [Option.bind_some]
    rw [if_pos trivial, if_pos (by omega), e3]
    simp only [Option.bind_some]
    rw [decide_eq_true (by omega)]
  · exact absurd hdg (k _)
theorem ed_ev (way : List Int) (hw : way.length ≤ 20) {a : Int} {l : List (List S30)} (hs : stOk a l = true) (h5 : l.flatten.length ≤ 5) : ∀ (N : Nat), N ≤ 20 → ∀ (m : List (List S30)) (h : Int), 0 ≤ h → h ≤ 20 → stOk a m = true → m.flatten.length = N → (∀ n, Dig a m n → Dig a l (n + h.toNat)) →
    Ev (fun k => laws_FnEveryDig.l1 k way m h a l a) true
  | 0, _, m, h, h0, h20, hsm, hN, hd => ed_end way hs h5 h0 hsm (List.eq_nil_of_length_eq_zero hN) hd
  | N + 1, hNN, m, h, h0, h20, hsm, hN, hd => by
    have inner : ∀ (d : Nat), d ≤ 4 → ∀ (m : List (List S30)) (h : Int) (i : Nat) (p q : List S30) (x : S30), 0 ≤ h → h ≤ 20 → stOk a m = true → m.flatten.length = N + 1 → (∀ n, Dig a m n → Dig a l (n + h.toNat)) → isNext m x → nextOut a m = x.f0 → 1 ≤ x.f0 → ∀ (hi : i < m.length), m[i] = p ++ x :: q → q.length = d → Ev (fun k => laws_FnEveryDig.l1 k way m h a l a) true := by
      intro d
      induction d with
      | zero =>
        intro _ m h i p q x h0 h20 hsm hN hd hx ex hx1 hi e hq
        have hq0 : q = [] := List.eq_nil_of_length_eq_zero hq
        subst hq0
        have hp := (flat_off m i hi p x e).length_eq
        rw [hN, List.length_cons] at hp
        have rec_ := ed_ev way hw hs h5 N (by omega) (m.set i p) h h0 h20 (st_off hsm hi e) (by omega) (fun n hn => hd n (Dig.out hi hx e hn))
        have hml := (st_small hsm).2 _ (List.getElem_mem hi)
        rw [e, List.length_append] at hml
        obtain ⟨e1, e2, e3, e4⟩ := lane_rd hi e (by omega)
        have fin : Ev (fun k => laws_FnEveryDig.l2 k way m h x.f0 (i : Int) (m.length : Int) a l a) true := by
          refine Ev.step (fun k => ?_) rec_
          simp only [laws_FnEveryDig.l2]
          rw [if_neg (by omega), e2, e3, if_pos (by omega), if_pos (by omega), if_pos (by omega), if_pos (by rw [e1]; simp; omega), if_pos rfl, if_pos (by rw [e1]; simp; omega)]
          simp only [Int.toNat_natCast, e4]
        have scan := ed_l2 way a l m h hsm hi (x := x) (by rw [e]; simp) fin m.length 0 (by omega) 0 (fun h => absurd h (by omega))
        refine Ev.round ((Lt.of (keptE_ev a m (st_small hsm).1 (by omega))).and ((Lt.of (spec_nx_ev a m)).and (Lt.of scan))) fun k ⟨f1, f2, f3⟩ => ?_
        simp only [laws_FnEveryDig.l1, f1, Option.bind_some]
        rw [if_pos (by omega), f2]
        simp only [Option.bind_some, ex]
        exact f3
      | succ d ih =>
        intro h4 m h i p q x h0 h20 hsm hN hd hx ex hx1 hi e hq
        obtain ⟨q', k, rfl⟩ : ∃ q' k, q = q' ++ [k] := ⟨q.dropLast, q.getLast (by intro h; rw [h] at hq; cases hq), (List.dropLast_concat_getLast _).symm⟩
        have e' : m[i] = (p ++ x :: q') ++ [k] := by rw [e]; simp
        have hml := (st_small hsm).2 _ (List.getElem_mem hi)
        rw [e', List.length_append] at hml
        obtain ⟨e1, e2, e3, e4⟩ := lane_rd hi e' (by omega)
        have hne := last_ne hsm hi e'
        have hmm := (st_small hsm).1
        -- the ways that end at once
        have stop : ∀ (y f0 f1 : Int) , Ev (fun n => laws_FnEveryDig.j5 n way m h (i : Int) ((p ++ x :: q').length : Int) y true a l a f0 f1) true := fun y f0 f1 => Ev.step (f := fun _ => some true) (fun n => by
          simp only [laws_FnEveryDig.j5]
          rw [if_pos trivial]) (Ev.now _)
        have fin : Ev (fun n => laws_FnEveryDig.l2 n way m h x.f0 (i : Int) (m.length : Int) a l a) true := by
          by_cases hh : h ≥ (way.length : Int)
          · refine Ev.step (f := fun _ => some true) (fun n => ?_) (Ev.now _)
            simp only [laws_FnEveryDig.l2]
            rw [if_neg (by omega), e2, e3, if_pos (by omega), if_pos (by omega), if_pos (by omega), if_pos (by rw [e1]; simp; omega), if_neg hne, if_pos hh]
          · have go : ∀ c : Bool, Ev (fun n => laws_FnEveryDig.j5 n way m h (i : Int) ((p ++ x :: q').length : Int) (rd way h) c a l a k.f0 k.f1) true → (rd way h < 0 → c = true) → (rd way h ≥ (m.length : Int) → c = true) → (rd way h = i → c = true) → (0 ≤ rd way h → rd way h < (m.length : Int) → rd way h ≠ i → c = decide (((rd_L2 m (rd way h)).length : Int) ≥ a)) →
                Ev (fun n => laws_FnEveryDig.l2 n way m h x.f0 (i : Int) (m.length : Int) a l a) true := by
              intro c hc c1 c2 c3 c4
              refine Ev.step (fun n => ?_) hc
              simp only [laws_FnEveryDig.l2]
              rw [if_neg (by omega), e2, e3, if_pos (by omega), if_pos (by omega), if_pos (by omega), if_pos (by rw [e1]; simp; omega), if_neg hne, if_neg hh, if_pos h0, if_pos (by omega)]
              by_cases z1 : rd way h < 0
              · rw [if_pos z1, c1 z1]
              · rw [if_neg z1]
                by_cases z2 : rd way h ≥ (m.length : Int)
                · rw [if_pos z2, c2 z2]
                · rw [if_neg z2]
                  by_cases z3 : rd way h = i
                  · rw [if_pos z3, c3 z3]
                  · rw [if_neg z3, if_pos (by omega), if_pos (by omega), c4 (by omega) (by omega) z3]
            by_cases z : 0 ≤ rd way h ∧ rd way h < (m.length : Int) ∧ rd way h ≠ i ∧ ((rd_L2 m (rd way h)).length : Int) < a
            · obtain ⟨z1, z2, z3, z4⟩ := z
              obtain ⟨t, et⟩ : ∃ t : Nat, rd way h = (t : Int) := ⟨(rd way h).toNat, by omega⟩
              rw [et] at go z1 z2 z3 z4
              have ht : t < m.length := by omega
              have hti : t ≠ i := by omega
              rw [rdL2_nat m t ht] at z4 go
              have htb := (st_small hsm).2 _ (List.getElem_mem ht)
              have hpm := hopd_perm hi ht hti e'
              have hs' := st_hop hsm hi ht hti z4 e'
              have hx' := next_perm hpm hx
              obtain ⟨y, hy, ey, hy1⟩ := next_is hs' (fun h0 => by have h1 := hx'.1; rw [h0] at h1; cases h1)
              have eyx := isNext_one hy hx'
              subst eyx
              have rec_ := ih (by omega) (hopd m i t (p ++ y :: q') k) (h + 1) i p q' y (by omega) (by omega) hs' (by rw [hpm.length_eq]; exact hN) (fun n hn => by
                have := hd (n + 1) (Dig.hop hi ht hx (by simp) e' hti z4 hn)
                rwa [show n + 1 + h.toNat = n + (h + 1).toNat by omega] at this) hx' ey hx1 (by rw [hopd_len]; exact hi) (hopd_at hi hti) (by simpa using hq)
              refine go false ?_ (fun h => absurd h (by omega)) (fun h => absurd h (by omega)) (fun h => absurd h z3) (fun _ _ _ => (decide_eq_false (by omega)).symm)
              have e5 : rd_L2 (m.set t (m[t] ++ [⟨k.f0, k.f1⟩])) (i : Int) = (p ++ y :: q') ++ [k] := by
                rw [rdL2_nat _ i (by simpa using hi), List.getElem_set_ne hti, e']
              have eh : (m.set t (m[t] ++ [⟨k.f0, k.f1⟩])).set i (p ++ y :: q') = hopd m i t (p ++ y :: q') k := by
                rw [hopd, List.set_comm _ _ hti, getD_at m t [] ht]
              refine Ev.step (fun n => ?_) rec_
              simp only [laws_FnEveryDig.j5]
              rw [if_neg (by simp), if_pos (by omega), if_pos (by omega), rdL2_nat m t ht, if_pos (by omega)]
              simp only [Option.bind_some, Int.toNat_natCast, e5]
              rw [if_pos (by omega), if_pos (by omega), if_pos (by omega), if_pos (by simp; omega), List.take_left, eh, wrap_in (x := h + 1) (by omega) (by omega)]
            · refine go true (stop _ _ _) (fun _ => rfl) (fun _ => rfl) (fun _ => rfl) (fun z1 z2 z3 => (decide_eq_true ?_).symm)
              by_cases z4 : ((rd_L2 m (rd way h)).length : Int) < a
              · exact absurd ⟨z1, z2, z3, z4⟩ z
              · omega
        have scan := ed_l2 way a l m h hsm hi (x := x) (by rw [e]; simp) fin m.length 0 (by omega) 0 (fun h => absurd h (by omega))
        refine Ev.round ((Lt.of (keptE_ev a m (st_small hsm).1 (by omega))).and ((Lt.of (spec_nx_ev a m)).and (Lt.of scan))) fun k ⟨f1, f2, f3⟩ => ?_
        simp only [laws_FnEveryDig.l1, f1, Option.bind_some]
        rw [if_pos (by omega), f2]
        simp only [Option.bind_some, ex]
        exact f3
    obtain ⟨x, hx, ex, hx1⟩ := next_is hsm (fun e => by rw [e] at hN; cases hN)
    obtain ⟨i, hi, hxi⟩ := mem_lane hx.1
    obtain ⟨p, q, e⟩ := lane_split hxi
    exact inner q.length (lane_short hsm hi e) m h i p q x h0 h20 hsm hN hd hx ex hx1 hi e rfl
theorem ed_copy (way : List Int) {a : Int} {l : List (List S30)} (hl : l.length ≤ 1048576) (hm : ∀ x ∈ l, x.length ≤ 1048576) (nx : Ev (fun k => laws_FnEveryDig.l1 k way l 0 a l a) true) : ∀ (d i : Nat), i + d = l.length → ∀ acc, acc = l.take i → Ev (fun k => laws_FnEveryDig.l0 k way acc (i : Int) a l) true := by
  intro d
  induction d with
  | zero =>
    intro i hi acc ha
    rw [List.take_of_length_le (by omega)] at ha
    subst ha
    refine Ev.step (fun k => ?_) nx
    simp only [laws_FnEveryDig.l0]
    rw [if_neg (by omega)]
  | succ d ih =>
    intro i hi acc ha
    have hlt : i < l.length := by omega
    have hml := hm _ (List.getElem_mem hlt)
    refine Ev.step (fun k => ?_) (ih (i + 1) (by omega) (acc ++ [l[i]]) (by rw [ha, List.take_succ_eq_append_getElem hlt]))
    simp only [laws_FnEveryDig.l0]
    rw [if_pos (by omega)]
    simp only [Option.bind_some]
    rw [if_pos (by omega), rdL2_nat l i hlt, if_pos (by simp; omega), if_pos (by rw [ha, List.length_take]; omega), wrap_in (x := (i : Int) + 1) (by omega) (by omega), List.nil_append]
    rfl
theorem every_ev (a : Int) (l : List (List S30)) (way : List Int) : Ev (fun k => laws_FnEveryDig.f k a l way) true := by
  have stop : Ev (fun k => laws_FnEveryDig.j0 k way true a l) true := Ev.step (f := fun _ => some true) (fun n => by
    simp only [laws_FnEveryDig.j0]
    rw [if_pos trivial]) (Ev.now _)
  by_cases hs : stOk a l = true
  · obtain ⟨hl, hml⟩ := st_small hs
    have hf := flat_small hs
    have hk := keptE_ev a l hl (by omega)
    by_cases h5 : l.flatten.length ≤ 5
    · by_cases hw : way.length ≤ 20
      · have main := ed_ev way hw hs h5 l.flatten.length hf l 0 (by omega) (by omega) hs rfl (fun n hn => by simpa using hn)
        have cp := ed_copy way hl hml main l.length 0 (by omega) [] (by simp)
        have hj : Ev (fun k => laws_FnEveryDig.j0 k way false a l) true := Ev.step (fun k => by
          simp only [laws_FnEveryDig.j0]
          rw [if_neg (by simp)]
          rfl) cp
        refine Lt.ev ((Lt.of (spec_st_ev a l)).and ((Lt.of hk).and (Lt.of hj))) fun k ⟨e1, e2, e3⟩ => ?_
        simp only [laws_FnEveryDig.f, e1, Option.bind_some]
        rw [if_pos hs, e2]
        simp only [Option.bind_some]
        rw [if_neg (by omega), decide_eq_false (by omega)]
        exact e3
      · refine Lt.ev ((Lt.of (spec_st_ev a l)).and ((Lt.of hk).and (Lt.of stop))) fun k ⟨e1, e2, e3⟩ => ?_
        simp only [laws_FnEveryDig.f, e1, Option.bind_some]
        rw [if_pos hs, e2]
        simp only [Option.bind_some]
        rw [if_neg (by omega), decide_eq_true (by omega)]
        exact e3
    · refine Lt.ev ((Lt.of (spec_st_ev a l)).and ((Lt.of hk).and (Lt.of stop))) fun k ⟨e1, e2, e3⟩ => ?_
      simp only [laws_FnEveryDig.f, e1, Option.bind_some]
      rw [if_pos hs, e2]
      simp only [Option.bind_some]
      rw [if_pos (by omega)]
      exact e3
  · refine Lt.ev ((Lt.of (spec_st_ev a l)).and (Lt.of stop)) fun k ⟨e1, e3⟩ => ?_
    simp only [laws_FnEveryDig.f, e1, Option.bind_some]
    rw [if_neg hs]
    exact e3
end Go.Proofs.Ytheckjlldkkceaa.Pu
