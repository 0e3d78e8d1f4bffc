import Derived.Test.YtmjhbdmicejppaaZsDl
import Derived.Test.YtmjhbdmicejppaaZsAb
import Derived.Test.YtmjhbdmicejppaaZsIn
import Derived.Test.YtmjhbdmicejppaaZsSw
import Derived.Test.YtmjhbdmicejppaaZsPx8
import Derived.Test.YtmjhbdmicejppaaZsPx9
namespace Go.Proofs.Ytmjhbdmicejppaa.Pu
open Go.RowKit Go.Proofs.Ytmjhbdmicejppaa.Px Go.Proofs.YtmjhbdmicejppaaW.PrintWords Go.Proofs.YtmjhbdmicejppaaW.PrintLast Go.Proofs.YtmjhbdmicejppaaW.PrintMore
set_option linter.unusedVariables false
set_option linter.unusedSectionVars false
def SmA (b : List Int) (r : List Int × Int × List S69 × List S74 × Int × Int) : Prop :=
  r.1.length ≤ 100 ∧ r.2.2.1.length ≤ 4 ∧ SmC r.2.2.1 ∧ r.2.2.2.1.length ≤ 7 ∧ SmW r.2.2.2.1 ∧ Cur b r.2.2.2.2.1
theorem SmC.put {c : List S69} (h : SmC c) (i : Nat) {x : S69} (hx : x.f2.length ≤ 1) : SmC (c.set i x) := fun y hy => by
  rcases List.mem_or_eq_of_mem_set hy with q | q
  · exact h y q
  · rw [q]; exact hx
theorem SmW.put {c : List S74} (h : SmW c) (i : Nat) {x : S74} (hx : x.f1.length ≤ 4) : SmW (c.set i x) := fun y hy => by
  rcases List.mem_or_eq_of_mem_set hy with q | q
  · exact h y q
  · rw [q]; exact hx
theorem any_ev (b : List Int) (i h : Int) (hi : Cur b i) : ∃ r, Ev (fun k => spec_l05Any.f k b i h) r ∧ SmA b r := by
  obtain ⟨⟨t, a, c, w, i1, h1⟩, hr, s1, s2, s3, s4, s5, s6, s7⟩ := dl_ev b i h hi
  obtain ⟨z, i2, h2, e2, _, _, _, hi2⟩ := below_ok b i1 h1 s7 20
  have fin : ∀ r, SmA b r → (∀ k, spec_l05Loop.f k b i h = some (t, a, c, w, i1, h1) → spec_l05Any.f k b i h = some r) → ∃ r, Ev (fun k => spec_l05Any.f k b i h) r ∧ SmA b r := fun r hs hk => ⟨r, Lt.ev (Lt.of hr) fun k e => hk k e, hs⟩
  have s2' : t.length ≤ 100 := s2
  have s1' : 2 ≤ t.length := s1
  by_cases c0 : z = 0
  · obtain ⟨x, i3, h3, e3, _, hi3⟩ := pick_ok b i2 h2 hi2 [(-1), (t.length : Int), 0] (by simp) (by simp)
    refine fin (t, x, c, w, i3, h3) ⟨s2, s3, s4, s5, s6, hi3⟩ fun k e => ?_
    simp only [spec_l05Any.f, e, Option.bind_some, e2]
    rw [if_pos c0, e3]
    rfl
  by_cases c1 : z = 1
  · obtain ⟨x, i3, h3, e3, _, hi3⟩ := pick_ok b i2 h2 hi2 [(-1), 101, 3] (by simp) (by simp)
    refine fin (t.set (0 : Int).toNat x, a, c, w, i3, h3) ⟨by show (t.set _ x).length ≤ 100; rw [List.length_set]; exact s2, s3, s4, s5, s6, hi3⟩ fun k e => ?_
    simp only [spec_l05Any.f, e, Option.bind_some, e2]
    rw [if_neg c0, if_pos c1, e3]
    simp only [Option.bind_some]
    rw [if_pos (by omega)]
  by_cases c2 : z = 2
  · by_cases d : (c.length : Int) > 0
    · obtain ⟨x, i3, h3, e3, _, hi3⟩ := pick_ok b i2 h2 hi2 [0, 40, 41] (by simp) (by simp)
      refine fin (t, a, c.set (0 : Int).toNat ⟨(rd_T69 c 0).f0, x, (rd_T69 c 0).f2⟩, w, i3, h3) ⟨s2, by show (c.set _ _).length ≤ 4; rw [List.length_set]; exact s3, s4.put _ (by
        have hc : 0 < c.length := by omega
        have := s4 _ (List.getElem_mem hc)
        show (rd_T69 c ((0 : Nat) : Int)).f2.length ≤ 1
        rw [rd69_nat c 0 hc]
        exact this), s5, s6, hi3⟩ fun k e => ?_
      simp only [spec_l05Any.f, e, Option.bind_some, e2]
      rw [if_neg c0, if_neg c1, if_pos c2, if_pos d, e3]
      simp only [Option.bind_some]
      rw [if_pos (by omega)]
    · refine fin (t, a, c, w, i2, h2) ⟨s2, s3, s4, s5, s6, hi2⟩ fun k e => ?_
      simp only [spec_l05Any.f, e, Option.bind_some, e2]
      rw [if_neg c0, if_neg c1, if_pos c2, if_neg d]
  by_cases c3 : z = 3
  · by_cases d : (c.length : Int) > 1
    · refine fin (t, a, c.set (1 : Int).toNat ⟨(rd_T69 c 0).f0, (rd_T69 c 1).f1, (rd_T69 c 1).f2⟩, w, i2, h2) ⟨s2, by show (c.set _ _).length ≤ 4; rw [List.length_set]; exact s3, s4.put _ (by
        have hc : 1 < c.length := by omega
        have := s4 _ (List.getElem_mem hc)
        show (rd_T69 c ((1 : Nat) : Int)).f2.length ≤ 1
        rw [rd69_nat c 1 hc]
        exact this), s5, s6, hi2⟩ fun k e => ?_
      simp only [spec_l05Any.f, e, Option.bind_some, e2]
      rw [if_neg c0, if_neg c1, if_neg c2, if_pos c3, if_pos d, if_pos (by omega), if_pos (by omega)]
    · refine fin (t, a, c, w, i2, h2) ⟨s2, s3, s4, s5, s6, hi2⟩ fun k e => ?_
      simp only [spec_l05Any.f, e, Option.bind_some, e2]
      rw [if_neg c0, if_neg c1, if_neg c2, if_pos c3, if_neg d]
  by_cases c4 : z = 4
  · by_cases d : (w.length : Int) > 1
    · refine fin (t, a, c, w.set (1 : Int).toNat ⟨(rd_T74 w 0).f0, (rd_T74 w 1).f1⟩, i2, h2) ⟨s2, s3, s4, by show (w.set _ _).length ≤ 7; rw [List.length_set]; exact s5, s6.put _ (by
        have hw : 1 < w.length := by omega
        have := s6 _ (List.getElem_mem hw)
        show (rd_T74 w ((1 : Nat) : Int)).f1.length ≤ 4
        rw [rd74_nat w 1 hw]
        exact this), hi2⟩ fun k e => ?_
      simp only [spec_l05Any.f, e, Option.bind_some, e2]
      rw [if_neg c0, if_neg c1, if_neg c2, if_neg c3, if_pos c4, if_pos d, if_pos (by omega), if_pos (by omega)]
    · refine fin (t, a, c, w, i2, h2) ⟨s2, s3, s4, s5, s6, hi2⟩ fun k e => ?_
      simp only [spec_l05Any.f, e, Option.bind_some, e2]
      rw [if_neg c0, if_neg c1, if_neg c2, if_neg c3, if_pos c4, if_neg d]
  by_cases c5 : z = 5
  · by_cases d : (w.length : Int) > 0
    · obtain ⟨y, i3, h3, e3, _, _, _, hi3⟩ := below_ok b i2 h2 hi2 4
      refine fin (t, a, c, w.set (0 : Int).toNat ⟨(rd_T74 w 0).f0, [y]⟩, i3, h3) ⟨s2, s3, s4, by show (w.set _ _).length ≤ 7; rw [List.length_set]; exact s5, s6.put _ (by simp), hi3⟩ fun k e => ?_
      simp only [spec_l05Any.f, e, Option.bind_some, e2]
      rw [if_neg c0, if_neg c1, if_neg c2, if_neg c3, if_neg c4, if_pos c5, if_pos d, e3]
      simp only [Option.bind_some]
      rw [if_pos (by omega)]
    · refine fin (t, a, c, w, i2, h2) ⟨s2, s3, s4, s5, s6, hi2⟩ fun k e => ?_
      simp only [spec_l05Any.f, e, Option.bind_some, e2]
      rw [if_neg c0, if_neg c1, if_neg c2, if_neg c3, if_neg c4, if_pos c5, if_neg d]
  by_cases c6 : z = 6
  · obtain ⟨x, i3, h3, e3, hx, hi3⟩ := pick_ok b i2 h2 hi2 [0, 1, 60, 61] (by simp) (by simp)
    have hx2 : 0 ≤ x ∧ x ≤ 61 := by
      simp only [List.mem_cons, List.not_mem_nil, or_false] at hx
      omega
    refine fin (List.replicate x.toNat 0, 0, [], [], i3, h3) ⟨by show (List.replicate x.toNat (0 : Int)).length ≤ 100; rw [List.length_replicate]; omega, by simp, (fun y hy => by cases hy), by simp, (fun y hy => by cases hy), hi3⟩ fun k e => ?_
    simp only [spec_l05Any.f, e, Option.bind_some, e2]
    rw [if_neg c0, if_neg c1, if_neg c2, if_neg c3, if_neg c4, if_neg c5, if_pos c6, e3]
    simp only [Option.bind_some]
    rw [if_pos hx2.1, if_pos (by omega)]
  · refine fin (t, a, c, w, i2, h2) ⟨s2, s3, s4, s5, s6, hi2⟩ fun k e => ?_
    simp only [spec_l05Any.f, e, Option.bind_some, e2]
    rw [if_neg c0, if_neg c1, if_neg c2, if_neg c3, if_neg c4, if_neg c5, if_neg c6]
theorem place_ok (b : List Int) (i h : Int) (c : Cur b i) (n : Int) : ∃ x i' h', spec_l01Place.f b i h n = some (x, i', h') ∧ Cur b i' := by
  obtain ⟨o, i1, h1, e1, c1⟩ := once_ok b i h c 15
  cases o with
  | true =>
    obtain ⟨x, i2, h2, e2, _, c2⟩ := pick_ok b i1 h1 c1 [(-1), n, wrap64 (n + 1), 9223372036854775807, (-9223372036854775808)] (by simp) (by simp)
    refine ⟨x, i2, h2, ?_, c2⟩
    simp only [spec_l01Place.f, e1, Option.bind_some]
    rw [if_pos trivial, e2]
    rfl
  | false =>
    obtain ⟨x, i2, h2, e2, _, _, _, c2⟩ := below_ok b i1 h1 c1 n
    refine ⟨x, i2, h2, ?_, c2⟩
    simp only [spec_l01Place.f, e1, Option.bind_some]
    rw [if_neg (by simp), e2]
    rfl
theorem drawIn_ev (b : List Int) (hb : b.length ≤ 1048576) : ∃ t a c w p g, Ev (fun k => spec_DrawInduct.f k b) (t, a, c, w, p, g) ∧ t.length ≤ 100 ∧ c.length ≤ 4 ∧ SmC c ∧ w.length ≤ 7 ∧ SmW w := by
  obtain ⟨h', hn⟩ := new_len b hb
  obtain ⟨⟨t, a, c, w, i1, h1⟩, hr, s1, s2, s3, s4, s5, s6⟩ := any_ev b 0 h' ⟨by omega, by omega, hb⟩
  obtain ⟨p, i2, h2, e2, c2⟩ := place_ok b i1 h1 s6 (t.length : Int)
  obtain ⟨g, i3, h3, e3, _, c3⟩ := pick_ok b i2 h2 c2 [50, 50, 50, 1, 2, 101, 0, (-1)] (by simp) (by simp)
  refine ⟨t, a, c, w, p, g, Lt.ev ((Lt.of hn).and (Lt.of hr)) fun k ⟨q1, q2⟩ => ?_, s1, s2, s3, s4, s5⟩
  simp only [spec_DrawInduct.f, q1, q2, Option.bind_some, e2, e3]
theorem drawSw_l (b : List Int) (x : Int) (t : List Int) (a : Int) (c : List S69) (w : List S74) : ∀ (d j : Nat), j + d = 4 → ∀ (i h : Int), Cur b i → ∀ ac : List Int, ac.length ≤ j → ∃ o, Ev (fun k => spec_DrawSetWant.l0 k x ac (j : Int) b i h t a c w) (t, a, c, w, x, o) ∧ o.length ≤ 4 := by
  intro d
  induction d with
  | zero =>
    intro j hj i h hi ac ha
    refine ⟨ac, Ev.step (f := fun _ => some (t, a, c, w, x, ac)) (fun k => ?_) (Ev.now _), by omega⟩
    simp only [spec_DrawSetWant.l0]
    rw [if_neg (by omega)]
  | succ d ih =>
    intro j hj i h hi ac ha
    obtain ⟨o, i1, h1, e1, c1⟩ := once_ok b i h hi 3
    have wr : wrap64 ((j : Int) + 1) = ((j + 1 : Nat) : Int) := by rw [wrap_in (by omega) (by omega)]; rfl
    cases o with
    | true =>
      obtain ⟨o, ho, hl⟩ := ih (j + 1) (by omega) i1 h1 c1 (ac ++ [(j : Int)]) (by rw [List.length_append]; simp; omega)
      refine ⟨o, Ev.step (fun k => ?_) ho, hl⟩
      simp only [spec_DrawSetWant.l0, e1, Option.bind_some, wr]
      rw [if_pos (by omega), if_pos trivial, if_pos (by omega)]
    | false =>
      obtain ⟨o, ho, hl⟩ := ih (j + 1) (by omega) i1 h1 c1 ac (by omega)
      refine ⟨o, Ev.step (fun k => ?_) ho, hl⟩
      simp only [spec_DrawSetWant.l0, e1, Option.bind_some, wr]
      rw [if_pos (by omega), if_neg (by simp)]
theorem drawSw_ev (b : List Int) (hb : b.length ≤ 1048576) : ∃ t a c w g o, Ev (fun k => spec_DrawSetWant.f k b) (t, a, c, w, g, o) ∧ t.length ≤ 100 ∧ c.length ≤ 4 ∧ SmC c ∧ w.length ≤ 7 ∧ SmW w ∧ o.length ≤ 4 := by
  obtain ⟨h', hn⟩ := new_len b hb
  obtain ⟨⟨t, a, c, w, i1, h1⟩, hr, s1, s2, s3, s4, s5, s6⟩ := any_ev b 0 h' ⟨by omega, by omega, hb⟩
  obtain ⟨g, i2, h2, e2, _, c2⟩ := pick_ok b i1 h1 s6 [1, 2, 3, 50, 0, 101] (by simp) (by simp)
  obtain ⟨o, ho, hl⟩ := drawSw_l b g t a c w 4 0 (by omega) i2 h2 c2 [] (by simp)
  refine ⟨t, a, c, w, g, o, Lt.ev ((Lt.of hn).and ((Lt.of hr).and (Lt.of ho))) fun k ⟨q1, q2, q3⟩ => ?_, s1, s2, s3, s4, s5, hl⟩
  simp only [spec_DrawSetWant.f, q1, q2, Option.bind_some, e2]
  exact q3
theorem flat_small (c : List S69) (h : SmC c) : (c.flatMap (fun x => x.f2)).length ≤ c.length := by
  induction c with
  | nil => simp
  | cons x c ih =>
    have h1 := ih (fun y hy => h y (List.mem_cons_of_mem _ hy))
    have h2 := h x List.mem_cons_self
    rw [List.flatMap_cons, List.length_append, List.length_cons]
    omega
theorem put_perm (p : Int → Bool) (b : Int) (hb : p b = true) : ∀ (t : List Int) (i : Nat) (hi : i < t.length), p t[i] = false → ((t.set i b).filter p).Perm (b :: t.filter p)
  | [], _, hi, _ => absurd hi (Nat.not_lt_zero _)
  | x :: t, 0, hi, hx => by
    have hx' : p x = false := hx
    rw [List.set_cons_zero, List.filter_cons_of_pos hb, List.filter_cons_of_neg (by rw [hx']; simp)]
  | x :: t, i + 1, hi, hx => by
    have ih := put_perm p b hb t i (by simpa using hi) hx
    rw [List.set_cons_succ]
    cases hp : p x with
    | true =>
      rw [List.filter_cons_of_pos hp, List.filter_cons_of_pos hp]
      exact (ih.cons x).trans (List.Perm.swap b x _)
    | false =>
      rw [List.filter_cons_of_neg (by rw [hp]; simp), List.filter_cons_of_neg (by rw [hp]; simp)]
      exact ih
section
variable {t : List Int} {a : Int} {c : List S69} {w : List S74} {b : Int} {i : Nat} (hi : i < t.length) (h0 : t[i] = 0) (hb : 1 ≤ b)
include hi h0 hb
theorem put_bags : (bagsL (t.set i b) c).Perm (b :: bagsL t c) := by
  unfold bagsL
  exact (put_perm _ b (by simp; omega) t i hi (by simp [h0])).append_right _
theorem put_ok (h : lpOk t a c w = true) (hn : ¬ (b ∈ t ∨ b ∈ c.flatMap (fun x => x.f2))) : lpOk (t.set i b) a c w = true := by
  have hp := put_bags (c := c) hi h0 hb
  have hg := lp_bags h
  simp only [lpOk, szOk, Bool.and_eq_true, decide_eq_true_eq] at h ⊢
  rw [List.length_set]
  refine ⟨h.1, h.2.1, ?_, h.2.2.2⟩
  rw [bg_eq, Bool.and_eq_true, List.all_eq_true, decide_eq_true_eq]
  refine ⟨fun x hx => ?_, hp.nodup_iff.2 (List.nodup_cons.2 ⟨fun hm => ?_, hg.2⟩)⟩
  · rcases List.mem_cons.1 (hp.mem_iff.1 hx) with q | q
    · rw [q]; exact decide_eq_true hb
    · exact decide_eq_true (hg.1 x q)
  · unfold bagsL at hm
    rcases List.mem_append.1 hm with q | q
    · exact hn (.inl (List.mem_filter.1 q).1)
    · exact hn (.inr q)
end
theorem takes (l : List Int) : ∃ k, laws_FnLoopTakes.P k l := by
  by_cases hb : (l.length : Int) > 1048576
  · exact ⟨0, .inl (by simp only [laws_big.f]; rw [decide_eq_true hb])⟩
  obtain ⟨t, a, c, w, at_, g, hd, ht, hc, hcs, hw, hws⟩ := drawIn_ev l (by omega)
  obtain ⟨m0, mT, m2, m3, mb, mo, he, hmt, hmc, hmcs, hmw, hmws, hmo⟩ := drawSw_ev l (by omega)
  have f1 := flat_small c hcs
  have f2 := flat_small m2 hmcs
  have cb : ∀ x ∈ c, x.f2.length ≤ 1048576 := fun x hx => Nat.le_trans (hcs x hx) (by omega)
  have wb : ∀ x ∈ w, x.f1.length ≤ 1048576 := fun x hx => Nat.le_trans (hws x hx) (by omega)
  have mcb : ∀ x ∈ m2, x.f2.length ≤ 1048576 := fun x hx => Nat.le_trans (hmcs x hx) (by omega)
  have mwb : ∀ x ∈ m3, x.f1.length ≤ 1048576 := fun x hx => Nat.le_trans (hmws x hx) (by omega)
  have i1 := impl_in_ev t a c w at_ g (by omega) (by omega) (by omega) cb (by omega) wb
  have i2 := spec_in_ev t a c w at_ g (by omega) (by omega) (by omega) cb (by omega) wb
  have t1 := impl_ta_ev t a c w at_ (by omega) (by omega) wb
  have t2 := spec_ta_ev t a c w at_ (by omega) (by omega) wb
  have e1 := impl_em_ev t a c w at_ (by omega) (by omega) wb
  have e2 := spec_em_ev t a c w at_ (by omega) (by omega) wb
  have s1 := impl_sw_ev m0 mT m2 m3 mb mo (by omega) (by omega) (by omega) mcb (by omega) mwb (by omega)
  have s2 := spec_sw_ev m0 mT m2 m3 mb mo (by omega) (by omega) (by omega) mcb (by omega) mwb (by omega)
  have b1 := aboard_ev t a c w (by omega) (by omega) (by omega)
  have A : Lt (fun k => ((inV t a c w at_ g).2.2.2.2 = false → (inV t a c w at_ g).1 = t ∧ (inV t a c w at_ g).2.1 = a ∧ (inV t a c w at_ g).2.2.1 = c ∧ (inV t a c w at_ g).2.2.2.1 = w) ∧
    ((inV t a c w at_ g).2.2.2.2 = true → impl_LoopOk.f k (inV t a c w at_ g).1 (inV t a c w at_ g).2.1 (inV t a c w at_ g).2.2.1 (inV t a c w at_ g).2.2.2.1 = some true ∧ (emV t a c w at_).1 = 0 ∧ (emV t a c w at_).2 = true ∧ ∃ q n : Int, impl_TrayAt.f k (inV t a c w at_ g).1 (inV t a c w at_ g).2.1 (inV t a c w at_ g).2.2.1 (inV t a c w at_ g).2.2.2.1 at_ = some q ∧ 0 ≤ q ∧ q < ((inV t a c w at_ g).1.length : Int) ∧ rd (inV t a c w at_ g).1 q = g ∧ laws_aboard.f k (inV t a c w at_ g).1 (inV t a c w at_ g).2.1 (inV t a c w at_ g).2.2.1 (inV t a c w at_ g).2.2.2.1 = some (wrap64 (n + 1)) ∧ laws_aboard.f k t a c w = some n)) := by
    unfold inV
    by_cases q : 0 ≤ trayAt t a c w at_ ∧ rd t (trayAt t a c w at_) = 0 ∧ 1 ≤ g ∧ ¬ (g ∈ t ∨ g ∈ c.flatMap (fun x => x.f2))
    · rw [if_pos q]
      obtain ⟨q0, q1, q2, q3⟩ := q
      have q4 := trayAt_in wb q0
      obtain ⟨y, hy⟩ : ∃ y : Nat, trayAt t a c w at_ = (y : Int) := ⟨_, (Int.toNat_of_nonneg q0).symm⟩
      have hk : lpOk t a c w = true ∧ 0 ≤ at_ ∧ at_ ≤ (t.length : Int) - 1 := by
        by_cases hk : lpOk t a c w = true ∧ 0 ≤ at_ ∧ at_ ≤ (t.length : Int) - 1
        · exact hk
        · unfold trayAt at q0
          rw [if_neg hk] at q0
          omega
      have hyv : trayV t a at_ = (y : Int) := by rw [← hy]; unfold trayAt; rw [if_pos hk]
      rw [hy] at q1 q4 ⊢
      have hyl : y < t.length := by omega
      have hz : t[y] = 0 := by rw [← rd_nat t y hyl]; exact q1
      rw [Int.toNat_natCast]
      have hok := put_ok (c := c) (w := w) (a := a) hyl hz q2 hk.1 q3
      have hpb := (put_bags (c := c) hyl hz q2).length_eq
      rw [List.length_cons] at hpb
      have bl : (bagsL t c).length ≤ 1000 := by
        unfold bagsL
        rw [List.length_append]
        have := List.length_filter_le (fun x => !decide (x = 0)) t
        omega
      have o1 := impl_lp_ev (t.set y g) a c w (by rw [List.length_set]; omega) (by rw [List.length_set]; omega) wb
      have o2 := impl_ta_ev (t.set y g) a c w at_ (by rw [List.length_set]; omega) (by rw [List.length_set]; omega) wb
      have o3 := aboard_ev (t.set y g) a c w (by rw [List.length_set]; omega) (by omega) (by omega)
      rw [hok] at o1
      have hq : trayAt (t.set y g) a c w at_ = (y : Int) := by
        unfold trayAt
        rw [if_pos ⟨hok, hk.2.1, by rw [List.length_set]; exact hk.2.2⟩, ← hyv]
        unfold trayV
        rw [List.length_set]
      rw [hq] at o2
      have he : emV t a c w at_ = (0, true) := by
        unfold emV
        rw [if_pos hk]
        unfold emptyV
        rw [hyv, q1, if_pos rfl]
        rfl
      rw [he]
      refine ((Lt.of o1).and ((Lt.of o2).and ((Lt.of o3).and (Lt.of b1)))).imp fun k ⟨p1, p2, p3, p4⟩ => ⟨fun h => (by cases h), fun _ => ⟨p1, rfl, rfl, (y : Int), ((bagsL t c).length : Int), p2, by omega, by rw [List.length_set]; exact q4, ?_, ?_, p4⟩⟩
      · rw [rd_nat _ y (by rw [List.length_set]; exact hyl)]
        simp
      · rw [p3, hpb, wrap_in (by omega) (by omega)]
        rfl
    · rw [if_neg q]
      exact Lt.true.imp fun k _ => ⟨fun _ => ⟨rfl, rfl, rfl, rfl⟩, fun h => by cases h⟩
  have B : Lt (fun k => ((swV m0 mT m2 m3 ⟨mb, mo⟩).2.2.2.2 = false → (swV m0 mT m2 m3 ⟨mb, mo⟩).1 = m0 ∧ (swV m0 mT m2 m3 ⟨mb, mo⟩).2.1 = mT ∧ (swV m0 mT m2 m3 ⟨mb, mo⟩).2.2.1 = m2 ∧ (swV m0 mT m2 m3 ⟨mb, mo⟩).2.2.2.1 = m3) ∧
    ((swV m0 mT m2 m3 ⟨mb, mo⟩).2.2.2.2 = true → impl_LoopOk.f k (swV m0 mT m2 m3 ⟨mb, mo⟩).1 (swV m0 mT m2 m3 ⟨mb, mo⟩).2.1 (swV m0 mT m2 m3 ⟨mb, mo⟩).2.2.1 (swV m0 mT m2 m3 ⟨mb, mo⟩).2.2.2.1 = some true ∧ ((swV m0 mT m2 m3 ⟨mb, mo⟩).2.2.2.1.length : Int) ≤ wrap64 ((m3.length : Int) + 1))) := by
    unfold swV
    by_cases q : lpOk m0 mT m2 m3 = true ∧ lpOk m0 mT m2 (swQ m3 ⟨mb, mo⟩) = true
    · rw [if_pos q]
      have o1 := impl_lp_ev m0 mT m2 (swQ m3 ⟨mb, mo⟩) (by omega) (by omega) (swQ_small mwb (by show mo.length ≤ 1048576; omega))
      rw [q.2] at o1
      have hl : (swQ m3 ⟨mb, mo⟩).length ≤ m3.length + 1 := by
        unfold swQ
        split
        · rw [List.length_set]; omega
        · rw [List.length_append]; simp
      refine (Lt.of o1).imp fun k p1 => ⟨fun h => (by cases h), fun _ => ⟨p1, ?_⟩⟩
      rw [wrap_in (by omega) (by omega)]
      show ((swQ m3 ⟨mb, mo⟩).length : Int) ≤ _
      omega
    · rw [if_neg q]
      exact Lt.true.imp fun k _ => ⟨fun _ => ⟨rfl, rfl, rfl, rfl⟩, fun h => by cases h⟩
  obtain ⟨K, hK⟩ := (Lt.of hd).and ((Lt.of he).and ((Lt.of i1).and ((Lt.of i2).and ((Lt.of t1).and ((Lt.of t2).and ((Lt.of e1).and ((Lt.of e2).and ((Lt.of s1).and ((Lt.of s2).and (A.and B))))))))))
  obtain ⟨p1, p2, p3, p4, p5, p6, p7, p8, p9, p10, pA, pB⟩ := hK K (Nat.le_refl _)
  exact ⟨K, .inr ⟨by simp only [laws_big.f]; rw [decide_eq_false hb], t, a, c, w, at_, g, _, _, _, _, _, _, _, _, m0, mT, m2, m3, mb, mo, _, _, _, _, _, p1, p3, p4, p5, p6, pA.1, pA.2, p7, p8, p2, p9, p10, pB.1, pB.2⟩⟩
end Go.Proofs.Ytmjhbdmicejppaa.Pu
