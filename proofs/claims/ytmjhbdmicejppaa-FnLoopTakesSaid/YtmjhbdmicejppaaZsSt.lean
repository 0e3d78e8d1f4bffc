import Derived.Test.YtmjhbdmicejppaaZsCp
import Derived.Test.YtmjhbdmicejppaaZsPx3
import Derived.Test.YtmjhbdmicejppaaZsPx4
import Derived.Test.YtmjhbdmicejppaaZsPx5
namespace Go.Proofs.Ytmjhbdmicejppaa.Pu
open Go.RowKit Go.Proofs.Ytmjhbdmicejppaa.Px Go.Proofs.YtmjhbdmicejppaaW.PrintWords Go.Proofs.YtmjhbdmicejppaaW.PrintLast Go.Proofs.YtmjhbdmicejppaaW.PrintMore
set_option linter.unusedVariables false
theorem index_l (l : List Int) (b : Int) (hn : l.length ≤ 1048576) : ∀ (d i : Nat), i + d = l.length → ∃ r, Ev (fun k => slices_Index_int_int.l0 k l b (l.length : Int) (i : Int)) r ∧ (r ≥ 0 ↔ b ∈ l.drop i) := by
  intro d
  induction d with
  | zero =>
    intro i hi
    refine ⟨-1, Ev.step (f := fun _ => some (-1)) (fun k => ?_) (Ev.now _), ?_⟩
    · simp only [slices_Index_int_int.l0]
      rw [if_neg (by omega)]
    · rw [List.drop_of_length_le (by omega)]
      simp
  | succ d ih =>
    intro i hi
    have hlt : i < l.length := by omega
    have er : rd l (i : Int) = l[i] := by simp [rd, hlt]
    rw [List.drop_eq_getElem_cons hlt]
    by_cases e : b = l[i]
    · refine ⟨(i : Int), Ev.step (f := fun _ => some (i : Int)) (fun k => ?_) (Ev.now _), ?_⟩
      · simp only [slices_Index_int_int.l0, er]
        rw [if_pos (by omega), if_pos (by omega), if_pos (by omega), if_pos e]
      · exact ⟨fun _ => by rw [e]; exact List.mem_cons_self, fun _ => by omega⟩
    · obtain ⟨r, hr, hb⟩ := ih (i + 1) (by omega)
      refine ⟨r, Ev.step (fun k => ?_) hr, ?_⟩
      · simp only [slices_Index_int_int.l0, er]
        rw [if_pos (by omega), if_pos (by omega), if_pos (by omega), if_neg e, wrap_in (x := (i : Int) + 1) (by omega) (by omega)]
        rfl
      · rw [hb, List.mem_cons]
        exact ⟨Or.inr, fun h => h.elim (fun h => absurd h e) id⟩
theorem contains_ev (l : List Int) (b : Int) (hn : l.length ≤ 1048576) : Ev (fun k => slices_Contains_int_int.f k l b) (decide (b ∈ l)) := by
  obtain ⟨r, hr, hb⟩ := index_l l b hn l.length 0 (by omega)
  refine Lt.ev (Lt.of hr) fun k e => ?_
  have e' : slices_Index_int_int.l0 k l b (l.length : Int) 0 = some r := e
  simp only [slices_Contains_int_int.f, slices_Index_int_int.f, e', Option.bind_some]
  rw [List.drop_zero] at hb
  rw [decide_eq_decide.2 hb]
structure Vl (n : Nat) (tr : List Int) (T : Int) (ch : List S69) (wa : List S74) : Prop where
  len : tr.length = n
  n2 : 2 ≤ n
  n60 : n ≤ 60
  t0 : 0 ≤ T
  t1 : T < n
  c8 : ch.length ≤ 8
  chs : ∀ x ∈ ch, 0 ≤ x.f0 ∧ x.f0 < n ∧ x.f1 ≤ 40 ∧ (x.f2.length : Int) ≤ x.f1
  w60 : wa.length ≤ 60
  was : ∀ x ∈ wa, x.f1.length ≤ 1048576
def step1 (wa : List S74) (T : Int) (tr : List Int) (ch : List S69) (i : Nat) : List Int × List S69 :=
  if rd tr (trayV tr T (ch.getD i z69).f0) = 0 then (tr, ch)
  else if (i : Int) ∈ wnt wa (rd tr (trayV tr T (ch.getD i z69).f0)) ∧ ((ch.getD i z69).f2.length : Int) < (ch.getD i z69).f1 then (tr.set (trayV tr T (ch.getD i z69).f0).toNat 0, ch.set i ⟨(ch.getD i z69).f0, (ch.getD i z69).f1, (ch.getD i z69).f2 ++ [rd tr (trayV tr T (ch.getD i z69).f0)]⟩)
  else (tr, ch)
def stepL (wa : List S74) (T : Int) : Nat → Nat → List Int → List S69 → List Int × List S69
  | 0, _, tr, ch => (tr, ch)
  | d + 1, i, tr, ch => stepL wa T d (i + 1) (step1 wa T tr ch i).1 (step1 wa T tr ch i).2
theorem tray_in {n : Nat} {tr : List Int} {T : Int} {ch : List S69} {wa : List S74} (h : Vl n tr T ch wa) {x : S69} (hx : x ∈ ch) : 0 ≤ trayV tr T x.f0 ∧ trayV tr T x.f0 < n := by
  obtain ⟨x0, x1, _, _⟩ := h.chs x hx
  have h1 := h.len
  have h2 := h.n2
  have h3 := h.n60
  have h4 := h.t0
  have h5 := h.t1
  unfold trayV
  rw [h1, wrap_in (x := x.f0 - T) (by omega) (by omega), wrap_in (by omega) (by omega), Int.tmod_eq_emod_of_nonneg (by omega)]
  exact ⟨Int.emod_nonneg _ (by omega), Int.emod_lt_of_pos _ (by omega)⟩
theorem step1_Vl {n : Nat} {tr : List Int} {T : Int} {ch : List S69} {wa : List S74} (h : Vl n tr T ch wa) {i : Nat} (hi : i < ch.length) : Vl n (step1 wa T tr ch i).1 T (step1 wa T tr ch i).2 wa ∧ (step1 wa T tr ch i).2.length = ch.length := by
  unfold step1
  split
  · exact ⟨h, rfl⟩
  · split
    · rename_i h2
      refine ⟨⟨by rw [List.length_set]; exact h.len, h.n2, h.n60, h.t0, h.t1, by rw [List.length_set]; exact h.c8, fun x hx => ?_, h.w60, h.was⟩, List.length_set⟩
      have e : ch.getD i z69 = ch[i] := by simp [hi]
      rcases List.mem_or_eq_of_mem_set hx with hx | hx
      · exact h.chs x hx
      · obtain ⟨g0, g1, g2, g3⟩ := h.chs _ (List.getElem_mem hi)
        rw [e] at hx h2
        rw [hx]
        refine ⟨g0, g1, g2, ?_⟩
        simp only [List.length_append, List.length_singleton]
        omega
    · exact ⟨h, rfl⟩
theorem step1_z {wa : List S74} {T : Int} {tr : List Int} {ch : List S69} {i : Nat} (hlt : i < ch.length) (c1 : rd tr (trayV tr T ch[i].f0) = 0) : step1 wa T tr ch i = (tr, ch) := by
  have e : ch.getD i z69 = ch[i] := by simp [hlt]
  unfold step1
  rw [e, if_pos c1]
theorem step1_n {wa : List S74} {T : Int} {tr : List Int} {ch : List S69} {i : Nat} (hlt : i < ch.length) (c : ¬ ((i : Int) ∈ wnt wa (rd tr (trayV tr T ch[i].f0)) ∧ (ch[i].f2.length : Int) < ch[i].f1)) : step1 wa T tr ch i = (tr, ch) := by
  have e : ch.getD i z69 = ch[i] := by simp [hlt]
  unfold step1
  rw [e]
  by_cases c1 : rd tr (trayV tr T ch[i].f0) = 0
  · rw [if_pos c1]
  · rw [if_neg c1, if_neg c]
theorem step1_y {wa : List S74} {T : Int} {tr : List Int} {ch : List S69} {i : Nat} (hlt : i < ch.length) (c1 : ¬ rd tr (trayV tr T ch[i].f0) = 0) (c : (i : Int) ∈ wnt wa (rd tr (trayV tr T ch[i].f0)) ∧ (ch[i].f2.length : Int) < ch[i].f1) : step1 wa T tr ch i = (tr.set (trayV tr T ch[i].f0).toNat 0, ch.set i ⟨ch[i].f0, ch[i].f1, ch[i].f2 ++ [rd tr (trayV tr T ch[i].f0)]⟩) := by
  have e : ch.getD i z69 = ch[i] := by simp [hlt]
  unfold step1
  rw [e, if_neg c1, if_pos c]
theorem spec_st_l {n : Nat} {T : Int} {wa : List S74} : ∀ (d i : Nat) (tr : List Int) (ch : List S69), i + d = ch.length → Vl n tr T ch wa → Ev (fun k => spec_l05Step.l0 k tr T ch wa (i : Int)) ((stepL wa T d i tr ch).1, T, (stepL wa T d i tr ch).2, wa) := by
  intro d
  induction d with
  | zero =>
    intro i tr ch hi h
    refine Ev.step (f := fun _ => some (tr, T, ch, wa)) (fun k => ?_) (Ev.now _)
    simp only [spec_l05Step.l0]
    rw [if_neg (by omega)]
  | succ d ih =>
    intro i tr ch hi h
    have hlt : i < ch.length := by omega
    have hc8 := h.c8
    obtain ⟨t0, t1⟩ := tray_in h (List.getElem_mem hlt)
    obtain ⟨g0, g1, g2, g3⟩ := h.chs _ (List.getElem_mem hlt)
    have hlen := h.len
    have hn2 := h.n2
    have hi1 : i + 1 + d = ch.length := by omega
    have nx := ih (i + 1) (step1 wa T tr ch i).1 (step1 wa T tr ch i).2 (hi1.trans (step1_Vl h hlt).2.symm) (step1_Vl h hlt).1
    have et : spec_l05Tray.f tr T ch wa ch[i].f0 = some (trayV tr T ch[i].f0) := by
      simp only [spec_l05Tray.f, trayV]
      rw [if_neg (by omega)]
    have hwn := wants_ev tr T ch wa (rd tr (trayV tr T ch[i].f0)) (i : Int) h.w60 h.was
    have wr : wrap64 ((i : Int) + 1) = ((i + 1 : Nat) : Int) := by rw [wrap_in (by omega) (by omega)]; rfl
    show Ev _ ((stepL wa T d (i + 1) (step1 wa T tr ch i).1 (step1 wa T tr ch i).2).1, T, (stepL wa T d (i + 1) (step1 wa T tr ch i).1 (step1 wa T tr ch i).2).2, wa)
    by_cases c1 : rd tr (trayV tr T ch[i].f0) = 0
    · rw [step1_z hlt c1] at nx ⊢
      refine Ev.round (Lt.of nx) fun k e2 => ?_
      simp only [spec_l05Step.l0, rd69_nat ch i hlt, et, Option.bind_some, wr]
      rw [if_pos (by omega), if_pos (by omega), if_pos t0, if_pos (by omega), if_pos c1]
      exact e2
    · by_cases c2 : (i : Int) ∈ wnt wa (rd tr (trayV tr T ch[i].f0))
      · by_cases c3 : (ch[i].f2.length : Int) < ch[i].f1
        · rw [step1_y hlt c1 ⟨c2, c3⟩] at nx ⊢
          refine Ev.round ((Lt.of hwn).and (Lt.of nx)) fun k ⟨e1, e2⟩ => ?_
          simp only [spec_l05Step.l0, rd69_nat ch i hlt, et, Option.bind_some, e1, wr]
          rw [if_pos (by omega), if_pos (by omega), if_pos t0, if_pos (by omega), if_neg c1, decide_eq_true c2, if_pos rfl, if_pos c3, if_pos (by omega)]
          exact e2
        · rw [step1_n hlt (fun h => c3 h.2)] at nx ⊢
          refine Ev.round ((Lt.of hwn).and (Lt.of nx)) fun k ⟨e1, e2⟩ => ?_
          simp only [spec_l05Step.l0, rd69_nat ch i hlt, et, Option.bind_some, e1, wr]
          rw [if_pos (by omega), if_pos (by omega), if_pos t0, if_pos (by omega), if_neg c1, decide_eq_true c2, if_pos rfl, if_neg c3]
          exact e2
      · rw [step1_n hlt (fun h => c2 h.1)] at nx ⊢
        refine Ev.round ((Lt.of hwn).and (Lt.of nx)) fun k ⟨e1, e2⟩ => ?_
        simp only [spec_l05Step.l0, rd69_nat ch i hlt, et, Option.bind_some, e1, wr]
        rw [if_pos (by omega), if_pos (by omega), if_pos t0, if_pos (by omega), if_neg c1, decide_eq_false c2, if_neg (by simp)]
        exact e2
theorem impl_st_l {n : Nat} {T : Int} {wa : List S74} : ∀ (d i : Nat) (tr : List Int) (ch : List S69), i + d = ch.length → Vl n tr T ch wa → Ev (fun k => impl_turn.l0 k tr T ch wa (i : Int)) ((stepL wa T d i tr ch).1, T, (stepL wa T d i tr ch).2) := by
  intro d
  induction d with
  | zero =>
    intro i tr ch hi h
    refine Ev.step (f := fun _ => some (tr, T, ch)) (fun k => ?_) (Ev.now _)
    simp only [impl_turn.l0]
    rw [if_neg (by omega)]
  | succ d ih =>
    intro i tr ch hi h
    have hlt : i < ch.length := by omega
    have hc8 := h.c8
    obtain ⟨t0, t1⟩ := tray_in h (List.getElem_mem hlt)
    obtain ⟨g0, g1, g2, g3⟩ := h.chs _ (List.getElem_mem hlt)
    have hlen := h.len
    have hn2 := h.n2
    have hi1 : i + 1 + d = ch.length := by omega
    have nx := ih (i + 1) (step1 wa T tr ch i).1 (step1 wa T tr ch i).2 (hi1.trans (step1_Vl h hlt).2.symm) (step1_Vl h hlt).1
    have et : impl_trayAt.f tr T ch wa ch[i].f0 = some (trayV tr T ch[i].f0) := by
      simp only [impl_trayAt.f, trayV]
      rw [if_neg (by omega)]
    have wr : wrap64 ((i : Int) + 1) = ((i + 1 : Nat) : Int) := by rw [wrap_in (by omega) (by omega)]; rfl
    show Ev _ ((stepL wa T d (i + 1) (step1 wa T tr ch i).1 (step1 wa T tr ch i).2).1, T, (stepL wa T d (i + 1) (step1 wa T tr ch i).1 (step1 wa T tr ch i).2).2)
    rcases wantOf_eq tr T ch wa (rd tr (trayV tr T ch[i].f0)) with ⟨ew, en⟩ | ⟨j, hj, ew, en⟩
    · rw [step1_n hlt (fun h => by rw [en] at h; simp at h)] at nx ⊢
      refine Ev.round (Lt.of nx) fun k e2 => ?_
      simp only [impl_turn.l0, rd69_nat ch i hlt, et, Option.bind_some, ew, wr]
      rw [if_pos (by omega), if_pos (by omega), if_pos t0, if_pos (by omega)]
      by_cases c1 : rd tr (trayV tr T ch[i].f0) = 0
      · rw [if_pos c1]
        exact e2
      · rw [if_neg c1, if_pos (by omega)]
        exact e2
    · have hcn := contains_ev wa[j].f1 (i : Int) (h.was _ (List.getElem_mem hj))
      have hw60 := h.w60
      by_cases c1 : rd tr (trayV tr T ch[i].f0) = 0
      · rw [step1_z hlt c1] at nx ⊢
        refine Ev.round (Lt.of nx) fun k e2 => ?_
        simp only [impl_turn.l0, rd69_nat ch i hlt, et, Option.bind_some, ew, wr]
        rw [if_pos (by omega), if_pos (by omega), if_pos t0, if_pos (by omega), if_pos c1]
        exact e2
      · by_cases c3 : (ch[i].f2.length : Int) < ch[i].f1
        · by_cases c2 : (i : Int) ∈ wa[j].f1
          · rw [step1_y hlt c1 ⟨by rw [en]; exact c2, c3⟩] at nx ⊢
            refine Ev.round ((Lt.of hcn).and (Lt.of nx)) fun k ⟨e1, e2⟩ => ?_
            simp only [impl_turn.l0, rd69_nat ch i hlt, et, Option.bind_some, ew, wr, rd74_nat wa j hj, e1]
            rw [if_pos (by omega), if_pos (by omega), if_pos t0, if_pos (by omega), if_neg c1, if_neg (by omega), if_neg (by omega), if_pos (by omega), decide_eq_true c2, if_pos rfl, if_pos (by omega)]
            exact e2
          · rw [step1_n hlt (fun h => c2 (by rw [en] at h; exact h.1))] at nx ⊢
            refine Ev.round ((Lt.of hcn).and (Lt.of nx)) fun k ⟨e1, e2⟩ => ?_
            simp only [impl_turn.l0, rd69_nat ch i hlt, et, Option.bind_some, ew, wr, rd74_nat wa j hj, e1]
            rw [if_pos (by omega), if_pos (by omega), if_pos t0, if_pos (by omega), if_neg c1, if_neg (by omega), if_neg (by omega), if_pos (by omega), decide_eq_false c2, if_neg (by simp)]
            exact e2
        · rw [step1_n hlt (fun h => c3 h.2)] at nx ⊢
          refine Ev.round (Lt.of nx) fun k e2 => ?_
          simp only [impl_turn.l0, rd69_nat ch i hlt, et, Option.bind_some, ew, wr]
          rw [if_pos (by omega), if_pos (by omega), if_pos t0, if_pos (by omega), if_neg c1, if_neg (by omega), if_pos (by omega)]
          exact e2
theorem stepL_Vl {n : Nat} {T : Int} {wa : List S74} : ∀ (d i : Nat) (tr : List Int) (ch : List S69), i + d = ch.length → Vl n tr T ch wa → Vl n (stepL wa T d i tr ch).1 T (stepL wa T d i tr ch).2 wa ∧ (stepL wa T d i tr ch).2.length = ch.length
  | 0, i, tr, ch, hi, h => ⟨h, rfl⟩
  | d + 1, i, tr, ch, hi, h => by
    have hV := step1_Vl h (i := i) (by omega)
    obtain ⟨h1, h2⟩ := stepL_Vl d (i + 1) (step1 wa T tr ch i).1 (step1 wa T tr ch i).2 (by rw [hV.2]; omega) hV.1
    exact ⟨h1, h2.trans hV.2⟩
def nxT (tr : List Int) (T : Int) : Int := Int.tmod (wrap64 (T + 1)) (tr.length : Int)
def nxS (tr : List Int) (T : Int) (ch : List S69) (wa : List S74) : List Int × List S69 := stepL wa (nxT tr T) ch.length 0 tr ch
theorem nx_V {n : Nat} {tr : List Int} {T : Int} {ch : List S69} {wa : List S74} (h : Vl n tr T ch wa) : Vl n tr (nxT tr T) ch wa := by
  have h1 := h.len
  have h2 := h.n2
  have h4 := h.t0
  have h5 := h.t1
  have h3 := h.n60
  have : 0 ≤ nxT tr T ∧ nxT tr T < n := by
    unfold nxT
    rw [h1, wrap_in (by omega) (by omega), Int.tmod_eq_emod_of_nonneg (by omega)]
    exact ⟨Int.emod_nonneg _ (by omega), Int.emod_lt_of_pos _ (by omega)⟩
  exact ⟨h.len, h.n2, h.n60, this.1, this.2, h.c8, h.chs, h.w60, h.was⟩
theorem nxS_V {n : Nat} {tr : List Int} {T : Int} {ch : List S69} {wa : List S74} (h : Vl n tr T ch wa) : Vl n (nxS tr T ch wa).1 (nxT tr T) (nxS tr T ch wa).2 wa :=
  (stepL_Vl ch.length 0 tr ch (by omega) (nx_V h)).1
theorem impl_turn_ev {n : Nat} {tr : List Int} {T : Int} {ch : List S69} {wa : List S74} (h : Vl n tr T ch wa) : Ev (fun k => impl_turn.f k tr T ch wa) ((nxS tr T ch wa).1, nxT tr T, (nxS tr T ch wa).2) := by
  have hlen := h.len
  have hn2 := h.n2
  refine Lt.ev (Lt.of (impl_st_l ch.length 0 tr ch (by omega) (nx_V h))) fun k e => ?_
  simp only [impl_turn.f]
  rw [if_neg (by omega)]
  exact e
theorem vl_small {n : Nat} {tr : List Int} {T : Int} {ch : List S69} {wa : List S74} (h : Vl n tr T ch wa) : tr.length ≤ 1048576 ∧ ch.length ≤ 1048576 ∧ (∀ x ∈ ch, x.f2.length ≤ 1048576) ∧ wa.length ≤ 1048576 := by
  have h1 := h.len
  have h2 := h.n60
  have h3 := h.c8
  have h4 := h.w60
  exact ⟨by omega, by omega, fun x hx => by obtain ⟨_, _, _, _⟩ := h.chs x hx; omega, by omega⟩
theorem spec_step_ev {n : Nat} {tr : List Int} {T : Int} {ch : List S69} {wa : List S74} (h : Vl n tr T ch wa) : Ev (fun k => spec_l05Step.f k tr T ch wa) ((nxS tr T ch wa).1, nxT tr T, (nxS tr T ch wa).2, wa) := by
  have hlen := h.len
  have hn2 := h.n2
  obtain ⟨s1, s2, s3, s4⟩ := vl_small h
  refine Lt.ev ((Lt.of (scopy_ev T tr ch wa s1 s2 s3 s4 h.was)).and (Lt.of (spec_st_l ch.length 0 tr ch (by omega) (nx_V h)))) fun k ⟨e1, e⟩ => ?_
  simp only [spec_l05Step.f, e1, Option.bind_some]
  rw [if_neg (by omega)]
  exact e
end Go.Proofs.Ytmjhbdmicejppaa.Pu
