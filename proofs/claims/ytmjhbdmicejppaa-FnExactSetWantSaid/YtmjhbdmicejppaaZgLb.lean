import Derived.Test.YtmjhbdmicejppaaZgBi
import Derived.Test.YtmjhbdmicejppaaZgPx3
import Derived.Test.YtmjhbdmicejppaaZgPx4
import Derived.Test.YtmjhbdmicejppaaZgPx12
namespace Go.Proofs.Ytmjhbdmicejppaa.Pu
open Go.RowKit Go.Proofs.Ytmjhbdmicejppaa.Px Go.Proofs.YtmjhbdmicejppaaW.PrintWords Go.Proofs.YtmjhbdmicejppaaW.PrintLast
set_option linter.unusedVariables false
def chu (x : S95) : S69 := ⟨x.f0, x.f1, x.f2⟩
def wan (x : S97) : S74 := ⟨x.f0, x.f1⟩
theorem rd95_nat (l : List S95) (i : Nat) (h : i < l.length) : rd_T95 l (i : Int) = l[i] := by simp [rd_T95, h]
theorem rd97_nat (l : List S97) (i : Nat) (h : i < l.length) : rd_T97 l (i : Int) = l[i] := by simp [rd_T97, h]
theorem rd69_nat (l : List S69) (i : Nat) (h : i < l.length) : rd_T69 l (i : Int) = l[i] := by simp [rd_T69, h]
theorem rd74_nat (l : List S74) (i : Nat) (h : i < l.length) : rd_T74 l (i : Int) = l[i] := by simp [rd_T74, h]
theorem toChuteS_l (l : List S95) (hn : l.length ≤ 1048576) (hb : ∀ x ∈ l, x.f2.length ≤ 1048576) : ∀ (d i : Nat), i + d = l.length → ∀ m : List S69, m.length = (l.map chu).length → m.take i = (l.map chu).take i → Ev (fun k => laws_toChuteS.l0 k l m (i : Int)) (l.map chu) := by
  intro d
  induction d with
  | zero =>
    intro i hi m hm ht
    refine Ev.step (f := fun _ => some (l.map chu)) (fun k => ?_) (Ev.now _)
    rw [List.take_of_length_le (by simp at hm; omega), List.take_of_length_le (by simp; omega)] at ht
    subst ht
    simp only [laws_toChuteS.l0]
    rw [if_neg (by omega)]
  | succ d ih =>
    intro i hi m hm ht
    have hm' : m.length = l.length := by simpa using hm
    have hlt : i < l.length := by omega
    refine Ev.round ((Lt.of (toIntS_ev l[i].f2 (hb _ (List.getElem_mem hlt)))).and (Lt.of (ih (i + 1) (by omega) (m.set i (l.map chu)[i]) (by simp [hm']) (take_set m (l.map chu) i hm (by simp; omega) ht)))) fun k ⟨e1, e2⟩ => ?_
    simp only [laws_toChuteS.l0, laws_toChute.f]
    rw [if_pos (by omega), if_pos (by omega), rd95_nat l i hlt, e1]
    simp only [Option.bind_some]
    rw [if_pos (by omega), wrap_in (by omega) (by omega)]
    simpa [chu] using e2
theorem toWantS_l (l : List S97) (hn : l.length ≤ 1048576) (hb : ∀ x ∈ l, x.f1.length ≤ 1048576) : ∀ (d i : Nat), i + d = l.length → ∀ m : List S74, m.length = (l.map wan).length → m.take i = (l.map wan).take i → Ev (fun k => laws_toWantS.l0 k l m (i : Int)) (l.map wan) := by
  intro d
  induction d with
  | zero =>
    intro i hi m hm ht
    refine Ev.step (f := fun _ => some (l.map wan)) (fun k => ?_) (Ev.now _)
    rw [List.take_of_length_le (by simp at hm; omega), List.take_of_length_le (by simp; omega)] at ht
    subst ht
    simp only [laws_toWantS.l0]
    rw [if_neg (by omega)]
  | succ d ih =>
    intro i hi m hm ht
    have hm' : m.length = l.length := by simpa using hm
    have hlt : i < l.length := by omega
    refine Ev.round ((Lt.of (toIntS_ev l[i].f1 (hb _ (List.getElem_mem hlt)))).and (Lt.of (ih (i + 1) (by omega) (m.set i (l.map wan)[i]) (by simp [hm']) (take_set m (l.map wan) i hm (by simp; omega) ht)))) fun k ⟨e1, e2⟩ => ?_
    simp only [laws_toWantS.l0, laws_toWant.f]
    rw [if_pos (by omega), if_pos (by omega), rd97_nat l i hlt, e1]
    simp only [Option.bind_some]
    rw [if_pos (by omega), wrap_in (by omega) (by omega)]
    simpa [wan] using e2
theorem toLoop_ev (t : List Int) (a : Int) (c : List S95) (w : List S97) (ht : t.length ≤ 1048576) (hc : c.length ≤ 1048576) (hcb : ∀ x ∈ c, x.f2.length ≤ 1048576) (hw : w.length ≤ 1048576) (hwb : ∀ x ∈ w, x.f1.length ≤ 1048576) :
    Ev (fun k => laws_toLoop.f k t a c w) (t, a, c.map chu, w.map wan) := by
  refine Lt.ev ((Lt.of (toIntS_ev t ht)).and ((Lt.of (toChuteS_l c hc hcb c.length 0 (by omega) (List.replicate c.length z69) (by simp) (by simp))).and (Lt.of (toWantS_l w hw hwb w.length 0 (by omega) (List.replicate w.length z74) (by simp) (by simp))))) fun k ⟨e1, e2, e3⟩ => ?_
  simp only [laws_toLoop.f, laws_toChuteS.f, laws_toWantS.f, e1, Option.bind_some]
  rw [if_pos (by omega), if_pos (by omega), if_pos (by omega), if_pos (by omega)]
  have e2' : laws_toChuteS.l0 k c (List.replicate ((c.length : Int)).toNat z69) 0 = some (c.map chu) := by simpa using e2
  have e3' : laws_toWantS.l0 k w (List.replicate ((w.length : Int)).toNat z74) 0 = some (w.map wan) := by simpa using e3
  rw [e2', e3']
  rfl
theorem eqChuteS_l (l : List S69) (hn : l.length ≤ 1048576) (hb : ∀ x ∈ l, x.f2.length ≤ 1048576) : ∀ (d i : Nat), i + d = l.length → Ev (fun k => laws_eqChuteS.l0 k l l (i : Int)) true := by
  intro d
  induction d with
  | zero =>
    intro i hi
    refine Ev.step (f := fun _ => some true) (fun k => ?_) (Ev.now _)
    simp only [laws_eqChuteS.l0]
    rw [if_neg (by omega)]
  | succ d ih =>
    intro i hi
    have hlt : i < l.length := by omega
    refine Ev.round ((Lt.of (eqIntS_ev l[i].f2 (hb _ (List.getElem_mem hlt)))).and (Lt.of (ih (i + 1) (by omega)))) fun k ⟨e1, e2⟩ => ?_
    simp only [laws_eqChuteS.l0, laws_eqChute.f]
    rw [if_pos (by omega), if_pos (by omega), if_pos (by omega), rd69_nat l i hlt, e1, wrap_in (by omega) (by omega)]
    simpa using e2
theorem eqWantS_l (l : List S74) (hn : l.length ≤ 1048576) (hb : ∀ x ∈ l, x.f1.length ≤ 1048576) : ∀ (d i : Nat), i + d = l.length → Ev (fun k => laws_eqWantS.l0 k l l (i : Int)) true := by
  intro d
  induction d with
  | zero =>
    intro i hi
    refine Ev.step (f := fun _ => some true) (fun k => ?_) (Ev.now _)
    simp only [laws_eqWantS.l0]
    rw [if_neg (by omega)]
  | succ d ih =>
    intro i hi
    have hlt : i < l.length := by omega
    refine Ev.round ((Lt.of (eqIntS_ev l[i].f1 (hb _ (List.getElem_mem hlt)))).and (Lt.of (ih (i + 1) (by omega)))) fun k ⟨e1, e2⟩ => ?_
    simp only [laws_eqWantS.l0, laws_eqWant.f]
    rw [if_pos (by omega), if_pos (by omega), if_pos (by omega), rd74_nat l i hlt, e1, wrap_in (by omega) (by omega)]
    simpa using e2
theorem eqLoop_ev (t : List Int) (a : Int) (c : List S69) (w : List S74) (ht : t.length ≤ 1048576) (hc : c.length ≤ 1048576) (hcb : ∀ x ∈ c, x.f2.length ≤ 1048576) (hw : w.length ≤ 1048576) (hwb : ∀ x ∈ w, x.f1.length ≤ 1048576) :
    Ev (fun k => laws_eqLoop.f k t a c w t a c w) true := by
  refine Lt.ev ((Lt.of (eqIntS_ev t ht)).and ((Lt.of (eqChuteS_l c hc hcb c.length 0 (by omega))).and (Lt.of (eqWantS_l w hw hwb w.length 0 (by omega))))) fun k ⟨e1, e2, e3⟩ => ?_
  have e2' : laws_eqChuteS.l0 k c c 0 = some true := e2
  have e3' : laws_eqWantS.l0 k w w 0 = some true := e3
  simp only [laws_eqLoop.f, laws_eqChuteS.f, laws_eqWantS.f, e1, e2', e3', Option.bind_some]
  simp
def totC (l : List S95) : Nat := (l.map (fun x => x.f2.length)).sum
def totW (l : List S97) : Nat := (l.map (fun x => x.f1.length)).sum
theorem szChuteS_l (l : List S95) (hn : l.length ≤ 17592186044416) (hb : ∀ x ∈ l, x.f2.length ≤ 17592186044416) : ∀ (d i : Nat), i + d = l.length → ∀ c : Int, 0 ≤ c → c ≤ 1048576 → ∃ t, Ev (fun k => laws_szChuteS.l0 k l c (i : Int)) t ∧ t ≤ c ∧ (0 ≤ t → t + (totC (l.drop i) : Int) ≤ c) := by
  intro d
  induction d with
  | zero =>
    intro i hi c h0 h1
    refine ⟨c, Ev.step (f := fun _ => some c) (fun k => ?_) (Ev.now _), by omega, fun _ => ?_⟩
    · simp only [laws_szChuteS.l0]
      rw [if_neg (by omega)]
    · rw [List.drop_of_length_le (by omega)]
      simp [totC]
  | succ d ih =>
    intro i hi c h0 h1
    have hlt : i < l.length := by omega
    have hbi := hb _ (List.getElem_mem hlt)
    by_cases hc : c - (l[i].f2.length : Int) < 0
    · refine ⟨-1, Ev.step (f := fun _ => some (-1)) (fun k => ?_) (Ev.now _), by omega, fun h => absurd h (by omega)⟩
      simp only [laws_szChuteS.l0, laws_szChute.f, laws_szIntS.f]
      rw [if_pos (by omega), if_pos (by omega), rd95_nat l i hlt, wrap_in (x := c - (l[i].f2.length : Int)) (by omega) (by omega), if_pos hc]
      rfl
    · obtain ⟨t, e, htc, ht⟩ := ih (i + 1) (by omega) (c - (l[i].f2.length : Int)) (by omega) (by omega)
      refine ⟨t, Ev.step (fun k => ?_) e, by omega, fun h => ?_⟩
      · simp only [laws_szChuteS.l0, laws_szChute.f, laws_szIntS.f]
        rw [if_pos (by omega), if_pos (by omega), rd95_nat l i hlt, wrap_in (x := c - (l[i].f2.length : Int)) (by omega) (by omega), if_neg hc]
        simp only [Option.bind_some]
        rw [if_neg hc]
        simp only [Option.bind_some]
        rw [if_neg hc, wrap_in (x := (i : Int) + 1) (by omega) (by omega)]
        rfl
      · have := ht h
        rw [List.drop_eq_getElem_cons hlt]
        simp only [totC, List.map_cons, List.sum_cons] at this ⊢
        omega
theorem szWantS_l (l : List S97) (hn : l.length ≤ 17592186044416) (hb : ∀ x ∈ l, x.f1.length ≤ 17592186044416) : ∀ (d i : Nat), i + d = l.length → ∀ c : Int, 0 ≤ c → c ≤ 1048576 → ∃ t, Ev (fun k => laws_szWantS.l0 k l c (i : Int)) t ∧ t ≤ c ∧ (0 ≤ t → t + (totW (l.drop i) : Int) ≤ c) := by
  intro d
  induction d with
  | zero =>
    intro i hi c h0 h1
    refine ⟨c, Ev.step (f := fun _ => some c) (fun k => ?_) (Ev.now _), by omega, fun _ => ?_⟩
    · simp only [laws_szWantS.l0]
      rw [if_neg (by omega)]
    · rw [List.drop_of_length_le (by omega)]
      simp [totW]
  | succ d ih =>
    intro i hi c h0 h1
    have hlt : i < l.length := by omega
    have hbi := hb _ (List.getElem_mem hlt)
    by_cases hc : c - (l[i].f1.length : Int) < 0
    · refine ⟨-1, Ev.step (f := fun _ => some (-1)) (fun k => ?_) (Ev.now _), by omega, fun h => absurd h (by omega)⟩
      simp only [laws_szWantS.l0, laws_szWant.f, laws_szIntS.f]
      rw [if_pos (by omega), if_pos (by omega), rd97_nat l i hlt, wrap_in (x := c - (l[i].f1.length : Int)) (by omega) (by omega), if_pos hc]
      rfl
    · obtain ⟨t, e, htc, ht⟩ := ih (i + 1) (by omega) (c - (l[i].f1.length : Int)) (by omega) (by omega)
      refine ⟨t, Ev.step (fun k => ?_) e, by omega, fun h => ?_⟩
      · simp only [laws_szWantS.l0, laws_szWant.f, laws_szIntS.f]
        rw [if_pos (by omega), if_pos (by omega), rd97_nat l i hlt, wrap_in (x := c - (l[i].f1.length : Int)) (by omega) (by omega), if_neg hc]
        simp only [Option.bind_some]
        rw [if_neg hc]
        simp only [Option.bind_some]
        rw [if_neg hc, wrap_in (x := (i : Int) + 1) (by omega) (by omega)]
        rfl
      · have := ht h
        rw [List.drop_eq_getElem_cons hlt]
        simp only [totW, List.map_cons, List.sum_cons] at this ⊢
        omega
theorem szLoop_ev (t : List Int) (a : Int) (c : List S95) (w : List S97) (h1 : t.length ≤ 17592186044416) (h2 : c.length ≤ 17592186044416) (h2b : ∀ x ∈ c, x.f2.length ≤ 17592186044416) (h3 : w.length ≤ 17592186044416) (h3b : ∀ x ∈ w, x.f1.length ≤ 17592186044416) :
    ∃ r, Ev (fun k => laws_szLoop.f k t a c w 1048576) r ∧ (0 ≤ r → t.length + c.length + totC c + w.length + totW w ≤ 1048576) := by
  have dead : ∀ f : Nat → Option Int, (∀ k, f k = some (-1)) → Ev f (-1) := fun f hf => Ev.congr (f := fun _ => some (-1)) hf (Ev.now _)
  by_cases c1 : (1048576 : Int) - (t.length : Int) < 0
  · refine ⟨-1, dead _ (fun k => ?_), fun h => absurd h (by omega)⟩
    simp only [laws_szLoop.f, laws_szIntS.f]
    rw [wrap_in (x := (1048576 : Int) - (t.length : Int)) (by omega) (by omega), if_pos c1]
    rfl
  have e1 : laws_szIntS.f t 1048576 = some (1048576 - (t.length : Int)) := by
    simp only [laws_szIntS.f]
    rw [wrap_in (x := (1048576 : Int) - (t.length : Int)) (by omega) (by omega), if_neg c1]
  by_cases c2 : (1048576 : Int) - (t.length : Int) - (c.length : Int) < 0
  · refine ⟨-1, dead _ (fun k => ?_), fun h => absurd h (by omega)⟩
    simp only [laws_szLoop.f, laws_szChuteS.f, e1, Option.bind_some]
    rw [if_neg c1, wrap_in (x := (1048576 : Int) - (t.length : Int) - (c.length : Int)) (by omega) (by omega), if_pos c2]
    rfl
  obtain ⟨tc, ec, hc1, hc2⟩ := szChuteS_l c h2 h2b c.length 0 (by omega) (1048576 - (t.length : Int) - (c.length : Int)) (by omega) (by omega)
  rw [List.drop_zero] at hc2
  by_cases c3 : tc < 0
  · refine ⟨-1, Lt.ev (Lt.of ec) fun k e => ?_, fun h => absurd h (by omega)⟩
    have e' : laws_szChuteS.l0 k c (1048576 - (t.length : Int) - (c.length : Int)) 0 = some tc := e
    simp only [laws_szLoop.f, laws_szChuteS.f, e1, Option.bind_some]
    rw [if_neg c1, wrap_in (x := (1048576 : Int) - (t.length : Int) - (c.length : Int)) (by omega) (by omega), if_neg c2, e']
    simp only [Option.bind_some]
    rw [if_pos c3]
  by_cases c4 : tc - (w.length : Int) < 0
  · refine ⟨-1, Lt.ev (Lt.of ec) fun k e => ?_, fun h => absurd h (by omega)⟩
    have e' : laws_szChuteS.l0 k c (1048576 - (t.length : Int) - (c.length : Int)) 0 = some tc := e
    simp only [laws_szLoop.f, laws_szChuteS.f, laws_szWantS.f, e1, Option.bind_some]
    rw [if_neg c1, wrap_in (x := (1048576 : Int) - (t.length : Int) - (c.length : Int)) (by omega) (by omega), if_neg c2, e']
    simp only [Option.bind_some]
    rw [if_neg c3, wrap_in (x := tc - (w.length : Int)) (by omega) (by omega), if_pos c4]
    rfl
  obtain ⟨tw, ew, hw1, hw2⟩ := szWantS_l w h3 h3b w.length 0 (by omega) (tc - (w.length : Int)) (by omega) (by omega)
  rw [List.drop_zero] at hw2
  refine ⟨if tw < 0 then -1 else tw, Lt.ev ((Lt.of ec).and (Lt.of ew)) fun k ⟨e, f⟩ => ?_, fun h => ?_⟩
  · have e' : laws_szChuteS.l0 k c (1048576 - (t.length : Int) - (c.length : Int)) 0 = some tc := e
    have f' : laws_szWantS.l0 k w (tc - (w.length : Int)) 0 = some tw := f
    simp only [laws_szLoop.f, laws_szChuteS.f, laws_szWantS.f, e1, Option.bind_some]
    rw [if_neg c1, wrap_in (x := (1048576 : Int) - (t.length : Int) - (c.length : Int)) (by omega) (by omega), if_neg c2, e']
    simp only [Option.bind_some]
    rw [if_neg c3, wrap_in (x := tc - (w.length : Int)) (by omega) (by omega), if_neg c4, f']
    simp only [Option.bind_some]
    split <;> rfl
  · have h0 : 0 ≤ tw := by
      by_cases c5 : tw < 0
      · rw [if_pos c5] at h; omega
      · omega
    have a1 := hc2 (by omega)
    have a2 := hw2 h0
    omega
theorem totC_ge (l : List S95) (x : S95) (hx : x ∈ l) : x.f2.length ≤ totC l := by
  induction l with
  | nil => cases hx
  | cons y r ih =>
    simp only [totC, List.map_cons, List.sum_cons]
    rcases List.mem_cons.1 hx with rfl | h
    · omega
    · have := ih h
      simp only [totC] at this
      omega
theorem totW_ge (l : List S97) (x : S97) (hx : x ∈ l) : x.f1.length ≤ totW l := by
  induction l with
  | nil => cases hx
  | cons y r ih =>
    simp only [totW, List.map_cons, List.sum_cons]
    rcases List.mem_cons.1 hx with rfl | h
    · omega
    · have := ih h
      simp only [totW] at this
      omega
theorem totC_flat (l : List S95) : ((l.map chu).flatMap (fun x => x.f2)).length = totC l := by
  rw [List.length_flatMap, List.map_map]
  rfl
end Go.Proofs.Ytmjhbdmicejppaa.Pu
