import Derived.Test.YtmjhbdmicejppaaZjWt
import Derived.Test.YtmjhbdmicejppaaZjLb
import Derived.Test.YtmjhbdmicejppaaZjPx11
import Derived.Test.YtmjhbdmicejppaaZjPx0
import Derived.Test.YtmjhbdmicejppaaZjTl
import Derived.Test.YtmjhbdmicejppaaZjSk
import Derived.Test.YtmjhbdmicejppaaZjPx20
import Derived.Test.YtmjhbdmicejppaaZjPx21
import Derived.Test.YtmjhbdmicejppaaZjPx22
namespace Go.Proofs.Ytmjhbdmicejppaa.Pu
open Go.RowKit Go.Proofs.Ytmjhbdmicejppaa.Px Go.Proofs.YtmjhbdmicejppaaW.PrintWords Go.Proofs.YtmjhbdmicejppaaW.PrintLast Go.Proofs.YtmjhbdmicejppaaW.PrintMore
set_option linter.unusedVariables false
theorem sameInts_l (l : List Int) (hn : l.length ≤ 1048576) : ∀ (d i : Nat), i + d = l.length → Ev (fun k => laws_sameInts.l0 k l l (i : Int)) true := by
  intro d
  induction d with
  | zero =>
    intro i hi
    refine Ev.step (f := fun _ => some true) (fun k => ?_) (Ev.now _)
    simp only [laws_sameInts.l0]
    rw [if_neg (by omega)]
  | succ d ih =>
    intro i hi
    refine Ev.step (fun k => ?_) (ih (i + 1) (by omega))
    simp only [laws_sameInts.l0]
    rw [if_pos (by omega), if_pos (by omega), if_pos (by omega), if_pos trivial, wrap_in (x := (i : Int) + 1) (by omega) (by omega)]
    rfl
theorem sameInts_ev (l : List Int) (hn : l.length ≤ 1048576) : Ev (fun k => laws_sameInts.f k l l) true := by
  refine Lt.ev (Lt.of (sameInts_l l hn l.length 0 (by omega))) fun k e => ?_
  simp only [laws_sameInts.f]
  rw [if_pos trivial]
  exact e
theorem sameW_l (t : List Int) (a : Int) (c : List S69) (w : List S74) (hw : w.length ≤ 1048576) (hwb : ∀ x ∈ w, x.f1.length ≤ 1048576) : ∀ (d i : Nat), i + d = w.length → Ev (fun k => laws_sameLoop.l1 k (i : Int) t a c w t a c w) true := by
  intro d
  induction d with
  | zero =>
    intro i hi
    refine Ev.step (f := fun _ => some true) (fun k => ?_) (Ev.now _)
    simp only [laws_sameLoop.l1]
    rw [if_neg (by omega)]
  | succ d ih =>
    intro i hi
    have hlt : i < w.length := by omega
    refine Ev.round ((Lt.of (sameInts_ev w[i].f1 (hwb _ (List.getElem_mem hlt)))).and (Lt.of (ih (i + 1) (by omega)))) fun k ⟨e1, e2⟩ => ?_
    simp only [laws_sameLoop.l1, rd74_nat w i hlt, e1, Option.bind_some]
    rw [if_pos (by omega), if_pos (by omega), if_pos (by omega), if_pos trivial, if_pos trivial, wrap_in (x := (i : Int) + 1) (by omega) (by omega)]
    exact e2
theorem sameC_l (t : List Int) (a : Int) (c : List S69) (w : List S74) (hc : c.length ≤ 1048576) (hcb : ∀ x ∈ c, x.f2.length ≤ 1048576) (hw : w.length ≤ 1048576) (hwb : ∀ x ∈ w, x.f1.length ≤ 1048576) : ∀ (d i : Nat), i + d = c.length → Ev (fun k => laws_sameLoop.l0 k (i : Int) t a c w t a c w) true := by
  intro d
  induction d with
  | zero =>
    intro i hi
    refine Ev.step (fun k => ?_) (sameW_l t a c w hw hwb w.length 0 (by omega))
    simp only [laws_sameLoop.l0]
    rw [if_neg (by omega)]
    rfl
  | succ d ih =>
    intro i hi
    have hlt : i < c.length := by omega
    have j2 : Ev (fun k => laws_sameLoop.j2 k (i : Int) false t a c w t a c w) true := Ev.round (Lt.of (ih (i + 1) (by omega))) fun k e => by
      simp only [laws_sameLoop.j2]
      rw [if_neg (by simp), wrap_in (x := (i : Int) + 1) (by omega) (by omega)]
      exact e
    refine Ev.round ((Lt.of (sameInts_ev c[i].f2 (hcb _ (List.getElem_mem hlt)))).and (Lt.of j2)) fun k ⟨e1, e2⟩ => ?_
    simp only [laws_sameLoop.l0, rd69_nat c i hlt, e1, Option.bind_some]
    rw [if_pos (by omega), if_pos (by omega), if_pos (by omega), if_pos trivial, if_pos trivial]
    exact e2
theorem sameLoop_ev (t : List Int) (a : Int) (c : List S69) (w : List S74) (ht : t.length ≤ 1048576) (hc : c.length ≤ 1048576) (hcb : ∀ x ∈ c, x.f2.length ≤ 1048576) (hw : w.length ≤ 1048576) (hwb : ∀ x ∈ w, x.f1.length ≤ 1048576) : Ev (fun k => laws_sameLoop.f k t a c w t a c w) true := by
  have j0 : Ev (fun k => laws_sameLoop.j0 k false t a c w t a c w) true := Ev.round (Lt.of (sameC_l t a c w hc hcb hw hwb c.length 0 (by omega))) fun k e => by
    simp only [laws_sameLoop.j0]
    rw [if_neg (by simp)]
    exact e
  refine Lt.ev ((Lt.of (sameInts_ev t ht)).and (Lt.of j0)) fun k ⟨e1, e2⟩ => ?_
  simp only [laws_sameLoop.f, e1, Option.bind_some]
  rw [if_pos trivial, if_pos trivial, if_pos trivial, bne_self_eq_false]
  exact e2
theorem aboardC_l (t : List Int) (a : Int) (c : List S69) (w : List S74) (hc : c.length ≤ 1048576) (hf : (c.flatMap (fun x => x.f2)).length ≤ 1048576) : ∀ (d i : Nat), i + d = c.length → ∀ x : Nat, x + ((c.drop i).flatMap (fun x => x.f2)).length ≤ 4194304 → Ev (fun k => laws_aboard.l1 k (x : Int) (i : Int) t a c w) ((x : Int) + (((c.drop i).flatMap (fun x => x.f2)).length : Int)) := by
  intro d
  induction d with
  | zero =>
    intro i hi x hx
    rw [List.drop_of_length_le (by omega)]
    refine Ev.step (f := fun _ => some ((x : Int) + ((([] : List S69).flatMap (fun x => x.f2)).length : Int))) (fun k => ?_) (Ev.now _)
    simp only [laws_aboard.l1]
    rw [if_neg (by omega)]
    simp
  | succ d ih =>
    intro i hi x hx
    have hlt : i < c.length := by omega
    rw [List.drop_eq_getElem_cons hlt, List.flatMap_cons, List.length_append] at hx ⊢
    have h := ih (i + 1) (by omega) (x + c[i].f2.length) (by omega)
    rw [show ((x : Int) + ((c[i].f2.length + ((c.drop (i + 1)).flatMap (fun x => x.f2)).length : Nat) : Int)) = ((x + c[i].f2.length : Nat) : Int) + (((c.drop (i + 1)).flatMap (fun x => x.f2)).length : Int) by omega]
    refine Ev.step (fun k => ?_) h
    simp only [laws_aboard.l1, rd69_nat c i hlt]
    rw [if_pos (by omega), if_pos (by omega), wrap_in (x := (i : Int) + 1) (by omega) (by omega), wrap_in (x := (x : Int) + (c[i].f2.length : Int)) (by omega) (by omega)]
    rfl
theorem aboardT_l (t : List Int) (a : Int) (c : List S69) (w : List S74) (ht : t.length ≤ 1048576) (hc : c.length ≤ 1048576) (hf : (c.flatMap (fun x => x.f2)).length ≤ 1048576) : ∀ (d i : Nat), i + d = t.length → ∀ x : Nat, x ≤ i → Ev (fun k => laws_aboard.l0 k (x : Int) (i : Int) t a c w) ((x : Int) + (((t.drop i).filter (fun x => !decide (x = 0))).length : Int) + ((c.flatMap (fun x => x.f2)).length : Int)) := by
  intro d
  induction d with
  | zero =>
    intro i hi x hx
    rw [List.drop_of_length_le (by omega)]
    have h := aboardC_l t a c w hc hf c.length 0 (by omega) x (by rw [List.drop_zero]; omega)
    rw [List.drop_zero] at h
    simp only [List.filter_nil, List.length_nil]
    rw [show (x : Int) + ((0 : Nat) : Int) + ((c.flatMap (fun x => x.f2)).length : Int) = (x : Int) + ((c.flatMap (fun x => x.f2)).length : Int) by omega]
    refine Ev.step (fun k => ?_) h
    simp only [laws_aboard.l0]
    rw [if_neg (by omega)]
    rfl
  | succ d ih =>
    intro i hi x hx
    have hlt : i < t.length := by omega
    have er : rd t (i : Int) = t[i] := by simp [rd, hlt]
    rw [List.drop_eq_getElem_cons hlt, List.filter_cons]
    by_cases h0 : t[i] = 0
    · rw [if_neg (by simp [h0])]
      refine Ev.step (fun k => ?_) (ih (i + 1) (by omega) x (by omega))
      simp only [laws_aboard.l0, er]
      rw [if_pos (by omega), if_pos (by omega), if_pos h0, wrap_in (x := (i : Int) + 1) (by omega) (by omega)]
      rfl
    · rw [if_pos (by simp [h0]), List.length_cons]
      have h := ih (i + 1) (by omega) (x + 1) (by omega)
      rw [show ((x + 1 : Nat) : Int) + (((t.drop (i + 1)).filter (fun x => !decide (x = 0))).length : Int) + ((c.flatMap (fun x => x.f2)).length : Int) = (x : Int) + ((((t.drop (i + 1)).filter (fun x => !decide (x = 0))).length + 1 : Nat) : Int) + ((c.flatMap (fun x => x.f2)).length : Int) by omega] at h
      refine Ev.step (fun k => ?_) h
      simp only [laws_aboard.l0, er]
      rw [if_pos (by omega), if_pos (by omega), if_neg h0, wrap_in (x := (i : Int) + 1) (by omega) (by omega), wrap_in (x := (x : Int) + 1) (by omega) (by omega)]
      rfl
theorem aboard_ev (t : List Int) (a : Int) (c : List S69) (w : List S74) (ht : t.length ≤ 1048576) (hc : c.length ≤ 1048576) (hf : (c.flatMap (fun x => x.f2)).length ≤ 1048576) : Ev (fun k => laws_aboard.f k t a c w) ((bagsL t c).length : Int) := by
  have h := aboardT_l t a c w ht hc hf t.length 0 (by omega) 0 (by omega)
  rw [List.drop_zero] at h
  unfold bagsL
  rw [List.length_append]
  refine Lt.ev (Lt.of h) fun k e => ?_
  have e' : laws_aboard.l0 k 0 0 t a c w = some (((0 : Nat) : Int) + ((t.filter (fun x => !decide (x = 0))).length : Int) + ((c.flatMap (fun x => x.f2)).length : Int)) := e
  simp only [laws_aboard.f, e']
  congr 1
  omega
theorem turns_l (e : List Int) (T : Int) (ch : List S69) (wa : List S74) (he : e.length ≤ 1048576) (K : List Int) : ∀ (d i : Nat), i + d = e.length → ∀ pre : List Int, pre.length ≤ i → K = pre ++ (e.drop i).filter (fun z => !decide (z = 0)) → Ev (fun k => laws_FnLoopTurns.l0 k K (pre.length : Int) (i : Int) e T ch wa) true := by
  intro d
  induction d with
  | zero =>
    intro i hi pre hp hK
    rw [List.drop_of_length_le (by omega), List.filter_nil, List.append_nil] at hK
    subst hK
    refine Ev.step (f := fun _ => some true) (fun k => ?_) (Ev.now _)
    simp only [laws_FnLoopTurns.l0]
    rw [if_neg (by omega)]
    simp
  | succ d ih =>
    intro i hi pre hp hK
    have hlt : i < e.length := by omega
    have er : rd e (i : Int) = e[i] := by simp [rd, hlt]
    have wr : wrap64 ((i : Int) + 1) = ((i + 1 : Nat) : Int) := by rw [wrap_in (by omega) (by omega)]; rfl
    rw [List.drop_eq_getElem_cons hlt, List.filter_cons] at hK
    by_cases h0 : e[i] = 0
    · rw [if_neg (by simp [h0])] at hK
      refine Ev.step (fun k => ?_) (ih (i + 1) (by omega) pre (by omega) hK)
      simp only [laws_FnLoopTurns.l0, er, wr]
      rw [if_pos (by omega), if_pos (by omega), if_pos h0]
    · rw [if_pos (by simp [h0])] at hK
      have h := ih (i + 1) (by omega) (pre ++ [e[i]]) (by rw [List.length_append]; simp; omega) (by rw [hK, List.append_assoc]; rfl)
      have hl : K.length = pre.length + (((e.drop (i + 1)).filter (fun z => !decide (z = 0))).length + 1) := by rw [hK, List.length_append, List.length_cons]
      have ek : rd K (pre.length : Int) = e[i] := by rw [hK]; simp [rd]
      rw [show ((pre ++ [e[i]]).length : Int) = (pre.length : Int) + 1 by simp] at h
      refine Ev.step (fun k => ?_) h
      simp only [laws_FnLoopTurns.l0, er, ek, wr]
      rw [if_pos (by omega), if_pos (by omega), if_neg h0, if_neg (by omega), if_pos (by omega), if_pos (by omega), if_pos trivial, wrap_in (x := (pre.length : Int) + 1) (by omega) (by omega)]
theorem asc_len : ∀ (l : List Int) (a n : Int), l.Pairwise (fun x y => x < y) → (∀ y ∈ l, a ≤ y ∧ y < n) → (l.length : Int) ≤ max 0 (n - a)
  | [], a, n, _, _ => by simp only [List.length_nil]; omega
  | x :: l, a, n, h, hb => by
    obtain ⟨h1, h2⟩ := List.pairwise_cons.1 h
    have hx := hb x List.mem_cons_self
    have ih := asc_len l (x + 1) n h2 (fun y hy => ⟨by have := h1 y hy; omega, (hb y (List.mem_cons_of_mem _ hy)).2⟩)
    rw [List.length_cons]
    omega
theorem lp_wants {t : List Int} {a : Int} {c : List S69} {w : List S74} (h : lpOk t a c w = true) : ∀ x ∈ w, x.f1.length ≤ 1048576 := fun x hx => by
  obtain ⟨h1, h2, h3, h4⟩ := lp_room h
  have := asc_len x.f1 0 c.length (h4 x hx).1 (h4 x hx).2
  omega
theorem flat_le (c : List S69) (M : Nat) (h : ∀ x ∈ c, x.f2.length ≤ M) : (c.flatMap (fun x => x.f2)).length ≤ c.length * M := by
  induction c with
  | nil => simp
  | cons x c ih =>
    have h1 := ih (fun y hy => h y (List.mem_cons_of_mem _ hy))
    have h2 := h x List.mem_cons_self
    rw [List.flatMap_cons, List.length_append, List.length_cons, Nat.succ_mul]
    omega
theorem vl_flat {n : Nat} {tr : List Int} {T : Int} {ch : List S69} {wa : List S74} (h : Vl n tr T ch wa) : (ch.flatMap (fun x => x.f2)).length ≤ 320 := by
  have h1 := flat_le ch 40 (fun x hx => by obtain ⟨_, _, _, _⟩ := h.chs x hx; omega)
  have h2 := h.c8
  omega
theorem lp_it {t : List Int} {a : Int} {c : List S69} {w : List S74} (h : lpOk t a c w = true) (d : Nat) : lpOk (itV w d t a c).1 (itV w d t a c).2.1 (itV w d t a c).2.2 w = true := by
  have hV := lp_Vl h (lp_wants h)
  have hI := itV_V d hV
  have hp := itV_perm d hV
  have hl := itV_len d hV
  have hf := fun j => itV_f0 (n := t.length) (wa := w) d (tr := t) (T := a) (ch := c) j
  have hb := lp_bags h
  simp only [lpOk, Bool.and_eq_true] at h
  obtain ⟨h1, h2, h3, h4⟩ := h
  rw [ch_eq, Bool.and_eq_true, decide_eq_true_eq] at h2
  have hm : (itV w d t a c).2.2.map (·.f0) = c.map (·.f0) := by
    apply List.ext_getElem (by rw [List.length_map, List.length_map]; exact hl)
    intro j q1 q2
    rw [List.length_map] at q1 q2
    have := (hf j).1
    rw [show (itV w d t a c).2.2.getD j z69 = (itV w d t a c).2.2[j] by simp [q1], show c.getD j z69 = c[j] by simp [q2]] at this
    rw [List.getElem_map, List.getElem_map]
    exact this
  generalize itV w d t a c = E at hI hp hl hf hm ⊢
  have e1 := hI.len
  have e2 := hI.n2
  have e3 := hI.n60
  have e4 := hI.t0
  have e5 := hI.t1
  have e6 := hI.c8
  have e7 := hI.w60
  simp only [lpOk, Bool.and_eq_true]
  refine ⟨?_, ?_, ?_, ?_⟩
  · simp only [szOk, Bool.and_eq_true, decide_eq_true_eq]
    exact ⟨⟨⟨⟨⟨by omega, by omega⟩, e4⟩, by omega⟩, e6⟩, e7⟩
  · rw [ch_eq, Bool.and_eq_true, decide_eq_true_eq, hm]
    refine ⟨List.all_eq_true.2 (fun x hx => ?_), h2.2⟩
    obtain ⟨q1, q2, q3, q4⟩ := hI.chs x hx
    simp only [chOk, Bool.and_eq_true, decide_eq_true_eq]
    exact ⟨⟨⟨⟨q1, by omega⟩, by omega⟩, q3⟩, q4⟩
  · rw [bg_eq, Bool.and_eq_true, decide_eq_true_eq]
    exact ⟨List.all_eq_true.2 (fun x hx => by simpa using hb.1 x (hp.mem_iff.1 hx)), hp.nodup_iff.2 hb.2⟩
  · rw [hl]
    exact h4
theorem tl_ok {t : List Int} {a : Int} {c : List S69} {w : List S74} (h : lpOk t a c w = true) (s : Int) (d : Nat) (hs : s = d) (hd : d ≤ 600) : tlV t a c w s = ((itV w d t a c).1, (itV w d t a c).2.1, (itV w d t a c).2.2, w) := by
  subst hs
  unfold tlV
  rw [if_pos ⟨h, by omega, by omega⟩, Int.toNat_natCast]
theorem loopTurns_main (t : List Int) (a : Int) (c : List S69) (w : List S74) (h : lpOk t a c w = true) (p q : Nat) (hp : p + t.length ≤ 600) (hq : p + q ≤ 600) : Ev (fun k => laws_FnLoopTurns.j0 k (p : Int) (q : Int) (t.length : Int) false t a c w) true := by
  have hwb := lp_wants h
  have hV := lp_Vl h hwb
  obtain ⟨s1, s2, s3, s4⟩ := vl_small hV
  have sf := vl_flat hV
  have hn60 := hV.n60
  have hflat : t.length + (c.flatMap (fun x => x.f2)).length ≤ 1048576 := by omega
  have ev := fun (s : Int) (d : Nat) (hs : s = d) (hd : d ≤ 600) => tl_ok h s d hs hd ▸ impl_tl_ev t a c w s s1 hflat s2 s3 s4 hwb
  have hX := ev (p : Int) p rfl (by omega)
  have hY := ev (t.length : Int) t.length rfl (by omega)
  have hZ := ev (wrap64 ((t.length : Int) + (p : Int))) (t.length + p) (by rw [wrap_in (by omega) (by omega)]; omega) (by omega)
  have hS := spec_tl_ev t a c w (p : Int) s1 hflat s2 s3 s4 hwb
  rw [tl_ok h (p : Int) p rfl (by omega)] at hS
  have hPQ := ev (wrap64 ((p : Int) + (q : Int))) (p + q) (by rw [wrap_in (by omega) (by omega)]; omega) (by omega)
  have hlp := impl_lp_ev t a c w s1 hflat hwb
  rw [h] at hlp
  have hI := itV_V p hV
  have hlx := lp_it h p
  have hyz : (itV w (t.length + p) t a c).1 = (itV w t.length t a c).1 := turn_tr hV _ (by omega)
  have hend : (endV w t a c).1 = (itV w t.length t a c).1 := turn_tr hV 600 (by omega)
  have hadd := itV_add w p q t a c
  have pX := (itV_perm p hV).length_eq
  have pZ := (itV_perm (t.length + p) hV).length_eq
  have hZV := itV_V (t.length + p) hV
  have hYV := itV_V t.length hV
  have hPV := itV_V (p + q) hV
  obtain ⟨x1, x2, x3, x4⟩ := vl_small hI
  have xf := vl_flat hI
  have hxl := hI.len
  have hlpx := impl_lp_ev (itV w p t a c).1 (itV w p t a c).2.1 (itV w p t a c).2.2 w x1 (by omega) hwb
  rw [hlx] at hlpx
  have hXQ := impl_tl_ev (itV w p t a c).1 (itV w p t a c).2.1 (itV w p t a c).2.2 w (q : Int) x1 (by omega) x2 x3 x4 hwb
  rw [tl_ok hlx (q : Int) q rfl (by omega), ← hadd] at hXQ
  have sX := sameLoop_ev (itV w p t a c).1 (itV w p t a c).2.1 (itV w p t a c).2.2 w x1 x2 x3 x4 hwb
  obtain ⟨y1, y2, y3, y4⟩ := vl_small hPV
  have sPQ := sameLoop_ev (itV w (p + q) t a c).1 (itV w (p + q) t a c).2.1 (itV w (p + q) t a c).2.2 w y1 y2 y3 y4 hwb
  obtain ⟨z1, z2, z3, z4⟩ := vl_small hYV
  obtain ⟨u1, u2, u3, u4⟩ := vl_small hZV
  have zf := vl_flat hZV
  have sYZ := sameInts_ev (itV w t.length t a c).1 z1
  have aX := aboard_ev (itV w p t a c).1 (itV w p t a c).2.1 (itV w p t a c).2.2 w x1 x2 (by omega)
  have aL := aboard_ev t a c w s1 s2 (by omega)
  have aZ := aboard_ev (itV w (t.length + p) t a c).1 (itV w (t.length + p) t a c).2.1 (itV w (t.length + p) t a c).2.2 w u1 u2 (by omega)
  rw [pX] at aX
  rw [pZ] at aZ
  rw [hyz] at aZ
  have iS := impl_sk_ev t a c w s1 hflat s2 s3 s4 hwb
  have pS := spec_sk_ev t a c w s1 hflat s2 s3 s4 hwb
  have eS : skV t a c w = (itV w t.length t a c).1.filter (fun z => !decide (z = 0)) := by
    unfold skV
    rw [if_pos h, hend]
  rw [eS] at iS pS
  have sK := sameInts_ev ((itV w t.length t a c).1.filter (fun z => !decide (z = 0))) (Nat.le_trans (List.length_filter_le _ _) z1)
  have l0 := turns_l (itV w t.length t a c).1 (itV w t.length t a c).2.1 (itV w t.length t a c).2.2 w z1 _ (itV w t.length t a c).1.length 0 (by omega) [] (by simp) (by simp; rfl)
  clear ev hadd pX pZ hV hI hZV hYV hPV hlx hend
  have j1 : Ev (fun k => laws_FnLoopTurns.j1 k false t a c w (itV w t.length t a c).1 (itV w t.length t a c).2.1 (itV w t.length t a c).2.2 w) true := Ev.round ((Lt.of iS).and ((Lt.of pS).and ((Lt.of sK).and (Lt.of l0)))) fun k ⟨e1, e2, e3, e4⟩ => by
    simp only [laws_FnLoopTurns.j1, e1, e2, Option.bind_some, e3]
    rw [if_neg (by simp), if_pos trivial]
    exact e4
  refine Ev.round ((Lt.of hX).and ((Lt.of hY).and ((Lt.of hZ).and ((Lt.of hlp).and ((Lt.of hlpx).and ((Lt.of hS).and ((Lt.of sX).and ((Lt.of hXQ).and ((Lt.of hPQ).and ((Lt.of sPQ).and ((Lt.of sYZ).and ((Lt.of aX).and ((Lt.of aL).and ((Lt.of aZ).and (Lt.of j1))))))))))))))) fun k ⟨e1, e2, e3, e4, e5, e6, e7, e8, e9, e10, e11, e12, e13, e14, e15⟩ => ?_
  simp only [laws_FnLoopTurns.j0, e1, e2, e3, e4, e5, e6, e7, e8, e9, e10, Option.bind_some, hyz, e11, e12, e13, e14, bne_self_eq_false]
  rw [if_neg (by simp), if_pos trivial, if_pos trivial, if_pos trivial, if_pos trivial, if_pos trivial, if_pos trivial]
  exact e15
end Go.Proofs.Ytmjhbdmicejppaa.Pu
