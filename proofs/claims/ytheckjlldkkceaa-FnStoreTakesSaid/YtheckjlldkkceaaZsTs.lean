import Derived.Test.YtheckjlldkkceaaZsHp
import Derived.Test.YtheckjlldkkceaaZsBu
import Derived.Test.YtheckjlldkkceaaZsPx11
import Derived.Test.YtheckjlldkkceaaZsPx24
import Derived.Test.YtheckjlldkkceaaZsPx25
namespace Go.Proofs.Ytheckjlldkkceaa.Pu
open Go.RowKit Go.Proofs.Ytheckjlldkkceaa.Px Go.Proofs.YtheckjlldkkceaaW.PrintWords Go.Proofs.YtheckjlldkkceaaW.PrintLast Go.Proofs.YtheckjlldkkceaaW.PrintMore
set_option linter.unusedVariables false
instance decS30 : DecidableEq S30 := fun a b => decidable_of_iff (a.f0 = b.f0 ∧ a.f1 = b.f1) ⟨fun h => by
  obtain ⟨h1, h2⟩ := h
  cases a; cases b
  simp only at h1 h2
  rw [h1, h2], fun h => by subst h; exact ⟨rfl, rfl⟩⟩
theorem sameKept_l (l : List S30) (hn : l.length ≤ 1048576) : ∀ (d i : Nat), i + d = l.length → Ev (fun k => laws_sameKept.l0 k l l (i : Int)) true := by
  intro d
  induction d with
  | zero =>
    intro i hi
    refine Ev.step (f := fun _ => some true) (fun k => ?_) (Ev.now _)
    simp only [laws_sameKept.l0]
    rw [if_neg (by omega)]
  | succ d ih =>
    intro i hi
    refine Ev.step (f := fun k => laws_sameKept.l0 k l l ((i + 1 : Nat) : Int)) (fun k => ?_) (ih (i + 1) (by omega))
    simp only [laws_sameKept.l0]
    rw [if_pos (by omega), if_pos (by omega), if_pos (by omega), wrap_in (by omega) (by omega)]
    simp
theorem sameKept_ev (l : List S30) (hn : l.length ≤ 1048576) : Ev (fun k => laws_sameKept.f k l l) true := by
  refine Ev.congr (f := fun k => laws_sameKept.l0 k l l ((0 : Nat) : Int)) (fun k => ?_) (sameKept_l l hn l.length 0 (by omega))
  simp only [laws_sameKept.f]
  simp
theorem sameStore_l (a : Int) (l : List (List S30)) (hn : l.length ≤ 1048576) (hb : ∀ x ∈ l, x.length ≤ 1048576) : ∀ (d i : Nat), i + d = l.length → Ev (fun k => laws_sameStore.l0 k (i : Int) a l a l) true := by
  intro d
  induction d with
  | zero =>
    intro i hi
    refine Ev.step (f := fun _ => some true) (fun k => ?_) (Ev.now _)
    simp only [laws_sameStore.l0]
    rw [if_neg (by omega)]
  | succ d ih =>
    intro i hi
    have hlt : i < l.length := by omega
    refine Ev.round ((Lt.of (sameKept_ev l[i] (hb _ (List.getElem_mem hlt)))).and (Lt.of (ih (i + 1) (by omega)))) fun k ⟨e1, e2⟩ => ?_
    simp only [laws_sameStore.l0]
    rw [if_pos (by omega), if_pos (by omega), if_pos (by omega), rdL2_nat l i hlt, e1]
    simp only [Option.bind_some]
    rw [if_pos trivial, wrap_in (by omega) (by omega)]
    exact e2
theorem sameStore_ev (a : Int) (l : List (List S30)) (hn : l.length ≤ 1048576) (hb : ∀ x ∈ l, x.length ≤ 1048576) : Ev (fun k => laws_sameStore.f k a l a l) true := by
  have hj : Ev (fun k => laws_sameStore.j0 k false a l a l) true := Ev.step (fun k => by
    simp only [laws_sameStore.j0]
    rw [if_neg (by simp)]
    rfl) (sameStore_l a l hn hb l.length 0 (by omega))
  refine Lt.ev (Lt.of hj) fun k e => ?_
  simp only [laws_sameStore.f]
  rw [if_pos trivial]
  simpa using e
theorem sameHops_l (l : List S78) (hn : l.length ≤ 1048576) : ∀ (d i : Nat), i + d = l.length → Ev (fun k => laws_sameHops.l0 k l l (i : Int)) true := by
  intro d
  induction d with
  | zero =>
    intro i hi
    refine Ev.step (f := fun _ => some true) (fun k => ?_) (Ev.now _)
    simp only [laws_sameHops.l0]
    rw [if_neg (by omega)]
  | succ d ih =>
    intro i hi
    refine Ev.step (f := fun k => laws_sameHops.l0 k l l ((i + 1 : Nat) : Int)) (fun k => ?_) (ih (i + 1) (by omega))
    simp only [laws_sameHops.l0]
    rw [if_pos (by omega), if_pos (by omega), if_pos (by omega), wrap_in (by omega) (by omega)]
    simp
theorem sameHops_ev (l : List S78) (hn : l.length ≤ 1048576) : Ev (fun k => laws_sameHops.f k l l) true := by
  refine Ev.congr (f := fun k => laws_sameHops.l0 k l l ((0 : Nat) : Int)) (fun k => ?_) (sameHops_l l hn l.length 0 (by omega))
  simp only [laws_sameHops.f]
  simp
theorem kept_l (a : Int) (l : List (List S30)) (hl : l.length ≤ 1048576) (hf : l.flatten.length ≤ 1048576) : ∀ (d i : Nat), i + d = l.length → ∀ c : Int, 0 ≤ c → c + (l.drop i).flatten.length = l.flatten.length → Ev (fun k => laws_kept.l0 k c (i : Int) a l) (l.flatten.length : Int) := by
  intro d
  induction d with
  | zero =>
    intro i hi c h0 hc
    rw [List.drop_of_length_le (by omega)] at hc
    have ec : c = (l.flatten.length : Int) := by simpa using hc
    rw [ec]
    refine Ev.step (f := fun _ => some (l.flatten.length : Int)) (fun k => ?_) (Ev.now _)
    simp only [laws_kept.l0]
    rw [if_neg (by omega)]
  | succ d ih =>
    intro i hi c h0 hc
    have hlt : i < l.length := by omega
    rw [List.drop_eq_getElem_cons hlt, List.flatten_cons, List.length_append] at hc
    refine Ev.step (fun k => ?_) (ih (i + 1) (by omega) (c + (l[i].length : Int)) (by omega) (by omega))
    simp only [laws_kept.l0]
    rw [if_pos (by omega), if_pos (by omega), rdL2_nat l i hlt, wrap_in (x := c + (l[i].length : Int)) (by omega) (by omega), wrap_in (x := (i : Int) + 1) (by omega) (by omega)]
    rfl
theorem kept_ev (a : Int) (l : List (List S30)) (hl : l.length ≤ 1048576) (hf : l.flatten.length ≤ 1048576) : Ev (fun k => laws_kept.f k a l) (l.flatten.length : Int) :=
  Ev.congr (fun k => by simp only [laws_kept.f]; rfl) (kept_l a l hl hf l.length 0 (by omega) 0 (by omega) (by simp))
theorem in_l1 (a : Int) (l : List (List S30)) (y : S30) (i : Nat) (hi : i < l.length) (hm : l[i].length ≤ 1048576) (r : Bool) : ∀ (d j : Nat), j + d = l[i].length →
    (y ∈ l[i].drop j → r = true) → (y ∉ l[i].drop j → Ev (fun k => laws_inStore.l0 k (wrap64 ((i : Int) + 1)) a l y.f0 y.f1) r) → Ev (fun k => laws_inStore.l1 k (i : Int) (j : Int) a l y.f0 y.f1) r := by
  have ei : rd_L2 l (i : Int) = l[i] := rdL2_nat l i hi
  intro d
  induction d with
  | zero =>
    intro j hj h1 h2
    rw [List.drop_of_length_le (by omega)] at h2
    refine Ev.step (fun k => ?_) (h2 (by simp))
    simp only [laws_inStore.l1, ei]
    rw [if_pos (by omega), if_pos (by omega), if_neg (by omega)]
  | succ d ih =>
    intro j hj h1 h2
    have hjl : j < l[i].length := by omega
    have ej : rd_T30 l[i] (j : Int) = l[i][j] := rd30_nat l[i] j hjl
    rw [List.drop_eq_getElem_cons hjl] at h1 h2
    by_cases hb : l[i][j] = y
    · have hr := h1 (by rw [hb]; simp)
      refine Ev.step (f := fun _ => some r) (fun k => ?_) (Ev.now _)
      simp only [laws_inStore.l1, ei, ej, hb]
      rw [if_pos (by omega), if_pos (by omega), if_pos (by omega), if_pos (by omega), hr]
      simp
    · have hb' : ((l[i][j].f0 == y.f0) && (l[i][j].f1 == y.f1)) = false := by
        rw [Bool.eq_false_iff]
        intro hh
        rw [Bool.and_eq_true, beq_iff_eq, beq_iff_eq] at hh
        apply hb
        obtain ⟨u1, u2⟩ := hh
        generalize l[i][j] = z at u1 u2
        cases z; cases y
        simp only at u1 u2
        rw [u1, u2]
      refine Ev.step (fun k => ?_) (ih (j + 1) (by omega) (fun h => h1 (List.mem_cons_of_mem _ h)) (fun h => h2 (fun hh => by
        rcases List.mem_cons.1 hh with hh | hh
        · exact hb hh.symm
        · exact h hh)))
      simp only [laws_inStore.l1, ei, ej]
      rw [if_pos (by omega), if_pos (by omega), if_pos (by omega), if_pos (by omega), hb', wrap_in (x := (j : Int) + 1) (by omega) (by omega)]
      simp
theorem in_l0 (a : Int) (l : List (List S30)) (y : S30) (hl : l.length ≤ 1048576) (hm : ∀ x ∈ l, x.length ≤ 1048576) : ∀ (d i : Nat), i + d = l.length → Ev (fun k => laws_inStore.l0 k (i : Int) a l y.f0 y.f1) (decide (y ∈ (l.drop i).flatten)) := by
  intro d
  induction d with
  | zero =>
    intro i hi
    rw [List.drop_of_length_le (by omega)]
    refine Ev.step (f := fun _ => some false) (fun k => ?_) (by simpa using Ev.now _)
    simp only [laws_inStore.l0]
    rw [if_neg (by omega)]
  | succ d ih =>
    intro i hi
    have hlt : i < l.length := by omega
    refine Ev.step (fun k => ?_) (in_l1 a l y i hlt (hm _ (List.getElem_mem hlt)) _ l[i].length 0 (by omega) (fun h => ?_) (fun h => ?_))
    · simp only [laws_inStore.l0]
      rw [if_pos (by omega)]
      rfl
    · rw [List.drop_zero] at h
      rw [List.drop_eq_getElem_cons hlt, List.flatten_cons]
      exact decide_eq_true (List.mem_append_left _ h)
    · rw [List.drop_zero] at h
      rw [wrap_in (x := (i : Int) + 1) (by omega) (by omega), List.drop_eq_getElem_cons hlt, List.flatten_cons]
      have e : decide (y ∈ l[i] ++ (l.drop (i + 1)).flatten) = decide (y ∈ (l.drop (i + 1)).flatten) := decide_eq_decide.2 ⟨fun hh => by
        rcases List.mem_append.1 hh with hh | hh
        · exact absurd hh h
        · exact hh, fun hh => List.mem_append_right _ hh⟩
      rw [e]
      exact ih (i + 1) (by omega)
theorem in_ev (a : Int) (l : List (List S30)) (y : S30) (hl : l.length ≤ 1048576) (hm : ∀ x ∈ l, x.length ≤ 1048576) : Ev (fun k => laws_inStore.f k a l y.f0 y.f1) (decide (y ∈ l.flatten)) :=
  Ev.congr (fun k => by simp only [laws_inStore.f]; rfl) (by simpa using in_l0 a l y hl hm l.length 0 (by omega))
section
variable {a : Int} {l : List (List S30)} (hs : stOk a l = true)
include hs
theorem gone {x : S30} {l' : List (List S30)} (hp : l.flatten.Perm (x :: l'.flatten)) {y : S30} (hy : y ∈ l.flatten) : decide (y ∈ l'.flatten) = !(y.f0 == x.f0) := by
  have hx : x ∈ l.flatten := hp.mem_iff.2 (by simp)
  have hn : x.f0 ∉ l'.flatten.map (·.f0) := by
    have h7 := (st_in hs).2.2.2.2.2.2
    unfold bags at h7
    have := (hp.map (·.f0)).nodup_iff.1 h7
    rw [List.map_cons, List.nodup_cons] at this
    exact this.1
  by_cases e : y.f0 = x.f0
  · have := bag_one hs hy hx e
    subst this
    rw [decide_eq_false (fun h => hn (List.mem_map_of_mem h))]
    simp
  · have h2 : y ∈ l'.flatten := by
      rcases List.mem_cons.1 (hp.mem_iff.1 hy) with h | h
      · exact absurd (by rw [h]) e
      · exact h
    rw [decide_eq_true h2]
    simp [e]
theorem takes_l3 (i kk : Int) (x : S30) {l' : List (List S30)} (hs' : stOk a l' = true) (hp : l.flatten.Perm (x :: l'.flatten)) (j : Nat) (hj : j < l.length) (hn : Ev (fun k => laws_FnStoreTakes.l2 k i kk x.f0 ((j + 1 : Nat) : Int) a l a l') true) :
    ∀ (d m : Nat), m + d = l[j].length → Ev (fun k => laws_FnStoreTakes.l3 k i kk x.f0 (j : Int) (m : Int) a l a l') true := by
  have ej : rd_L2 l (j : Int) = l[j] := rdL2_nat l j hj
  have hlj := (st_small hs).2 _ (List.getElem_mem hj)
  have hll := (st_small hs).1
  intro d
  induction d with
  | zero =>
    intro m hm
    refine Ev.step (fun k => ?_) hn
    simp only [laws_FnStoreTakes.l3, ej]
    rw [if_pos (by omega), if_pos (by omega), if_neg (by omega), wrap_in (x := (j : Int) + 1) (by omega) (by omega)]
    rfl
  | succ d ih =>
    intro m hm
    have hml : m < l[j].length := by omega
    have em : rd_T30 l[j] (m : Int) = l[j][m] := rd30_nat l[j] m hml
    have hin := in_ev a l' l[j][m] (st_small hs').1 (st_small hs').2
    rw [gone hs hp (lane_flat hj (List.getElem_mem hml))] at hin
    refine Ev.round ((Lt.of hin).and (Lt.of (ih (m + 1) (by omega)))) fun k ⟨e1, e2⟩ => ?_
    simp only [laws_FnStoreTakes.l3, ej, em]
    rw [if_pos (by omega), if_pos (by omega), if_pos (by omega), if_pos (by omega), e1]
    simp only [Option.bind_some]
    rw [if_neg (by cases (l[j][m].f0 == x.f0) <;> simp), wrap_in (x := (m : Int) + 1) (by omega) (by omega)]
    exact e2
theorem takes_l2 (i kk : Int) (x : S30) {l' : List (List S30)} (hs' : stOk a l' = true) (hp : l.flatten.Perm (x :: l'.flatten)) (hn : Ev (fun k => laws_FnStoreTakes.l1 k i (wrap64 (kk + 1)) a l) true) :
    ∀ (d j : Nat), j + d = l.length → Ev (fun k => laws_FnStoreTakes.l2 k i kk x.f0 (j : Int) a l a l') true := by
  intro d
  induction d with
  | zero =>
    intro j hj
    refine Ev.step (fun k => ?_) hn
    simp only [laws_FnStoreTakes.l2]
    rw [if_neg (by omega)]
  | succ d ih =>
    intro j hj
    have hlt : j < l.length := by omega
    refine Ev.step (fun k => ?_) (takes_l3 hs i kk x hs' hp j hlt (ih (j + 1) (by omega)) l[j].length 0 (by omega))
    simp only [laws_FnStoreTakes.l2]
    rw [if_pos (by omega)]
    rfl
theorem takes_one (i kk : Nat) (hi : i < l.length) (hk : kk < l[i].length) (hn : Ev (fun k => laws_FnStoreTakes.l1 k (i : Int) ((kk + 1 : Nat) : Int) a l) true) : Ev (fun k => laws_FnStoreTakes.l1 k (i : Int) (kk : Int) a l) true := by
  have ei : rd_L2 l (i : Int) = l[i] := rdL2_nat l i hi
  have ek : rd_T30 l[i] (kk : Int) = l[i][kk] := rd30_nat l[i] kk hk
  have e : l[i] = l[i].take kk ++ l[i][kk] :: l[i].drop (kk + 1) := by rw [← List.drop_eq_getElem_cons hk, List.take_append_drop]
  obtain ⟨hl, hml⟩ := st_small hs
  have hli := hml _ (List.getElem_mem hi)
  have hw : wrap64 ((kk : Int) + 1) = ((kk + 1 : Nat) : Int) := wrap_in (x := (kk : Int) + 1) (by omega) (by omega)
  generalize hx : l[i][kk] = x at e ek
  obtain ⟨t1, t2⟩ := take_yes hs hi e
  have hql : (l[i].drop (kk + 1)).length = l[i].length - 1 - kk := by rw [List.length_drop]; omega
  cases ht : tk a i (l[i].drop (kk + 1)).length l [] with
  | none =>
    rw [ht] at t1 t2
    have hss := sameStore_ev a l hl hml
    have hj : Ev (fun k => laws_FnStoreTakes.j2 k (i : Int) (kk : Int) x.f0 [] false false a l a l) true := by
      refine Ev.round ((Lt.of hss).and (Lt.of hn)) fun k ⟨e1, e2⟩ => ?_
      simp only [laws_FnStoreTakes.j2, e1, Option.bind_some]
      rw [if_neg (by simp), if_neg (by simp), if_pos trivial, hw]
      exact e2
    refine Ev.round ((Lt.of t1).and ((Lt.of t2).and ((Lt.of hss).and ((Lt.of (sameHops_ev [] (by simp))).and ((Lt.of (impl_st_ev a l hl (by have := flat_small hs; omega))).and (Lt.of hj)))))) fun k ⟨f1, f2, f3, f4, f5, f6⟩ => ?_
    simp only [laws_FnStoreTakes.l1, ei, ek]
    rw [if_pos (by omega), if_pos (by omega), if_pos (by omega), if_pos (by omega), f1]
    simp only [Option.bind_some, f2, tkd]
    rw [if_neg (by simp), f3]
    simp only [Option.bind_some]
    rw [if_pos trivial, f4]
    simp only [Option.bind_some]
    rw [if_pos trivial, f5, hs]
    simpa using f6
  | some r =>
    obtain ⟨l', h'⟩ := r
    rw [ht] at t1 t2
    obtain ⟨r1, r2, r3, r4, r5⟩ := tk_is _ l [] _ _ x hs hi e rfl l' h' ht
    rw [List.length_nil, Nat.zero_add, hql] at r3
    have hss := sameStore_ev a l' (st_small r1).1 (st_small r1).2
    have hfl := flat_small hs
    have hfl' := flat_small r1
    have hlen := r2.length_eq
    rw [List.length_cons] at hlen
    have hj3 : Ev (fun k => laws_FnStoreTakes.j3 k (i : Int) (kk : Int) x.f0 false a l a l') true := by
      refine Ev.step (fun k => ?_) (takes_l2 hs (i : Int) (kk : Int) x r1 r2 (by rw [hw]; exact hn) l.length 0 (by omega))
      simp only [laws_FnStoreTakes.j3]
      rw [if_neg (by simp)]
      rfl
    have hj : Ev (fun k => laws_FnStoreTakes.j2 k (i : Int) (kk : Int) x.f0 h' true false a l a l') true := by
      refine Ev.round ((Lt.of (kept_ev a l' (st_small r1).1 (by omega))).and ((Lt.of (kept_ev a l hl (by omega))).and (Lt.of hj3))) fun k ⟨e1, e2, e3⟩ => ?_
      simp only [laws_FnStoreTakes.j2, ei, e1, e2, Option.bind_some]
      rw [if_neg (by simp), if_pos trivial, if_pos (by omega), if_pos (by omega), wrap_in (x := (l[i].length : Int) - 1) (by omega) (by omega), wrap_in (x := (l[i].length : Int) - 1 - (kk : Int)) (by omega) (by omega), if_pos (by omega), wrap_in (x := (l.flatten.length : Int) - 1) (by omega) (by omega)]
      have : ((l'.flatten.length : Int) != (l.flatten.length : Int) - 1) = false := by
        rw [bne_eq_false_iff_eq]
        omega
      rw [this]
      exact e3
    refine Ev.round ((Lt.of t1).and ((Lt.of t2).and ((Lt.of hss).and ((Lt.of (sameHops_ev h' (by omega))).and ((Lt.of (impl_st_ev a l' (st_small r1).1 (by omega))).and (Lt.of hj)))))) fun k ⟨f1, f2, f3, f4, f5, f6⟩ => ?_
    simp only [laws_FnStoreTakes.l1, ei, ek]
    rw [if_pos (by omega), if_pos (by omega), if_pos (by omega), if_pos (by omega), f1]
    simp only [Option.bind_some, f2, tkd]
    rw [if_neg (by simp), f3]
    simp only [Option.bind_some]
    rw [if_pos trivial, f4]
    simp only [Option.bind_some]
    rw [if_pos trivial, f5, r1]
    simpa using f6
theorem takes_l1 (i : Nat) (hi : i < l.length) (hn : Ev (fun k => laws_FnStoreTakes.l0 k ((i + 1 : Nat) : Int) a l) true) : ∀ (d kk : Nat), kk + d = l[i].length → Ev (fun k => laws_FnStoreTakes.l1 k (i : Int) (kk : Int) a l) true := by
  have ei : rd_L2 l (i : Int) = l[i] := rdL2_nat l i hi
  have hl := (st_small hs).1
  intro d
  induction d with
  | zero =>
    intro kk hk
    refine Ev.step (fun k => ?_) hn
    simp only [laws_FnStoreTakes.l1, ei]
    rw [if_pos (by omega), if_pos (by omega), if_neg (by omega), wrap_in (x := (i : Int) + 1) (by omega) (by omega)]
    rfl
  | succ d ih =>
    intro kk hk
    exact takes_one hs i kk hi (by omega) (ih (kk + 1) (by omega))
theorem takes_end : Ev (fun k => laws_FnStoreTakes.l0 k (l.length : Int) a l) true := by
  obtain ⟨hl, hml⟩ := st_small hs
  have hfl := flat_small hs
  obtain ⟨m, ok, h1, h2, h3⟩ := hops_both a l hl (by omega)
  have hb1 := impl_bu_ev a l hl (by omega)
  have hb2 := spec_bu_ev a l
  have hbu : ok = true → buried a l ≤ m := fun hok => by
    obtain ⟨g1, g2⟩ := h3 hs hok
    have := dig_bus g2 (fun x hx => (okK_in ((st_in hs).2.2.2.2.2.1 x hx)).2.2)
    unfold buried
    rw [if_pos hs]
    omega
  refine Ev.round ((Lt.of h1).and ((Lt.of h2).and ((Lt.of hb1).and ((Lt.of hb2).and ((Lt.of (impl_nx_ev a l hl (by omega))).and (Lt.of (spec_nx_ev a l))))))) fun k ⟨e1, e2, e3, e4, e5, e6⟩ => ?_
  simp only [laws_FnStoreTakes.l0, e1, e2, e3, e4, e5, e6, Option.bind_some]
  rw [if_neg (by omega), if_pos (by simp), if_pos trivial, if_pos trivial, if_pos trivial]
  cases hok : ok with
  | true =>
    rw [if_pos rfl, decide_eq_true (hbu hok)]
  | false => rw [if_neg (by simp)]
theorem takes_l0 : ∀ (d i : Nat), i + d = l.length → Ev (fun k => laws_FnStoreTakes.l0 k (i : Int) a l) true := by
  intro d
  induction d with
  | zero =>
    intro i hi
    have ei : i = l.length := by omega
    subst ei
    exact takes_end hs
  | succ d ih =>
    intro i hi
    have hlt : i < l.length := by omega
    refine Ev.step (fun k => ?_) (takes_l1 hs i hlt (ih (i + 1) (by omega)) l[i].length 0 (by omega))
    simp only [laws_FnStoreTakes.l0]
    rw [if_pos (by omega)]
    rfl
end
theorem takes_ev (a : Int) (l : List (List S30)) : Ev (fun k => laws_FnStoreTakes.f k a l) true := by
  by_cases h : stOk a l = true
  · refine Lt.ev ((Lt.of (spec_st_ev a l)).and (Lt.of (takes_l0 h l.length 0 (by omega)))) fun k ⟨e1, e2⟩ => ?_
    simp only [laws_FnStoreTakes.f, e1, Option.bind_some]
    rw [if_pos h]
    exact e2
  · refine Lt.ev (Lt.of (spec_st_ev a l)) fun k e1 => ?_
    simp only [laws_FnStoreTakes.f, e1, Option.bind_some]
    rw [if_neg h]
end Go.Proofs.Ytheckjlldkkceaa.Pu
