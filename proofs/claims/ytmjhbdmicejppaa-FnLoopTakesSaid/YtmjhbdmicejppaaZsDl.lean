import Derived.Test.YtmjhbdmicejppaaZsDr
import Derived.Test.YtmjhbdmicejppaaZsPx6
import Derived.Test.YtmjhbdmicejppaaZsPx7
namespace Go.Proofs.Ytmjhbdmicejppaa.Pu
open Go.RowKit Go.Proofs.Ytmjhbdmicejppaa.Px Go.Proofs.YtmjhbdmicejppaaW.PrintWords Go.Proofs.YtmjhbdmicejppaaW.PrintLast Go.Proofs.YtmjhbdmicejppaaW.PrintMore
set_option linter.unusedVariables false
set_option linter.unusedSectionVars false
def SmC (c : List S69) : Prop := ∀ x ∈ c, x.f2.length ≤ 1
def SmW (w : List S74) : Prop := ∀ x ∈ w, x.f1.length ≤ 4
theorem SmC.snoc {c : List S69} (h : SmC c) {x : S69} (hx : x.f2.length ≤ 1) : SmC (c ++ [x]) := fun y hy => by
  rcases List.mem_append.1 hy with q | q
  · exact h y q
  · rw [List.mem_singleton.1 q]; exact hx
theorem SmW.snoc {c : List S74} (h : SmW c) {x : S74} (hx : x.f1.length ≤ 4) : SmW (c ++ [x]) := fun y hy => by
  rcases List.mem_append.1 hy with q | q
  · exact h y q
  · rw [List.mem_singleton.1 q]; exact hx
def SmL (b : List Int) (r : List Int × Int × List S69 × List S74 × Int × Int) : Prop :=
  2 ≤ r.1.length ∧ r.1.length ≤ 100 ∧ r.2.2.1.length ≤ 4 ∧ SmC r.2.2.1 ∧ r.2.2.2.1.length ≤ 7 ∧ SmW r.2.2.2.1 ∧ Cur b r.2.2.2.2.1
section
variable (b : List Int) (t : List Int) (a : Int) (ht : 2 ≤ t.length) (ht2 : t.length ≤ 100)
include ht ht2
theorem dl_l4 (c : List S69) (hc : c.length ≤ 4) (hcs : SmC c) (j : Nat) (w : List S74) (hw : w.length ≤ 6) (hws : SmW w)
    (next : ∀ (i h : Int), Cur b i → ∀ w' : List S74, w'.length ≤ w.length + 1 → SmW w' → ∃ r, Ev (fun k => spec_l05Loop.l3 k (wrap64 ((j : Int) + 1)) b i h t a c w') r ∧ SmL b r) (x : Int) :
    ∀ (d m : Nat), m + d = c.length → ∀ (i h : Int), Cur b i → ∀ acc : List Int, acc.length ≤ m → ∃ r, Ev (fun k => spec_l05Loop.l4 k (j : Int) (m : Int) b i h t a c w x acc) r ∧ SmL b r := by
  intro d
  induction d with
  | zero =>
    intro m hm i h hi acc ha
    obtain ⟨o, i', h', e, hi'⟩ := once_ok b i h hi 6
    cases o with
    | true =>
      obtain ⟨r, hr, hs⟩ := next i' h' hi' w (by omega) hws
      refine ⟨r, Ev.step (fun k => ?_) hr, hs⟩
      simp only [spec_l05Loop.l4, e, Option.bind_some]
      rw [if_neg (by omega), if_pos trivial]
    | false =>
      obtain ⟨r, hr, hs⟩ := next i' h' hi' (w ++ [⟨x, acc⟩]) (by rw [List.length_append]; simp) (hws.snoc (by show acc.length ≤ 4; omega))
      refine ⟨r, Ev.step (fun k => ?_) hr, hs⟩
      simp only [spec_l05Loop.l4, e, Option.bind_some]
      rw [if_neg (by omega), if_neg (by simp), if_pos (by omega)]
  | succ d ih =>
    intro m hm i h hi acc ha
    obtain ⟨o, i', h', e, hi'⟩ := once_ok b i h hi 3
    have wr : wrap64 ((m : Int) + 1) = ((m + 1 : Nat) : Int) := by rw [wrap_in (by omega) (by omega)]; rfl
    cases o with
    | true =>
      obtain ⟨r, hr, hs⟩ := ih (m + 1) (by omega) i' h' hi' acc (by omega)
      refine ⟨r, Ev.step (fun k => ?_) hr, hs⟩
      simp only [spec_l05Loop.l4, e, Option.bind_some, wr]
      rw [if_pos (by omega), if_pos trivial]
    | false =>
      obtain ⟨r, hr, hs⟩ := ih (m + 1) (by omega) i' h' hi' (acc ++ [(m : Int)]) (by rw [List.length_append]; simp; omega)
      refine ⟨r, Ev.step (fun k => ?_) hr, hs⟩
      simp only [spec_l05Loop.l4, e, Option.bind_some, wr]
      rw [if_pos (by omega), if_neg (by simp), if_pos (by omega)]
theorem dl_l3 (c : List S69) (hc : c.length ≤ 4) (hcs : SmC c) : ∀ (d j : Nat), j + d = 8 → ∀ (i h : Int), Cur b i → ∀ w : List S74, w.length + d ≤ 7 → SmW w → ∃ r, Ev (fun k => spec_l05Loop.l3 k (j : Int) b i h t a c w) r ∧ SmL b r := by
  intro d
  induction d with
  | zero =>
    intro j hj i h hi w hw hws
    refine ⟨(t, a, c, w, i, h), Ev.step (f := fun _ => some (t, a, c, w, i, h)) (fun k => ?_) (Ev.now _), ht, ht2, hc, hcs, by show w.length ≤ 7; omega, hws, hi⟩
    simp only [spec_l05Loop.l3]
    rw [if_neg (by omega)]
  | succ d ih =>
    intro j hj i h hi w hw hws
    have wr : wrap64 ((j : Int) + 1) = ((j + 1 : Nat) : Int) := by rw [wrap_in (by omega) (by omega)]; rfl
    obtain ⟨r, hr, hs⟩ := dl_l4 b t a ht ht2 c hc hcs j w (by omega) hws (fun i h hi w' hw' hws' => by rw [wr]; exact ih (j + 1) (by omega) i h hi w' (by omega) hws') (j : Int) c.length 0 (by omega) i h hi [] (by simp)
    refine ⟨r, Ev.step (fun k => ?_) hr, hs⟩
    simp only [spec_l05Loop.l3]
    rw [if_pos (by omega)]
    rfl
theorem dl_l2 (n x6 : Int) (m : Nat) (c : List S69) (hc : c.length ≤ 3) (hcs : SmC c) (i h : Int) (x1 x2 : Int) (l : List Int) (hl : l.length ≤ 1)
    (next : ∀ c' : List S69, c'.length ≤ c.length + 1 → SmC c' → ∃ r, Ev (fun k => spec_l05Loop.l1 k n x6 (wrap64 (((m + 1 : Nat) : Int) - 1)) b i h t a c') r ∧ SmL b r) :
    ∀ (d j : Nat), j + d = c.length → ∀ g : Bool, ∃ r, Ev (fun k => spec_l05Loop.l2 k n x6 ((m + 1 : Nat) : Int) g (j : Int) b i h t a c x1 x2 l) r ∧ SmL b r := by
  intro d
  induction d with
  | zero =>
    intro j hj g
    cases g with
    | true =>
      obtain ⟨r, hr, hs⟩ := next c (by omega) hcs
      refine ⟨r, Ev.step (fun k => ?_) hr, hs⟩
      simp only [spec_l05Loop.l2]
      rw [if_neg (by omega), if_pos trivial]
    | false =>
      obtain ⟨r, hr, hs⟩ := next (c ++ [⟨x1, x2, l⟩]) (by rw [List.length_append]; simp) (hcs.snoc hl)
      refine ⟨r, Ev.step (fun k => ?_) hr, hs⟩
      simp only [spec_l05Loop.l2]
      rw [if_neg (by omega), if_neg (by simp), if_pos (by omega)]
  | succ d ih =>
    intro j hj g
    have wr : wrap64 ((j : Int) + 1) = ((j + 1 : Nat) : Int) := by rw [wrap_in (by omega) (by omega)]; rfl
    cases g with
    | true =>
      obtain ⟨r, hr, hs⟩ := ih (j + 1) (by omega) true
      refine ⟨r, Ev.step (fun k => ?_) hr, hs⟩
      simp only [spec_l05Loop.l2, wr]
      rw [if_pos (by omega), if_pos trivial]
    | false =>
      obtain ⟨r, hr, hs⟩ := ih (j + 1) (by omega) (((rd_T69 c (j : Int)).f0) == x1)
      refine ⟨r, Ev.step (fun k => ?_) hr, hs⟩
      simp only [spec_l05Loop.l2, wr]
      rw [if_pos (by omega), if_neg (by simp), if_pos (by omega)]
theorem dl_l1 (n : Int) (hn : n ≠ 0) (x6 : Int) : ∀ (m : Nat) (i h : Int), Cur b i → ∀ c : List S69, c.length + m ≤ 4 → m ≤ 3 → SmC c → ∃ r, Ev (fun k => spec_l05Loop.l1 k n x6 (m : Int) b i h t a c) r ∧ SmL b r := by
  intro m
  induction m with
  | zero =>
    intro i h hi c hc hm hcs
    obtain ⟨r, hr, hs⟩ := dl_l3 b t a ht ht2 c (by omega) hcs 7 1 (by omega) i h hi [] (by simp) (fun x hx => by cases hx)
    refine ⟨r, Ev.step (fun k => ?_) hr, hs⟩
    simp only [spec_l05Loop.l1]
    rw [if_neg (by omega)]
    rfl
  | succ m ih =>
    intro i h hi c hc hm hcs
    obtain ⟨x, i', h', e, p0, _, _, hi'⟩ := below_ok b i h hi 4
    have wr : wrap64 (((m + 1 : Nat) : Int) - 1) = (m : Int) := by rw [wrap_in (by omega) (by omega)]; omega
    have j3 : ∀ (i h : Int), Cur b i → ∀ (x1 x2 : Int) (l : List Int), l.length ≤ 1 → ∃ r, Ev (fun k => spec_l05Loop.j3 k n x6 ((m + 1 : Nat) : Int) b i h t a c x1 x2 l) r ∧ SmL b r := fun i h hi x1 x2 l hl => by
      obtain ⟨r, hr, hs⟩ := dl_l2 b t a ht ht2 n x6 m c (by omega) hcs i h x1 x2 l hl (fun c' hc' hcs' => by rw [wr]; exact ih i h hi c' (by omega) (by omega) hcs') c.length 0 (by omega) false
      exact ⟨r, Ev.step (fun k => by simp only [spec_l05Loop.j3]; rfl) hr, hs⟩
    have j2 : ∀ (i h : Int), Cur b i → ∀ (x1 x2 : Int) (g : Bool), ∃ r, Ev (fun k => spec_l05Loop.j2 k n x6 ((m + 1 : Nat) : Int) g b i h t a c x1 x2) r ∧ SmL b r := fun i h hi x1 x2 g => by
      cases g with
      | true =>
        obtain ⟨r, hr, hs⟩ := j3 i h hi x1 x2 [wrap64 (100 + ((m + 1 : Nat) : Int))] (by simp)
        exact ⟨r, Ev.step (fun k => by simp only [spec_l05Loop.j2]; rw [if_pos trivial]) hr, hs⟩
      | false =>
        obtain ⟨r, hr, hs⟩ := j3 i h hi x1 x2 [] (by simp)
        exact ⟨r, Ev.step (fun k => by simp only [spec_l05Loop.j2]; rw [if_neg (by simp)]) hr, hs⟩
    by_cases hx : x > 0
    · obtain ⟨o, i2, h2, e2, hi2⟩ := once_ok b i' h' hi' 3
      obtain ⟨r, hr, hs⟩ := j2 i2 h2 hi2 (Int.tmod (wrap64 (x6 + (wrap64 (((m + 1 : Nat) : Int) * (wrap64 (1 + (wrap64 (Int.tdiv n 4)))))))) n) x o
      refine ⟨r, Ev.step (fun k => ?_) hr, hs⟩
      simp only [spec_l05Loop.l1, e, Option.bind_some, e2]
      rw [if_pos (by omega), if_neg hn, if_pos hx]
    · obtain ⟨r, hr, hs⟩ := j2 i' h' hi' (Int.tmod (wrap64 (x6 + (wrap64 (((m + 1 : Nat) : Int) * (wrap64 (1 + (wrap64 (Int.tdiv n 4)))))))) n) x false
      refine ⟨r, Ev.step (fun k => ?_) hr, hs⟩
      simp only [spec_l05Loop.l1, e, Option.bind_some]
      rw [if_pos (by omega), if_neg hn, if_neg hx]
end
theorem dl_l0 (b : List Int) (a : Int) (n : Nat) (hn : 2 ≤ n) (hn2 : n ≤ 100) : ∀ (m : Nat), m ≤ 100 → ∀ (i h : Int), Cur b i → ∀ t : List Int, t.length = n → ∃ r, Ev (fun k => spec_l05Loop.l0 k (n : Int) (m : Int) b i h t a) r ∧ SmL b r := by
  intro m
  induction m with
  | zero =>
    intro hm i h hi t ht
    obtain ⟨x, i', h', e, p0, p1, _, hi'⟩ := below_ok b i h hi (n : Int)
    obtain ⟨y, i2, h2, e2, q0, q1, _, hi2⟩ := below_ok b i' h' hi' 4
    have hy := q1 (by omega)
    have hmn : 0 ≤ mn (n : Int) y ∧ mn (n : Int) y ≤ 3 := by unfold mn; split <;> omega
    obtain ⟨r, hr, hs⟩ := dl_l1 b t a (by omega) (by omega) (n : Int) (by omega) x (mn (n : Int) y).toNat i2 h2 hi2 [] (by simp; omega) (by omega) (fun x hx => by cases hx)
    rw [show (((mn (n : Int) y).toNat : Nat) : Int) = mn (n : Int) y by omega] at hr
    refine ⟨r, Ev.step (fun k => ?_) hr, hs⟩
    simp only [spec_l05Loop.l0, e, Option.bind_some, e2]
    rw [if_neg (by omega)]
  | succ m ih =>
    intro hm i h hi t ht
    obtain ⟨x, i', h', e, p0, p1, _, hi'⟩ := below_ok b i h hi (n : Int)
    have hx := p1 (by omega)
    obtain ⟨r, hr, hs⟩ := ih (by omega) i' h' hi' (t.set x.toNat ((m + 1 : Nat) : Int)) (by rw [List.length_set]; exact ht)
    have wr : wrap64 (((m + 1 : Nat) : Int) - 1) = (m : Int) := by rw [wrap_in (by omega) (by omega)]; omega
    refine ⟨r, Ev.step (fun k => ?_) hr, hs⟩
    simp only [spec_l05Loop.l0, e, Option.bind_some, wr]
    rw [if_pos (by omega), if_pos p0, if_pos (by omega)]
theorem dl_ev (b : List Int) (i h : Int) (hi : Cur b i) : ∃ r, Ev (fun k => spec_l05Loop.f k b i h) r ∧ SmL b r := by
  obtain ⟨x, i1, h1, e, p0, p1, _, hi1⟩ := below_ok b i h hi 9
  have hx := p1 (by omega)
  obtain ⟨y, i2, h2, e2, _, _, _, hi2⟩ := below_ok b i1 h1 hi1 ((2 + x.toNat : Nat) : Int)
  obtain ⟨z, i3, h3, e3, q0, q1, _, hi3⟩ := below_ok b i2 h2 hi2 7
  have hz := q1 (by omega)
  obtain ⟨r, hr, hs⟩ := dl_l0 b y (2 + x.toNat) (by omega) (by omega) z.toNat (by omega) i3 h3 hi3 (List.replicate (2 + x.toNat) 0) (by simp)
  rw [show ((z.toNat : Nat) : Int) = z by omega] at hr
  refine ⟨r, Lt.ev (Lt.of hr) fun k er => ?_, hs⟩
  have wr : wrap64 (2 + x) = ((2 + x.toNat : Nat) : Int) := by rw [wrap_in (by omega) (by omega)]; omega
  simp only [spec_l05Loop.f, e, Option.bind_some, wr, Int.toNat_natCast, List.length_replicate, e2, e3]
  rw [if_pos (by omega), if_pos (by omega)]
  exact er
theorem new_len (b : List Int) (hb : b.length ≤ 1048576) : ∃ h', Ev (fun k => spec_l01New.f k b) (b, 0, h') := by
  obtain ⟨h', hh⟩ := new_l b hb b.length 0 (wrap64 (33193 + (b.length : Int))) (by omega)
  exact ⟨h', Ev.congr (fun k => by simp only [spec_l01New.f]; rfl) hh⟩
end Go.Proofs.Ytmjhbdmicejppaa.Pu
