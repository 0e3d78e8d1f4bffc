import Derived.Test.YtmjhbdmicejppaaZrTa
import Derived.Test.YtmjhbdmicejppaaZrPx7
import Derived.Test.YtmjhbdmicejppaaZrPx14
namespace Go.Proofs.Ytmjhbdmicejppaa.Pu
open Go.RowKit Go.Proofs.Ytmjhbdmicejppaa.Px Go.Proofs.YtmjhbdmicejppaaW.PrintWords Go.Proofs.YtmjhbdmicejppaaW.PrintLast Go.Proofs.YtmjhbdmicejppaaW.PrintMore
set_option linter.unusedVariables false
def wnt (w : List S74) (b : Int) : List Int := ((w.find? (fun x => x.f0 == b)).map (fun x => x.f1)).getD []
def stp (r : List Int) (g : List Int → Int) (o : Int) (x : Nat) : Int := if r.getD x 0 > 0 then mx o (1 + g (r.set x (r.getD x 0 - 1))) else o
def mv (w : List S74) : List Int → List Int → Int
  | [], _ => 0
  | b :: bs, r => (wnt w b).foldl (fun o x => stp r (mv w bs) o x.toNat) (mv w bs r)
def up (f : Int → Nat → Int) (p : Nat → Bool) : Nat → Nat → Int → Int
  | _, 0, o => o
  | i, d + 1, o => up f p (i + 1) d (if p i = true then f o i else o)
theorem up_fold (f : Int → Nat → Int) (p : Nat → Bool) : ∀ (d i : Nat) (ch : List Int), ch.Pairwise (fun a b => a < b) → (∀ x ∈ ch, (i : Int) ≤ x ∧ x < (i : Int) + d) → (∀ x : Nat, i ≤ x → x < i + d → (p x = true ↔ (x : Int) ∈ ch)) → ∀ o, up f p i d o = ch.foldl (fun o x => f o x.toNat) o
  | 0, i, [], _, _, _, o => rfl
  | 0, i, y :: ys, _, hb, _, o => by
    have := hb y List.mem_cons_self
    omega
  | d + 1, i, [], hp, hb, hm, o => by
    have : ¬ p i = true := fun h => by simpa using (hm i (by omega) (by omega)).1 h
    simp only [up]
    rw [if_neg this]
    exact up_fold f p d (i + 1) [] hp (by simp) (fun x h1 h2 => hm x (by omega) (by omega)) o
  | d + 1, i, y :: ys, hp, hb, hm, o => by
    have hy := hb y List.mem_cons_self
    have hp' := List.pairwise_cons.1 hp
    simp only [up]
    by_cases e : y = (i : Int)
    · subst e
      rw [if_pos ((hm i (by omega) (by omega)).2 List.mem_cons_self)]
      rw [up_fold f p d (i + 1) ys hp'.2 (fun x hx => by
        have h1 := hp'.1 x hx
        have h2 := hb x (List.mem_cons_of_mem _ hx)
        omega) (fun x h1 h2 => by
        rw [hm x (by omega) (by omega), List.mem_cons]
        exact ⟨fun h => h.elim (fun h => by omega) id, Or.inr⟩)]
      rfl
    · have : ¬ p i = true := fun h => by
        have h2 := (hm i (by omega) (by omega)).1 h
        rcases List.mem_cons.1 h2 with h3 | h3
        · exact e h3.symm
        · have h4 := hp'.1 _ h3
          omega
      rw [if_neg this]
      exact up_fold f p d (i + 1) (y :: ys) hp (fun x hx => by
        rcases List.mem_cons.1 hx with rfl | h3
        · omega
        · have h4 := hp'.1 _ h3
          have := hb x hx
          omega) (fun x h1 h2 => hm x (by omega) (by omega)) o
theorem mx_bd {a b n : Int} (h1 : 0 ≤ a) (h2 : a ≤ n) (h3 : b ≤ n) : 0 ≤ mx a b ∧ mx a b ≤ n := by
  unfold mx
  split <;> omega
theorem stp_bd (r : List Int) (g : List Int → Int) (n : Int) (hg : ∀ r, 0 ≤ g r ∧ g r ≤ n) (o : Int) (x : Nat) (h1 : 0 ≤ o) (h2 : o ≤ n + 1) : 0 ≤ stp r g o x ∧ stp r g o x ≤ n + 1 := by
  unfold stp
  split
  · have := hg (r.set x (r.getD x 0 - 1))
    exact mx_bd h1 h2 (by omega)
  · exact ⟨h1, h2⟩
theorem fold_bd (r : List Int) (g : List Int → Int) (n : Int) (hg : ∀ r, 0 ≤ g r ∧ g r ≤ n) : ∀ (ch : List Int) (o : Int), 0 ≤ o → o ≤ n + 1 → 0 ≤ ch.foldl (fun o x => stp r g o x.toNat) o ∧ ch.foldl (fun o x => stp r g o x.toNat) o ≤ n + 1
  | [], o, h1, h2 => ⟨h1, h2⟩
  | y :: ys, o, h1, h2 => by
    have h := stp_bd r g n hg o y.toNat h1 h2
    exact fold_bd r g n hg ys _ h.1 h.2
theorem mv_bd (w : List S74) : ∀ (bs r : List Int), 0 ≤ mv w bs r ∧ mv w bs r ≤ bs.length
  | [], r => by simp [mv]
  | b :: bs, r => by
    have h := mv_bd w bs r
    have := fold_bd r (mv w bs) bs.length (mv_bd w bs) (wnt w b) (mv w bs r) h.1 (by omega)
    simp only [mv, List.length_cons]
    omega
def Rm (n : Nat) (r : List Int) : Prop := r.length = n ∧ ∀ j, 0 ≤ r.getD j 0 ∧ r.getD j 0 ≤ 40
theorem Rm.set {n : Nat} {r : List Int} (h : Rm n r) (x : Nat) (hx : 0 < r.getD x 0) : Rm n (r.set x (r.getD x 0 - 1)) := by
  refine ⟨by rw [List.length_set]; exact h.1, fun j => ?_⟩
  have h1 := h.2 j
  have h2 := h.2 x
  have hxl : x < r.length := Nat.lt_of_not_le fun h0 => by
    rw [List.getD_eq_getElem?_getD, List.getElem?_eq_none h0] at hx
    simp at hx
  rw [List.getD_eq_getElem?_getD, List.getElem?_set]
  by_cases e : x = j
  · subst e
    rw [if_pos rfl, if_pos hxl]
    simp only [Option.getD_some]
    omega
  · rw [if_neg e, ← List.getD_eq_getElem?_getD]
    exact h1
theorem set_back (r : List Int) (x : Nat) (hx : x < r.length) : (r.set x (r.getD x 0 - 1)).set x ((r.set x (r.getD x 0 - 1)).getD x 0 + 1) = r := by
  have e : (r.set x (r.getD x 0 - 1)).getD x 0 + 1 = r[x] := by
    simp [hx]
  rw [e, List.set_set, List.set_getElem_self]
theorem wants_l (t : List Int) (a : Int) (c : List S69) (w : List S74) (b : Int) (x : Int) (hw : w.length ≤ 60) (hwb : ∀ x ∈ w, x.f1.length ≤ 1048576) : ∀ (d i : Nat), i + d = w.length → Ev (fun k => spec_l05Wants.l0 k b x (i : Int) t a c w) (decide (x ∈ wnt (w.drop i) b)) := by
  intro d
  induction d with
  | zero =>
    intro i hi
    rw [List.drop_of_length_le (by omega)]
    refine Ev.step (f := fun _ => some false) (fun k => ?_) (by simpa [wnt] using Ev.now _)
    simp only [spec_l05Wants.l0]
    rw [if_neg (by omega)]
  | succ d ih =>
    intro i hi
    have hlt : i < w.length := by omega
    rw [List.drop_eq_getElem_cons hlt]
    by_cases h : w[i].f0 = b
    · have e : wnt (w[i] :: w.drop (i + 1)) b = w[i].f1 := by unfold wnt; rw [List.find?_cons_of_pos (by simpa using h)]; rfl
      rw [e]
      refine Ev.round (Lt.of (has_ev w[i].f1 x (by have := hwb _ (List.getElem_mem hlt); omega))) fun k e1 => ?_
      simp only [spec_l05Wants.l0, rd74_nat w i hlt]
      rw [if_pos (by omega), if_pos (by omega), if_pos h, e1]
      rfl
    · have e : wnt (w[i] :: w.drop (i + 1)) b = wnt (w.drop (i + 1)) b := by unfold wnt; rw [List.find?_cons_of_neg (by simpa using h)]
      rw [e]
      refine Ev.step (fun k => ?_) (ih (i + 1) (by omega))
      simp only [spec_l05Wants.l0, rd74_nat w i hlt]
      rw [if_pos (by omega), if_pos (by omega), if_neg h, wrap_in (x := (i : Int) + 1) (by omega) (by omega)]
      rfl
theorem wants_ev (t : List Int) (a : Int) (c : List S69) (w : List S74) (b : Int) (x : Int) (hw : w.length ≤ 60) (hwb : ∀ x ∈ w, x.f1.length ≤ 1048576) : Ev (fun k => spec_l05Wants.f k t a c w b x) (decide (x ∈ wnt w b)) :=
  Ev.congr (fun k => by simp only [spec_l05Wants.f]; rfl) (wants_l t a c w b x hw hwb w.length 0 (by omega))
theorem spec_mo_l (t : List Int) (a : Int) (c : List S69) (w : List S74) (hw : w.length ≤ 60) (hwb : ∀ x ∈ w, x.f1.length ≤ 1048576) (n : Nat) (hn : n ≤ 8) (l : List Int) (hl : l.length ≤ 60) (i : Nat) (hi : i < l.length) (g : List Int → Int) (hg : ∀ r, 0 ≤ g r ∧ g r ≤ 60) (hr : ∀ r, Rm n r → Ev (fun k => spec_l05Most.f k t a c w l ((i : Int) + 1) r) (g r)) (r : List Int) (hrm : Rm n r) : ∀ (d x : Nat), x + d = n → ∀ o : Int, 0 ≤ o → o ≤ 61 → Ev (fun k => spec_l05Most.l0 k l (i : Int) r o (x : Int) t a c w) (up (stp r g) (fun x => decide ((x : Int) ∈ wnt w l[i])) x d o) := by
  have hrl := hrm.1
  intro d
  induction d with
  | zero =>
    intro x hx o o1 o2
    refine Ev.step (f := fun _ => some o) (fun k => ?_) (Ev.now _)
    simp only [spec_l05Most.l0]
    rw [if_neg (by omega)]
  | succ d ih =>
    intro x hx o o1 o2
    have hv := hrm.2 x
    simp only [up]
    by_cases p0 : r.getD x 0 > 0
    · by_cases p1 : (x : Int) ∈ wnt w l[i]
      · have hs := stp_bd r g 60 hg o x o1 (by omega)
        have hgx := hg (r.set x (r.getD x 0 - 1))
        have es : stp r g o x = mx o (1 + g (r.set x (r.getD x 0 - 1))) := by unfold stp; rw [if_pos p0]
        rw [if_pos (decide_eq_true p1)]
        refine Ev.round ((Lt.of (wants_ev t a c w l[i] x hw hwb)).and ((Lt.of (hr _ (hrm.set x p0))).and (Lt.of (ih (x + 1) (by omega) _ hs.1 (by omega))))) fun k ⟨e1, e2, e3⟩ => ?_
        rw [decide_eq_true p1] at e1
        rw [es] at e3
        simp only [spec_l05Most.l0, rdI]
        rw [if_pos (by omega), if_pos (by omega), if_pos p0, if_pos (by omega), if_pos (by omega)]
        rw [show l.getD i 0 = l[i] by simp [hi]]
        rw [e1]
        simp only [Option.bind_some, List.nil_append, List.length_nil]
        rw [if_pos trivial, if_pos (by omega), if_pos (by omega), wrap_in (x := (i : Int) + 1) (by omega) (by omega), wrap_in (x := r.getD x 0 - 1) (by omega) (by omega), Int.toNat_natCast, e2]
        simp only [Option.bind_some]
        rw [wrap_in (x := (x : Int) + 1) (by omega) (by omega), wrap_in (x := 1 + g (r.set x (r.getD x 0 - 1))) (by omega) (by omega)]
        rw [es]
        exact e3
      · rw [if_neg (by rw [decide_eq_false p1]; simp)]
        refine Ev.round ((Lt.of (wants_ev t a c w l[i] x hw hwb)).and (Lt.of (ih (x + 1) (by omega) _ o1 o2))) fun k ⟨e1, e3⟩ => ?_
        rw [decide_eq_false p1] at e1
        simp only [spec_l05Most.l0, rdI]
        rw [if_pos (by omega), if_pos (by omega), if_pos p0, if_pos (by omega), if_pos (by omega)]
        rw [show l.getD i 0 = l[i] by simp [hi]]
        rw [e1]
        simp only [Option.bind_some]
        rw [if_neg (by simp), wrap_in (x := (x : Int) + 1) (by omega) (by omega)]
        exact e3
    · have e : (if decide ((x : Int) ∈ wnt w l[i]) = true then stp r g o x else o) = o := by
        unfold stp
        rw [if_neg p0]
        split <;> rfl
      rw [e]
      refine Ev.step (fun k => ?_) (ih (x + 1) (by omega) o o1 o2)
      simp only [spec_l05Most.l0, rdI]
      rw [if_pos (by omega), if_pos (by omega), if_neg p0, wrap_in (x := (x : Int) + 1) (by omega) (by omega)]
      rfl
def Asc (n : Nat) (w : List S74) : Prop := ∀ x ∈ w, x.f1.Pairwise (fun a b => a < b) ∧ ∀ y ∈ x.f1, 0 ≤ y ∧ y < (n : Int)
theorem wnt_asc {n : Nat} {w : List S74} (h : Asc n w) (b : Int) : (wnt w b).Pairwise (fun a b => a < b) ∧ ∀ y ∈ wnt w b, 0 ≤ y ∧ y < (n : Int) := by
  unfold wnt
  cases hf : w.find? (fun x => x.f0 == b) with
  | none => simp
  | some x => exact h x (List.mem_of_find?_eq_some hf)
theorem spec_mo (t : List Int) (a : Int) (c : List S69) (w : List S74) (hw : w.length ≤ 60) (hwb : ∀ x ∈ w, x.f1.length ≤ 1048576) (n : Nat) (hn : n ≤ 8) (ha : Asc n w) (l : List Int) (hl : l.length ≤ 60) : ∀ (d i : Nat), i + d = l.length → ∀ r, Rm n r → Ev (fun k => spec_l05Most.f k t a c w l (i : Int) r) (mv w (l.drop i) r) := by
  intro d
  induction d with
  | zero =>
    intro i hi r hr
    rw [List.drop_of_length_le (by omega)]
    refine Ev.step (f := fun _ => some 0) (fun k => ?_) (by simpa [mv] using Ev.now _)
    simp only [spec_l05Most.f]
    rw [if_pos (by omega)]
  | succ d ih =>
    intro i hi r hr
    have hlt : i < l.length := by omega
    have hb : ∀ r, 0 ≤ mv w (l.drop (i + 1)) r ∧ mv w (l.drop (i + 1)) r ≤ 60 := fun r => by
      have := mv_bd w (l.drop (i + 1)) r
      rw [List.length_drop] at this
      omega
    have h0 := ih (i + 1) (by omega)
    have h1 := spec_mo_l t a c w hw hwb n hn l hl i hlt (mv w (l.drop (i + 1))) hb (fun r hr => h0 r hr) r hr n 0 (by omega) (mv w (l.drop (i + 1)) r) (hb r).1 (by have := hb r; omega)
    have hA := wnt_asc ha l[i]
    rw [up_fold (stp r (mv w (l.drop (i + 1)))) _ n 0 (wnt w l[i]) hA.1 (fun x hx => by have := hA.2 x hx; omega) (fun x _ _ => by simp)] at h1
    rw [List.drop_eq_getElem_cons hlt]
    simp only [mv]
    refine Ev.round ((Lt.of (h0 r hr)).and (Lt.of h1)) fun k ⟨e1, e2⟩ => ?_
    simp only [spec_l05Most.f]
    rw [if_neg (by omega), wrap_in (x := (i : Int) + 1) (by omega) (by omega)]
    have e1' : spec_l05Most.f k t a c w l ((i : Int) + 1) r = some (mv w (l.drop (i + 1)) r) := e1
    rw [e1']
    exact e2
theorem impl_mo_l (t : List Int) (a : Int) (c : List S69) (w : List S74) (n : Nat) (hn : n ≤ 8) (b : Int) (bs : List Int) (g : List Int → Int) (hg : ∀ r, 0 ≤ g r ∧ g r ≤ 60) (hr : ∀ r, Rm n r → Ev (fun k => impl_most.f k t a c w bs r) (g r, r)) (r : List Int) (hrm : Rm n r) (ch : List Int) (hcl : ch.length ≤ 1048576) (hch : ∀ y ∈ ch, 0 ≤ y ∧ y < (n : Int)) : ∀ (d j : Nat), j + d = ch.length → ∀ o : Int, 0 ≤ o → o ≤ 61 → Ev (fun k => impl_most.l0 k (b :: bs) r o ch (ch.length : Int) (j : Int) t a c w) ((ch.drop j).foldl (fun o x => stp r g o x.toNat) o, r) := by
  have hrl := hrm.1
  intro d
  induction d with
  | zero =>
    intro j hj o o1 o2
    rw [List.drop_of_length_le (by omega)]
    refine Ev.step (f := fun _ => some (o, r)) (fun k => ?_) (Ev.now _)
    simp only [impl_most.l0]
    rw [if_neg (by omega)]
  | succ d ih =>
    intro j hj o o1 o2
    have hlt : j < ch.length := by omega
    have hy := hch ch[j] (List.getElem_mem hlt)
    obtain ⟨y, ey⟩ : ∃ y : Nat, ch[j] = (y : Int) := ⟨ch[j].toNat, by omega⟩
    have hyl : y < r.length := by omega
    have hv := hrm.2 y
    rw [List.drop_eq_getElem_cons hlt, List.foldl_cons, ey, Int.toNat_natCast]
    have hs := stp_bd r g 60 hg o y o1 (by omega)
    have h := ih (j + 1) (by omega) _ hs.1 hs.2
    by_cases p0 : r.getD y 0 > 0
    · have hgx := hg (r.set y (r.getD y 0 - 1))
      have es : stp r g o y = mx o (1 + g (r.set y (r.getD y 0 - 1))) := by unfold stp; rw [if_pos p0]
      have hb := set_back r y hyl
      have hm := (hrm.set y p0).2 y
      refine Ev.round ((Lt.of (hr _ (hrm.set y p0))).and (Lt.of h)) fun k ⟨e1, e2⟩ => ?_
      simp only [impl_most.l0, rd_nat ch j hlt, ey, rdI]
      rw [if_pos (by omega), if_pos (by omega), if_pos (by omega), if_pos (by omega), if_pos (by omega), if_pos p0, if_pos (by simp only [List.length_cons]; omega), wrap_in (x := r.getD y 0 - 1) (by omega) (by omega), Int.toNat_natCast, List.drop_one, List.tail_cons, e1]
      simp only [Option.bind_some]
      rw [wrap_in (x := (r.set y (r.getD y 0 - 1)).getD y 0 + 1) (by omega) (by omega), hb, wrap_in (x := 1 + g (r.set y (r.getD y 0 - 1))) (by omega) (by omega), wrap_in (x := (j : Int) + 1) (by omega) (by omega), ← es]
      exact e2
    · have es : stp r g o y = o := by unfold stp; rw [if_neg p0]
      rw [es] at h ⊢
      refine Ev.step (fun k => ?_) h
      simp only [impl_most.l0, rd_nat ch j hlt, ey, rdI]
      rw [if_pos (by omega), if_pos (by omega), if_pos (by omega), if_pos (by omega), if_pos (by omega), if_neg p0, wrap_in (x := (j : Int) + 1) (by omega) (by omega)]
      rfl
theorem wantOf_eq (t : List Int) (a : Int) (c : List S69) (w : List S74) (b : Int) : (impl_wantOf.f t a c w b = some (-1) ∧ wnt w b = []) ∨ ∃ i, ∃ h : i < w.length, impl_wantOf.f t a c w b = some (i : Int) ∧ wnt w b = w[i].f1 := by
  have hp : vc_impl_wantOf_1_idx.p b = fun x => x.f0 == b := rfl
  simp only [impl_wantOf.f, vc_impl_wantOf_1_idx.f, Opens.idxB, hp, Option.bind_some, wnt]
  cases hf : w.findIdx? (fun x => x.f0 == b) with
  | none =>
    refine Or.inl ⟨rfl, ?_⟩
    rw [List.findIdx?_eq_none_iff] at hf
    rw [List.find?_eq_none.2 (fun x hx => by simp [hf x hx])]
    rfl
  | some i =>
    rw [List.findIdx?_eq_some_iff_getElem] at hf
    obtain ⟨h1, h2, h3⟩ := hf
    refine Or.inr ⟨i, h1, rfl, ?_⟩
    have : w.find? (fun x => x.f0 == b) = some w[i] := by
      rw [List.find?_eq_some_iff_getElem]
      exact ⟨h2, i, h1, rfl, fun j hj => by simpa using h3 j hj⟩
    rw [this]
    rfl
theorem impl_mo (t : List Int) (a : Int) (c : List S69) (w : List S74) (hw : w.length ≤ 60) (hwb : ∀ x ∈ w, x.f1.length ≤ 1048576) (n : Nat) (hn : n ≤ 8) (ha : Asc n w) : ∀ (l : List Int), l.length ≤ 60 → ∀ r, Rm n r → Ev (fun k => impl_most.f k t a c w l r) (mv w l r, r)
  | [], _, r, hr => by
    refine Ev.step (f := fun _ => some (0, r)) (fun k => ?_) (Ev.now _)
    simp only [impl_most.f]
    rw [if_pos (by simp)]
  | b :: bs, hl, r, hr => by
    rw [List.length_cons] at hl
    have h0 := impl_mo t a c w hw hwb n hn ha bs (by omega)
    have hb : ∀ r, 0 ≤ mv w bs r ∧ mv w bs r ≤ 60 := fun r => by
      have := mv_bd w bs r
      omega
    have hA := wnt_asc ha b
    rcases wantOf_eq t a c w b with ⟨h1, h2⟩ | ⟨i, hi, h1, h2⟩
    · have e : mv w (b :: bs) r = mv w bs r := by simp only [mv, h2, List.foldl_nil]
      rw [e]
      refine Ev.round (Lt.of (h0 r hr)) fun k e1 => ?_
      simp only [impl_most.f, List.length_cons]
      rw [if_neg (by omega), if_pos (by omega), List.drop_one, List.tail_cons, e1]
      simp only [Option.bind_some]
      rw [if_pos (by omega), show rd (b :: bs) 0 = b from rfl, h1]
      simp only [Option.bind_some]
      rw [if_pos (by omega)]
    · rw [h2] at hA
      have hl0 := impl_mo_l t a c w n hn b bs (mv w bs) hb h0 r hr w[i].f1 (hwb _ (List.getElem_mem hi)) hA.2 w[i].f1.length 0 (by omega) (mv w bs r) (hb r).1 (by have := hb r; omega)
      have e : mv w (b :: bs) r = w[i].f1.foldl (fun o x => stp r (mv w bs) o x.toNat) (mv w bs r) := by simp only [mv, h2]
      rw [e]
      refine Ev.round ((Lt.of (h0 r hr)).and (Lt.of hl0)) fun k ⟨e1, e2⟩ => ?_
      simp only [impl_most.f, List.length_cons]
      rw [if_neg (by omega), if_pos (by omega), List.drop_one, List.tail_cons, e1]
      simp only [Option.bind_some]
      rw [if_pos (by omega), show rd (b :: bs) 0 = b from rfl, h1]
      simp only [Option.bind_some]
      rw [if_neg (by omega), if_pos (by omega), if_pos (by omega), rd74_nat w i hi]
      exact e2
def room (c : List S69) : List Int := c.map (fun x => x.f1 - (x.f2.length : Int))
def mostS (t : List Int) (a : Int) (c : List S69) (w : List S74) : Int :=
  if lpOk t a c w = true then (if (t.filter (fun x => !decide (x = 0))).length > 7 then -1 else mv w (t.filter (fun x => !decide (x = 0))) (room c)) else -1
theorem lp_room {t : List Int} {a : Int} {c : List S69} {w : List S74} (h : lpOk t a c w = true) : c.length ≤ 8 ∧ w.length ≤ 60 ∧ Rm c.length (room c) ∧ Asc c.length w := by
  simp only [lpOk, szOk, Bool.and_eq_true, decide_eq_true_eq] at h
  obtain ⟨⟨⟨h1, hc⟩, hw⟩, h2, h3, h4⟩ := h
  refine ⟨hc, hw, ⟨by simp [room], fun j => ?_⟩, fun x hx => ?_⟩
  · by_cases hj : j < c.length
    · have h5 := (allF_iff _ _ _).1 h2 j (by omega) (by omega)
      have e : c.getD j z69 = c[j] := by simp [hj]
      simp only [chF, chOk, e, Bool.and_eq_true, decide_eq_true_eq] at h5
      have e2 : (room c).getD j 0 = c[j].f1 - (c[j].f2.length : Int) := by simp [room, hj]
      rw [e2]
      omega
    · have e2 : (room c).getD j 0 = 0 := by simp [room, hj]
      rw [e2]
      omega
  · obtain ⟨i, hi, rfl⟩ := List.mem_iff_getElem.1 hx
    have h5 := (allF_iff _ _ _).1 h4 i (by omega) (by omega)
    have e : w.getD i z74 = w[i] := by simp [hi]
    simp only [waF, e, Bool.and_eq_true, ixOk] at h5
    have h6 := (allF_iff _ _ _).1 h5.2
    have h7 : ∀ j (hj : j < w[i].f1.length), (0 ≤ w[i].f1[j] ∧ w[i].f1[j] ≤ (c.length : Int) - 1) ∧ (j = 0 ∨ w[i].f1.getD (j - 1) 0 < w[i].f1[j]) := fun j hj => by
      have h8 := h6 j (by omega) (by omega)
      have e3 : w[i].f1.getD j 0 = w[i].f1[j] := by simp [hj]
      simpa only [ixAt, e3, Bool.and_eq_true, Bool.or_eq_true, decide_eq_true_eq] using h8
    refine ⟨List.pairwise_iff_getElem.2 (fun p q hp hq hpq => ?_), fun y hy => ?_⟩
    · obtain ⟨d, rfl⟩ : ∃ d, q = p + 1 + d := ⟨q - p - 1, by omega⟩
      induction d with
      | zero =>
        have := (h7 (p + 1) hq).2
        have e4 : w[i].f1.getD (p + 1 - 1) 0 = w[i].f1[p] := by simp [hp]
        rw [e4] at this
        exact this.elim (fun h => by omega) id
      | succ d ih =>
        have h9 := ih (by omega) (by omega)
        have := (h7 (p + 1 + (d + 1)) hq).2
        have e4 : w[i].f1.getD (p + 1 + (d + 1) - 1) 0 = w[i].f1[p + 1 + d]'(by omega) := by
          rw [show p + 1 + (d + 1) - 1 = p + 1 + d by omega]
          simp [show p + 1 + d < w[i].f1.length by omega]
        rw [e4] at this
        exact Int.lt_trans h9 (this.elim (fun h => by omega) id)
    · obtain ⟨j, hj, rfl⟩ := List.mem_iff_getElem.1 hy
      have := (h7 j hj).1
      omega
theorem spec_ms_l1 (t : List Int) (a : Int) (c : List S69) (w : List S74) (b : List Int) (v : Int) (hc : c.length ≤ 8) (hcb : ∀ x ∈ c, 0 ≤ x.f1 - (x.f2.length : Int) ∧ x.f1 - (x.f2.length : Int) ≤ 40) (hk : Ev (fun k => spec_l05Most.f k t a c w b 0 (room c)) v) : ∀ (d i : Nat), i + d = c.length → Ev (fun k => spec_MostSorted.l1 k b ((room c).take i) (i : Int) t a c w) v := by
  have hrl : (room c).length = c.length := by simp [room]
  intro d
  induction d with
  | zero =>
    intro i hi
    rw [List.take_of_length_le (by omega)]
    refine Ev.round (Lt.of hk) fun k e => ?_
    simp only [spec_MostSorted.l1]
    rw [if_neg (by omega), e]
    rfl
  | succ d ih =>
    intro i hi
    have hlt : i < c.length := by omega
    have h := ih (i + 1) (by omega)
    have hx := hcb _ (List.getElem_mem hlt)
    rw [List.take_succ_eq_append_getElem (by omega)] at h
    refine Ev.step (fun k => ?_) h
    simp only [spec_MostSorted.l1, rd69_nat c i hlt]
    rw [if_pos (by omega), if_pos (by omega), if_pos (by rw [List.length_take]; omega), wrap_in (x := c[i].f1 - (c[i].f2.length : Int)) (by omega) (by omega), wrap_in (x := (i : Int) + 1) (by omega) (by omega)]
    simp only [room, List.getElem_map]
    rfl
theorem impl_ms_l (t : List Int) (a : Int) (c : List S69) (w : List S74) (b : List Int) (v : Int) (r' : List Int) (hc : c.length ≤ 8) (hcb : ∀ x ∈ c, 0 ≤ x.f1 - (x.f2.length : Int) ∧ x.f1 - (x.f2.length : Int) ≤ 40) (hk : Ev (fun k => impl_most.f k t a c w b (room c)) (v, r')) : ∀ (d i : Nat), i + d = c.length → Ev (fun k => impl_MostSorted.l0 k b ((room c).take i) c (c.length : Int) (i : Int) t a c w) v := by
  have hrl : (room c).length = c.length := by simp [room]
  intro d
  induction d with
  | zero =>
    intro i hi
    rw [List.take_of_length_le (by omega)]
    refine Ev.round (Lt.of hk) fun k e => ?_
    simp only [impl_MostSorted.l0]
    rw [if_neg (by omega), e]
    rfl
  | succ d ih =>
    intro i hi
    have hlt : i < c.length := by omega
    have h := ih (i + 1) (by omega)
    have hx := hcb _ (List.getElem_mem hlt)
    rw [List.take_succ_eq_append_getElem (by omega)] at h
    refine Ev.step (fun k => ?_) h
    simp only [impl_MostSorted.l0, rd69_nat c i hlt]
    rw [if_pos (by omega), if_pos (by omega), if_pos (by omega), if_pos (by rw [List.length_take]; omega), wrap_in (x := c[i].f1 - (c[i].f2.length : Int)) (by omega) (by omega), wrap_in (x := (i : Int) + 1) (by omega) (by omega)]
    simp only [room, List.getElem_map]
    rfl
theorem room_bd {c : List S69} (h : Rm c.length (room c)) : ∀ x ∈ c, 0 ≤ x.f1 - (x.f2.length : Int) ∧ x.f1 - (x.f2.length : Int) ≤ 40 := fun x hx => by
  obtain ⟨i, hi, rfl⟩ := List.mem_iff_getElem.1 hx
  have := h.2 i
  have e2 : (room c).getD i 0 = c[i].f1 - (c[i].f2.length : Int) := by simp [room, hi]
  rwa [e2] at this
theorem spec_ms_l0 (t : List Int) (ht : t.length ≤ 60) (a : Int) (c : List S69) (w : List S74) (v : Int) (hk : (t.filter (fun x => !decide (x = 0))).length ≤ 7 → Ev (fun k => spec_MostSorted.l1 k (t.filter (fun x => !decide (x = 0))) [] 0 t a c w) v) (hv : (t.filter (fun x => !decide (x = 0))).length > 7 → v = -1) :
    ∀ (d i : Nat), i + d = t.length → ∀ acc : List Int, acc.length ≤ i → acc ++ (t.drop i).filter (fun x => !decide (x = 0)) = t.filter (fun x => !decide (x = 0)) → Ev (fun k => spec_MostSorted.l0 k acc (i : Int) t a c w) v := by
  intro d
  induction d with
  | zero =>
    intro i hi acc ha h
    rw [List.drop_of_length_le (by omega)] at h
    simp only [List.filter_nil, List.append_nil] at h
    subst h
    by_cases h7 : (t.filter (fun x => !decide (x = 0))).length > 7
    · rw [hv h7]
      refine Ev.step (f := fun _ => some (-1)) (fun k => ?_) (Ev.now _)
      simp only [spec_MostSorted.l0]
      rw [if_neg (by omega), if_pos (by omega)]
    · refine Ev.step (fun k => ?_) (hk (by omega))
      simp only [spec_MostSorted.l0]
      rw [if_neg (by omega), if_neg (by omega)]
  | succ d ih =>
    intro i hi acc ha h
    have hlt : i < t.length := by omega
    have eg : t.getD i 0 = t[i] := by simp [hlt]
    rw [List.drop_eq_getElem_cons hlt, List.filter_cons] at h
    by_cases c0 : t[i] = 0
    · rw [if_neg (by simp [c0])] at h
      refine Ev.step (fun k => ?_) (ih (i + 1) (by omega) acc (by omega) h)
      simp only [spec_MostSorted.l0, rdI, eg]
      rw [if_pos (by omega), if_pos (by omega), if_pos c0, wrap_in (x := (i : Int) + 1) (by omega) (by omega)]
      rfl
    · rw [if_pos (by simp [c0])] at h
      refine Ev.step (fun k => ?_) (ih (i + 1) (by omega) (acc ++ [t[i]]) (by simp; omega) (by rw [List.append_assoc]; exact h))
      simp only [spec_MostSorted.l0, rdI, eg]
      rw [if_pos (by omega), if_pos (by omega), if_neg c0, if_pos (by omega), wrap_in (x := (i : Int) + 1) (by omega) (by omega)]
      rfl
theorem spec_ms_ev (t : List Int) (a : Int) (c : List S69) (w : List S74) (ht : t.length ≤ 1048576) (hf : t.length + (c.flatMap (fun x => x.f2)).length ≤ 1048576) (hwb : ∀ x ∈ w, x.f1.length ≤ 1048576) : Ev (fun k => spec_MostSorted.f k t a c w) (mostS t a c w) := by
  unfold mostS
  by_cases h : lpOk t a c w = true
  · obtain ⟨n0, n1⟩ := lp_len h
    obtain ⟨hc, hw, hR, hA⟩ := lp_room h
    rw [if_pos h]
    have hl := spec_ms_l0 t n1 a c w (if (t.filter (fun x => !decide (x = 0))).length > 7 then -1 else mv w (t.filter (fun x => !decide (x = 0))) (room c)) (fun h7 => by
      rw [if_neg (by omega)]
      exact spec_ms_l1 t a c w _ _ hc (room_bd hR) (spec_mo t a c w hw hwb c.length hc hA _ (by omega) _ 0 (Nat.zero_add _) _ hR) c.length 0 (by omega)) (fun h7 => if_pos h7) t.length 0 (by omega) [] (by simp) (by simp)
    refine Lt.ev ((Lt.of (spec_lp_ev t a c w ht hf hwb)).and (Lt.of hl)) fun k ⟨e, e1⟩ => ?_
    simp only [spec_MostSorted.f, e, Option.bind_some]
    rw [if_pos h]
    exact e1
  · rw [if_neg h]
    refine Lt.ev (Lt.of (spec_lp_ev t a c w ht hf hwb)) fun k e => ?_
    simp only [spec_MostSorted.f, e, Option.bind_some]
    rw [if_neg h]
theorem impl_ms_ev (t : List Int) (a : Int) (c : List S69) (w : List S74) (ht : t.length ≤ 1048576) (hf : t.length + (c.flatMap (fun x => x.f2)).length ≤ 1048576) (hwb : ∀ x ∈ w, x.f1.length ≤ 1048576) : Ev (fun k => impl_MostSorted.f k t a c w) (mostS t a c w) := by
  unfold mostS
  by_cases h : lpOk t a c w = true
  · obtain ⟨n0, n1⟩ := lp_len h
    obtain ⟨hc, hw, hR, hA⟩ := lp_room h
    rw [if_pos h]
    have hp : (fun z_ => !vc_impl_MostSorted_1_del.p z_) = fun x : Int => !decide (x = 0) := by
      funext x
      have e : (x == 0) = decide (x = 0) := by by_cases h0 : x = 0 <;> simp [h0]
      simp [vc_impl_MostSorted_1_del.p, impl_MostSorted_1.f, e]
    have hcl : slices_Clone_int_int.f t = some t := by
      unfold slices_Clone_int_int.f
      rw [if_pos (by omega)]
    by_cases h7 : (t.filter (fun x => !decide (x = 0))).length > 7
    · rw [if_pos h7]
      refine Lt.ev (Lt.of (impl_lp_ev t a c w ht hf hwb)) fun k e => ?_
      simp only [impl_MostSorted.f, e, Option.bind_some]
      rw [if_pos h, hcl]
      simp only [Option.bind_some, hp]
      rw [if_pos (by omega)]
    · rw [if_neg h7]
      have hl := impl_ms_l t a c w _ _ _ hc (room_bd hR) (impl_mo t a c w hw hwb c.length hc hA (t.filter (fun x => !decide (x = 0))) (by omega) _ hR) c.length 0 (by omega)
      refine Lt.ev ((Lt.of (impl_lp_ev t a c w ht hf hwb)).and (Lt.of hl)) fun k ⟨e, e1⟩ => ?_
      simp only [impl_MostSorted.f, e, Option.bind_some]
      rw [if_pos h, hcl]
      simp only [Option.bind_some, hp]
      rw [if_neg (by omega)]
      exact e1
  · rw [if_neg h]
    refine Lt.ev (Lt.of (impl_lp_ev t a c w ht hf hwb)) fun k e => ?_
    simp only [impl_MostSorted.f, e, Option.bind_some]
    rw [if_neg h]
end Go.Proofs.Ytmjhbdmicejppaa.Pu
