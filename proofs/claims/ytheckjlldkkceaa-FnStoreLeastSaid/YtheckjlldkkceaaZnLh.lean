import Derived.Test.YtheckjlldkkceaaZnHp
import Derived.Test.YtheckjlldkkceaaZnPx16
import Derived.Test.YtheckjlldkkceaaZnPx22
namespace Go.Proofs.Ytheckjlldkkceaa.Pu
open Go.RowKit Go.Proofs.Ytheckjlldkkceaa.Px Go.Proofs.YtheckjlldkkceaaW.PrintWords Go.Proofs.YtheckjlldkkceaaW.PrintLast Go.Proofs.YtheckjlldkkceaaW.PrintMore
set_option linter.unusedVariables false
theorem snoc_inj {p m : List S30} {x k : S30} (h : p ++ [x] = m ++ [k]) : p = m ∧ x = k := by
  have := List.append_inj' h rfl
  exact ⟨this.1, by simpa using this.2⟩
theorem snoc_nodup {a : Int} {l : List (List S30)} (hs : stOk a l = true) {i : Nat} (hi : i < l.length) {m : List S30} {k : S30} (e : l[i] = m ++ [k]) : k ∉ m := by
  have hn := lane_nodup hs hi
  rw [e, List.map_append, List.nodup_append] at hn
  intro hk
  exact hn.2.2 k.f0 (List.mem_map_of_mem hk) k.f0 (by simp) rfl
theorem dig_last {a : Int} {l : List (List S30)} (hs : stOk a l = true) {i : Nat} (hi : i < l.length) {p : List S30} {x : S30} (hx : isNext l x) (e : l[i] = p ++ [x]) {n : Nat} (h : Dig a l n) : Dig a (l.set i p) n := by
  cases h with
  | none h0 =>
    have := hx.1
    rw [h0] at this
    cases this
  | @out _ i' m x' _ hi' hx' e' h' =>
    have ex := isNext_one hx hx'
    subst ex
    have ei := lane_one hs hi hi' (x := x) (by rw [e]; simp) (by rw [e']; simp)
    subst ei
    rw [e] at e'
    rw [(snoc_inj e').1]
    exact h'
  | @hop _ i' t m x' k n' hi' ht hx' hm e' hti hr h' =>
    exfalso
    have ex := isNext_one hx hx'
    subst ex
    have ei := lane_one hs hi hi' (x := x) (by rw [e]; simp) (by rw [e']; simp [hm])
    subst ei
    have hn := snoc_nodup hs hi e'
    rw [e] at e'
    obtain ⟨e1, e2⟩ := snoc_inj e'
    subst e2
    exact hn hm
theorem dig_hop {a : Int} {l : List (List S30)} (hs : stOk a l = true) {i : Nat} (hi : i < l.length) {m : List S30} {x k : S30} (hx : isNext l x) (hm : x ∈ m) (e : l[i] = m ++ [k]) {n : Nat} (h : Dig a l n) :
    ∃ t n', ∃ (ht : t < l.length), t ≠ i ∧ (l[t].length : Int) < a ∧ n = n' + 1 ∧ Dig a (hopd l i t m k) n' := by
  have hn := snoc_nodup hs hi e
  cases h with
  | none h0 =>
    have := hx.1
    rw [h0] at this
    cases this
  | @out _ i' m' x' _ hi' hx' e' h' =>
    exfalso
    have ex := isNext_one hx hx'
    subst ex
    have ei := lane_one hs hi hi' (x := x) (by rw [e]; simp [hm]) (by rw [e']; simp)
    subst ei
    rw [e] at e'
    obtain ⟨e1, e2⟩ := snoc_inj e'
    subst e2
    exact hn hm
  | @hop _ i' t m' x' k' n' hi' ht hx' hm' e' hti hr h' =>
    have ex := isNext_one hx hx'
    subst ex
    have ei := lane_one hs hi hi' (x := x) (by rw [e]; simp [hm]) (by rw [e']; simp [hm'])
    subst ei
    rw [e] at e'
    obtain ⟨e1, e2⟩ := snoc_inj e'
    subst e1; subst e2
    exact ⟨t, n', ht, hti, hr, rfl, h'⟩
def few (r m : Int) : Int := if 0 ≤ r ∧ r ≤ m then r else m + 1
def Good (a : Int) (l : List (List S30)) (r : Int) : Prop := Ev (fun k => impl_leastHops.f k a l) r ∧ Least a l r ∧ ∀ m : Int, -1 ≤ m → m ≤ 1000 → Ev (fun k => spec_l06Few.f k a l m) (few r m)
def Room (a : Int) (l : List (List S30)) (i t : Nat) : Prop := ∃ (ht : t < l.length), t ≠ i ∧ (l[t].length : Int) < a
def Via (a : Int) (l : List (List S30)) (i : Nat) (m : List S30) (k : S30) (r : Int) : Prop := ∃ t n : Nat, Room a l i t ∧ Dig a (hopd l i t m k) n ∧ r = n + 1
theorem Via.mk {a : Int} {l : List (List S30)} {i : Nat} {m : List S30} {k : S30} {r : Int} (t n : Nat) (h : Room a l i t) (hd : Dig a (hopd l i t m k) n) (e : r = n + 1) : Via a l i m k r := by
  unfold Via
  exact ⟨t, n, h, hd, e⟩
section
variable {a : Int} {l : List (List S30)} {i : Nat} {m : List S30} {k : S30}
theorem impl_scan (hs : stOk a l = true) (hi : i < l.length) (e : l[i] = m ++ [k]) (B : Int) (hB : 0 ≤ B ∧ B ≤ 1000) (hG : ∀ t, Room a l i t → ∃ r, Good a (hopd l i t m k) r ∧ r ≤ B) :
    ∀ (d t : Nat), t + d = l.length → ∀ b : Int, -1 ≤ b → b ≤ 1001 → ∃ r : Int, Ev (fun n => impl_leastHops.l0 n (i : Int) b (l.length : Int) (t : Int) a l a (l.set i m) k.f0 k.f1) r ∧ -1 ≤ r ∧ (r = b ∨ r ≤ B + 1) ∧
      (0 ≤ b → 0 ≤ r ∧ r ≤ b) ∧ (0 ≤ r → r = b ∨ Via a l i m k r) ∧ (∀ t' n : Nat, t ≤ t' → Room a l i t' → Dig a (hopd l i t' m k) n → 0 ≤ r ∧ r ≤ n + 1) := by
  have hlen : (l.set i m).length = l.length := by simp
  have hl := (st_small hs).1
  have hml : ∀ x ∈ l.set i m, x.length ≤ 1048576 := (st_small (st_off hs hi e)).2
  intro d
  induction d with
  | zero =>
    intro t ht b hb0 hb1
    refine ⟨b, Ev.step (f := fun _ => some b) (fun n => ?_) (Ev.now _), hb0, .inl rfl, fun h => ⟨h, Int.le_refl _⟩, fun _ => .inl rfl, fun t' n h1 h2 _ => ?_⟩
    · simp only [impl_leastHops.l0]
      rw [if_neg (by omega)]
    · obtain ⟨h3, _⟩ := h2
      omega
  | succ d ih =>
    intro t ht b hb0 hb1
    have htl : t < l.length := by omega
    have hw : wrap64 ((t : Int) + 1) = ((t + 1 : Nat) : Int) := wrap_in (x := (t : Int) + 1) (by omega) (by omega)
    have pass : ¬ Room a l i t → ∀ r, Ev (fun n => impl_leastHops.l0 n (i : Int) b (l.length : Int) ((t + 1 : Nat) : Int) a l a (l.set i m) k.f0 k.f1) r → Ev (fun n => impl_leastHops.l0 n (i : Int) b (l.length : Int) (t : Int) a l a (l.set i m) k.f0 k.f1) r := by
      intro hno r hr
      have hj : Ev (fun n => impl_leastHops.j1 n (i : Int) b (t : Int) (l.length : Int) (t : Int) true a l a (l.set i m) k.f0 k.f1) r := Ev.step (fun n => by
        simp only [impl_leastHops.j1]
        rw [if_pos trivial, hw]) hr
      refine Ev.step (fun n => ?_) hj
      simp only [impl_leastHops.l0]
      rw [if_pos (by omega)]
      by_cases hti : t = i
      · rw [if_pos (by omega)]
      · rw [if_neg (by omega), if_pos (by omega), if_pos (by rw [hlen]; omega)]
        have e5 : rd_L2 (l.set i m) (t : Int) = l[t] := by rw [rdL2_nat _ t (by rw [hlen]; exact htl), List.getElem_set_ne (Ne.symm hti)]
        have h5 := (st_in hs).2.2.2.2.1 _ (List.getElem_mem htl)
        have h6 : (l[t].length : Int) = a := by
          by_cases c : (l[t].length : Int) < a
          · exact absurd ⟨htl, hti, c⟩ hno
          · omega
        rw [e5, h6]
        simp
    by_cases hroom : Room a l i t
    · obtain ⟨rt, ⟨g1, g2, _⟩, g3⟩ := hG t hroom
      obtain ⟨_, hti, hrm⟩ := hroom
      have e5 : rd_L2 (l.set i m) (t : Int) = l[t] := by rw [rdL2_nat _ t (by rw [hlen]; exact htl), List.getElem_set_ne (Ne.symm hti)]
      have hrt : -1 ≤ rt := by
        rcases g2 with ⟨h, _⟩ | ⟨h, _⟩ <;> omega
      have htb := (st_small hs).2 _ (List.getElem_mem htl)
      have hcp := copyI_ev a (l.set i m) (by rw [hlen]; exact hl) hml
      have hset : (l.set i m).set t (l[t] ++ [⟨k.f0, k.f1⟩]) = hopd l i t m k := by
        unfold hopd
        rw [getD_at l t [] htl]
      have go : ∀ (b' : Int), b' = (if 0 ≤ rt ∧ (b < 0 ∨ rt + 1 < b) then rt + 1 else b) → ∀ r, Ev (fun n => impl_leastHops.l0 n (i : Int) b' (l.length : Int) ((t + 1 : Nat) : Int) a l a (l.set i m) k.f0 k.f1) r → Ev (fun n => impl_leastHops.l0 n (i : Int) b (l.length : Int) (t : Int) a l a (l.set i m) k.f0 k.f1) r := by
        intro b' hb' r hr
        have hj2 : ∀ c : Bool, c = decide (0 ≤ rt ∧ (b < 0 ∨ rt + 1 < b)) → Ev (fun n => impl_leastHops.j2 n (i : Int) b rt (l.length : Int) (t : Int) c a l a (l.set i m) k.f0 k.f1) r := by
          intro c hc
          refine Ev.step (fun n => ?_) hr
          simp only [impl_leastHops.j2]
          rw [hw, hb', hc]
          by_cases h : 0 ≤ rt ∧ (b < 0 ∨ rt + 1 < b)
          · rw [decide_eq_true h, if_pos rfl, if_pos h, wrap_in (x := rt + 1) (by omega) (by omega)]
          · rw [decide_eq_false h, if_neg (by simp), if_neg h]
        have hj : Ev (fun n => impl_leastHops.j1 n (i : Int) b (t : Int) (l.length : Int) (t : Int) false a l a (l.set i m) k.f0 k.f1) r := by
          refine Ev.round ((Lt.of hcp).and ((Lt.of g1).and (Lt.of (hj2 (decide (0 ≤ rt ∧ (b < 0 ∨ rt + 1 < b))) rfl)))) fun n ⟨f1, f2, f3⟩ => ?_
          simp only [impl_leastHops.j1, f1, Option.bind_some, e5]
          rw [if_neg (by simp), if_pos (by omega), if_pos (by rw [hlen]; omega), if_pos (by omega), Int.toNat_natCast, hset, f2]
          simp only [Option.bind_some]
          by_cases h0 : rt ≥ 0
          · rw [if_pos h0]
            by_cases h1 : b < 0
            · rw [if_pos h1]
              rw [decide_eq_true ⟨h0, .inl h1⟩] at f3
              exact f3
            · rw [if_neg h1, wrap_in (x := rt + 1) (by omega) (by omega)]
              have ed : decide (rt + 1 < b) = decide (0 ≤ rt ∧ (b < 0 ∨ rt + 1 < b)) := decide_eq_decide.2 ⟨fun h => ⟨h0, .inr h⟩, fun h => by rcases h.2 with h | h; exact absurd h h1; exact h⟩
              rw [ed]
              exact f3
          · rw [if_neg h0]
            rw [decide_eq_false (fun h => h0 h.1)] at f3
            exact f3
        refine Ev.step (fun n => ?_) hj
        simp only [impl_leastHops.l0]
        rw [if_pos (by omega), if_neg (by omega), if_pos (by omega), if_pos (by rw [hlen]; omega), e5]
        have : ((l[t].length : Int) == a) = false := by rw [beq_eq_false_iff_ne]; omega
        rw [this]
      obtain ⟨b', hb'⟩ : ∃ b' : Int, b' = (if 0 ≤ rt ∧ (b < 0 ∨ rt + 1 < b) then rt + 1 else b) := ⟨_, rfl⟩
      have hbb : (b' = rt + 1 ∧ 0 ≤ rt ∧ (b < 0 ∨ rt + 1 < b)) ∨ (b' = b ∧ ¬ (0 ≤ rt ∧ (b < 0 ∨ rt + 1 < b))) := by
        rw [hb']
        split
        · rename_i h; exact .inl ⟨rfl, h⟩
        · rename_i h; exact .inr ⟨rfl, h⟩
      obtain ⟨r, h1, h2, h3, h4, h5, h6⟩ := ih (t + 1) (by omega) b' (by omega) (by omega)
      refine ⟨r, go b' hb' r h1, h2, by omega, fun hb => ?_, fun hr => ?_, fun t' n h7 h8 h9 => ?_⟩
      · have := h4 (by omega)
        omega
      · rcases h5 hr with h5 | h5
        · rcases hbb with ⟨h, h', _⟩ | ⟨h, _⟩
          · right
            rcases g2 with ⟨g, _⟩ | ⟨_, g, _⟩
            · omega
            · exact Via.mk t rt.toNat ⟨htl, hti, hrm⟩ g (by omega)
          · exact .inl (by omega)
        · exact .inr h5
      · by_cases e7 : t' = t
        · subst e7
          rcases g2 with ⟨_, g⟩ | ⟨g0, _, g⟩
          · exact absurd h9 (g n)
          · have := g n h9
            have := h4 (by omega)
            omega
        · exact h6 t' n (by omega) h8 h9
    · obtain ⟨r, h1, h2, h3, h4, h5, h6⟩ := ih (t + 1) (by omega) b hb0 hb1
      refine ⟨r, pass hroom r h1, h2, h3, h4, h5, fun t' n h7 h8 h9 => ?_⟩
      by_cases e7 : t' = t
      · subst e7
        exact absurd h8 hroom
      · exact h6 t' n (by omega) h8 h9
theorem spec_scan (hs : stOk a l = true) (hi : i < l.length) (e : l[i] = m ++ [k]) (hG : ∀ t, Room a l i t → ∃ r, Good a (hopd l i t m k) r) :
    ∀ (d t : Nat), t + d = l.length → ∀ c : Int, 1 ≤ c → c ≤ 1001 → ∃ r : Int, Ev (fun n => spec_l06Few.l0 n (i : Int) c (t : Int) a l) r ∧ 1 ≤ r ∧ r ≤ c ∧
      (r = c ∨ Via a l i m k r) ∧ (∀ t' n : Nat, t ≤ t' → Room a l i t' → Dig a (hopd l i t' m k) n → r ≤ n + 1) := by
  obtain ⟨hl, hml⟩ := st_small hs
  intro d
  induction d with
  | zero =>
    intro t ht c hc0 hc1
    refine ⟨c, Ev.step (f := fun _ => some c) (fun n => ?_) (Ev.now _), hc0, Int.le_refl _, .inl rfl, fun t' n h1 h2 _ => ?_⟩
    · simp only [spec_l06Few.l0]
      rw [if_neg (by omega)]
    · obtain ⟨h3, _⟩ := h2
      omega
  | succ d ih =>
    intro t ht c hc0 hc1
    have htl : t < l.length := by omega
    have hw : wrap64 ((t : Int) + 1) = ((t + 1 : Nat) : Int) := wrap_in (x := (t : Int) + 1) (by omega) (by omega)
    by_cases hroom : Room a l i t
    · obtain ⟨rt, _, g2, g3⟩ := hG t hroom
      obtain ⟨_, hti, hrm⟩ := hroom
      have hf := g3 (c - 2) (by omega) (by omega)
      have hh := hop_ev (a := a) hl hml hi htl hti e
      obtain ⟨v, hv⟩ : ∃ v : Int, v = few rt (c - 2) := ⟨_, rfl⟩
      rw [← hv] at hf
      have hv2 : (v = rt ∧ 0 ≤ rt ∧ rt ≤ c - 2) ∨ (v = c - 1 ∧ ¬ (0 ≤ rt ∧ rt ≤ c - 2)) := by
        rw [hv, few]
        split
        · rename_i h; exact .inl ⟨rfl, h⟩
        · rename_i h; exact .inr ⟨by omega, h⟩
      have hmn : mn c (wrap64 (1 + v)) = (if 0 ≤ rt ∧ rt ≤ c - 2 then rt + 1 else c) := by
        rw [wrap_in (x := 1 + v) (by omega) (by omega)]
        unfold mn
        split <;> split <;> omega
      obtain ⟨c', hc'⟩ : ∃ c' : Int, c' = (if 0 ≤ rt ∧ rt ≤ c - 2 then rt + 1 else c) := ⟨_, rfl⟩
      have hcc : (c' = rt + 1 ∧ 0 ≤ rt ∧ rt ≤ c - 2) ∨ (c' = c ∧ ¬ (0 ≤ rt ∧ rt ≤ c - 2)) := by
        rw [hc']
        split
        · rename_i h; exact .inl ⟨rfl, h⟩
        · rename_i h; exact .inr ⟨rfl, h⟩
      obtain ⟨r, h1, h2, h3, h4, h5⟩ := ih (t + 1) (by omega) c' (by omega) (by omega)
      have hj : Ev (fun n => spec_l06Few.j1 n (i : Int) c (t : Int) true a l) r := by
        refine Ev.round ((Lt.of hh).and ((Lt.of hf).and (Lt.of h1))) fun n ⟨f1, f2, f3⟩ => ?_
        simp only [spec_l06Few.j1, f1, Option.bind_some]
        rw [if_pos trivial, wrap_in (x := c - 2) (by omega) (by omega), f2]
        simp only [Option.bind_some]
        rw [hmn, ← hc', hw]
        exact f3
      refine ⟨r, ?_, h2, by omega, ?_, fun t' n h7 h8 h9 => ?_⟩
      · refine Ev.step (fun n => ?_) hj
        simp only [spec_l06Few.l0]
        rw [if_pos (by omega), if_neg (by omega), if_pos (by omega), rdL2_nat l t htl, decide_eq_true hrm]
      · rcases h4 with h4 | h4
        · rcases hcc with ⟨h, h', _⟩ | ⟨h, _⟩
          · right
            rcases g2 with ⟨g, _⟩ | ⟨_, g, _⟩
            · omega
            · exact Via.mk t rt.toNat ⟨htl, hti, hrm⟩ g (by omega)
          · exact .inl (by omega)
        · exact .inr h4
      · by_cases e7 : t' = t
        · subst e7
          rcases g2 with ⟨_, g⟩ | ⟨g0, _, g⟩
          · exact absurd h9 (g n)
          · have := g n h9
            omega
        · exact h5 t' n (by omega) h8 h9
    · obtain ⟨r, h1, h2, h3, h4, h5⟩ := ih (t + 1) (by omega) c hc0 hc1
      refine ⟨r, ?_, h2, h3, h4, fun t' n h7 h8 h9 => ?_⟩
      · have hj : Ev (fun n => spec_l06Few.j1 n (i : Int) c (t : Int) false a l) r := Ev.step (fun n => by
          simp only [spec_l06Few.j1]
          rw [if_neg (by simp), hw]) h1
        refine Ev.step (fun n => ?_) hj
        simp only [spec_l06Few.l0]
        rw [if_pos (by omega)]
        by_cases hti : t = i
        · rw [if_pos (by omega)]
        · rw [if_neg (by omega), if_pos (by omega), rdL2_nat l t htl, decide_eq_false (fun c => hroom ⟨htl, hti, c⟩)]
      · by_cases e7 : t' = t
        · subst e7
          exact absurd h8 hroom
        · exact h5 t' n (by omega) h8 h9
end
theorem good_none {a : Int} {l : List (List S30)} (hs : stOk a l = true) (hn : l.flatten = []) : Good a l 0 := by
  refine ⟨?_, .inr ⟨Int.le_refl _, Dig.none hn, fun n _ => by omega⟩, fun m h0 h1 => ?_⟩
  · refine Ev.round (Lt.of (nextI_ev hs)) fun k e => ?_
    simp only [impl_leastHops.f, e, Option.bind_some]
    rw [if_pos (next_zero hs hn)]
  · have e0 : few 0 m = 0 := by
      unfold few
      split <;> omega
    rw [e0]
    refine Ev.round (Lt.of (spec_nx_ev a l)) fun k e => ?_
    simp only [spec_l06Few.f, e, Option.bind_some]
    rw [if_pos (next_zero hs hn)]
theorem good_last {a : Int} {l : List (List S30)} (hs : stOk a l = true) {i : Nat} (hi : i < l.length) {p : List S30} {x : S30} (hx : isNext l x) (ex : nextOut a l = x.f0) (hx1 : 1 ≤ x.f0) (e : l[i] = p ++ [x]) {r : Int} (hg : Good a (l.set i p) r) : Good a l r := by
  obtain ⟨g1, g2, g3⟩ := hg
  obtain ⟨hl, hml⟩ := st_small hs
  have hb := hml _ (List.getElem_mem hi)
  rw [e, List.length_append] at hb
  obtain ⟨e1, e2, e3, e4⟩ := lane_rd hi e (by omega)
  have hfd : fnd l x.f0 = i := fnd_at hs hi (by rw [e]; simp)
  refine ⟨?_, ?_, fun m h0 h1 => ?_⟩
  · refine Ev.round ((Lt.of (nextI_ev hs)).and ((Lt.of (copyI_ev a l hl hml)).and (Lt.of g1))) fun k ⟨f1, f2, f3⟩ => ?_
    simp only [impl_leastHops.f, f1, Option.bind_some, ex, laneOf_ev, hfd]
    rw [if_neg (by omega), f2]
    simp only [Option.bind_some]
    rw [e2, e3, if_pos (by omega), if_pos (by omega), if_pos (by omega), if_pos (by rw [e1]; simp; omega), if_pos (by rw [e1]; simp; omega), if_pos rfl]
    simp only [Int.toNat_natCast, e4, f3, Option.bind_some]
  · rcases g2 with ⟨h, h'⟩ | ⟨h, h', h''⟩
    · exact .inl ⟨h, fun n hn => h' n (dig_last hs hi hx e hn)⟩
    · exact .inr ⟨h, Dig.out hi hx e h', fun n hn => h'' n (dig_last hs hi hx e hn)⟩
  · refine Ev.round ((Lt.of (spec_nx_ev a l)).and ((Lt.of (find_ev a l x.f0 hl hml)).and ((Lt.of (copyS_ev a l hl hml)).and (Lt.of (g3 m h0 h1))))) fun k ⟨f1, f2, f3, f4⟩ => ?_
    simp only [spec_l06Few.f, f1, Option.bind_some, ex]
    rw [if_neg (by omega), f2]
    simp only [Option.bind_some, hfd]
    rw [e2, e3, if_pos (by omega), if_pos (by omega), if_pos (by omega), if_pos (by rw [e1]; simp; omega), if_pos rfl, f3]
    simp only [Option.bind_some, Int.toNat_natCast, e4]
    rw [if_pos (by omega), if_pos (by rw [e1]; simp; omega), f4]
    rfl
theorem good_hop {a : Int} {l : List (List S30)} (hs : stOk a l = true) {i : Nat} (hi : i < l.length) {m : List S30} {x k : S30} (hx : isNext l x) (ex : nextOut a l = x.f0) (hx1 : 1 ≤ x.f0) (hm : x ∈ m) (e : l[i] = m ++ [k]) (hne : ¬ k.f0 = x.f0)
    {B : Int} (hB : 0 ≤ B ∧ B ≤ 1000) (hG : ∀ t, Room a l i t → ∃ r, Good a (hopd l i t m k) r ∧ r ≤ B) : ∃ r, Good a l r ∧ r ≤ B + 1 := by
  obtain ⟨hl, hml⟩ := st_small hs
  have hb := hml _ (List.getElem_mem hi)
  rw [e, List.length_append] at hb
  obtain ⟨e1, e2, e3, e4⟩ := lane_rd hi e (by omega)
  have hfd : fnd l x.f0 = i := fnd_at hs hi (by rw [e]; simp [hm])
  obtain ⟨r, h1, h2, h3, h4, h5, h6⟩ := impl_scan hs hi e B hB hG l.length 0 (by omega) (-1) (by omega) (by omega)
  have hpos : 0 ≤ r → 1 ≤ r := fun h => by
    rcases h5 h with h5 | ⟨_, n, _, _, h5⟩ <;> omega
  have hleast : Least a l r := by
    by_cases h0 : 0 ≤ r
    · right
      refine ⟨h0, ?_, fun n hn => ?_⟩
      · rcases h5 h0 with h5 | ⟨t, n, ⟨ht, hti, hr⟩, hd, h5⟩
        · omega
        · rw [show r.toNat = n + 1 by omega]
          exact Dig.hop hi ht hx hm e hti hr hd
      · obtain ⟨t, n', ht, hti, hr, en, hd⟩ := dig_hop hs hi hx hm e hn
        have := (h6 t n' (by omega) ⟨ht, hti, hr⟩ hd).2
        omega
    · left
      refine ⟨by omega, fun n hn => ?_⟩
      obtain ⟨t, n', ht, hti, hr, en, hd⟩ := dig_hop hs hi hx hm e hn
      exact h0 (h6 t n' (by omega) ⟨ht, hti, hr⟩ hd).1
  refine ⟨r, ⟨?_, hleast, fun q h7 h8 => ?_⟩, by omega⟩
  · refine Ev.round ((Lt.of (nextI_ev hs)).and ((Lt.of (copyI_ev a l hl hml)).and (Lt.of h1))) fun n ⟨f1, f2, f3⟩ => ?_
    simp only [impl_leastHops.f, f1, Option.bind_some, ex, laneOf_ev, hfd]
    rw [if_neg (by omega), f2]
    simp only [Option.bind_some]
    rw [e2, e3, if_pos (by omega), if_pos (by omega), if_pos (by omega), if_pos (by rw [e1]; simp; omega), if_pos (by rw [e1]; simp; omega), if_neg hne]
    simp only [Int.toNat_natCast, e4]
    exact f3
  · by_cases hq : q ≤ 0
    · have e0 : few r q = q + 1 := by
        unfold few
        rw [if_neg (fun h => by have := hpos h.1; omega)]
      rw [e0]
      refine Ev.round ((Lt.of (spec_nx_ev a l)).and (Lt.of (find_ev a l x.f0 hl hml))) fun n ⟨f1, f2⟩ => ?_
      simp only [spec_l06Few.f, f1, Option.bind_some, ex]
      rw [if_neg (by omega), f2]
      simp only [Option.bind_some, hfd]
      rw [e2, e3, if_pos (by omega), if_pos (by omega), if_pos (by omega), if_pos (by rw [e1]; simp; omega), if_neg hne, if_pos hq, wrap_in (x := q + 1) (by omega) (by omega)]
    · obtain ⟨c, k1, k2, k3, k4, k5⟩ := spec_scan hs hi e (fun t h => by obtain ⟨r, g, _⟩ := hG t h; exact ⟨r, g⟩) l.length 0 (by omega) (q + 1) (by omega) (by omega)
      have ec : few r q = c := by
        unfold few
        by_cases h0 : 0 ≤ r ∧ r ≤ q
        · rw [if_pos h0]
          rcases h5 h0.1 with h5 | ⟨t, n, hr, hd, h5⟩
          · omega
          · have u1 := k5 t n (by omega) hr hd
            rcases k4 with k4 | ⟨t', n', hr', hd', k4⟩
            · omega
            · have := (h6 t' n' (by omega) hr' hd').2
              omega
        · rw [if_neg h0]
          rcases k4 with k4 | ⟨t', n', hr', hd', k4⟩
          · exact k4.symm
          · have := h6 t' n' (by omega) hr' hd'
            omega
      rw [ec]
      refine Ev.round ((Lt.of (spec_nx_ev a l)).and ((Lt.of (find_ev a l x.f0 hl hml)).and (Lt.of k1))) fun n ⟨f1, f2, f3⟩ => ?_
      simp only [spec_l06Few.f, f1, Option.bind_some, ex]
      rw [if_neg (by omega), f2]
      simp only [Option.bind_some, hfd]
      rw [e2, e3, if_pos (by omega), if_pos (by omega), if_pos (by omega), if_pos (by rw [e1]; simp; omega), if_neg hne, if_neg hq, wrap_in (x := q + 1) (by omega) (by omega)]
      exact f3
theorem good_ev (a : Int) : ∀ (N : Nat), N ≤ 20 → ∀ (l : List (List S30)), stOk a l = true → l.flatten.length = N → ∃ r, Good a l r ∧ r ≤ 4 * N
  | 0, _, l, hs, hN => ⟨0, good_none hs (List.eq_nil_of_length_eq_zero hN), by omega⟩
  | N + 1, h20, l, hs, hN => by
    have inner : ∀ (d : Nat), d ≤ 4 → ∀ (l : List (List S30)) (i : Nat) (p q : List S30) (x : S30), stOk a l = true → l.flatten.length = N + 1 → isNext l x → nextOut a l = x.f0 → 1 ≤ x.f0 → ∀ (hi : i < l.length), l[i] = p ++ x :: q → q.length = d → ∃ r, Good a l r ∧ r ≤ 4 * N + d := by
      intro d
      induction d with
      | zero =>
        intro _ l i p q x hs hN hx ex hx1 hi e hq
        have hq0 : q = [] := List.eq_nil_of_length_eq_zero hq
        subst hq0
        have hp := (flat_off l i hi p x e).length_eq
        rw [hN, List.length_cons] at hp
        obtain ⟨r, g1, g2⟩ := good_ev a N (by omega) (l.set i p) (st_off hs hi e) (by omega)
        exact ⟨r, good_last hs hi hx ex hx1 e g1, by omega⟩
      | succ d ih =>
        intro h4 l i p q x hs hN hx ex hx1 hi e hq
        obtain ⟨q', k, rfl⟩ : ∃ q' k, q = q' ++ [k] := ⟨q.dropLast, q.getLast (by intro h; rw [h] at hq; cases hq), (List.dropLast_concat_getLast _).symm⟩
        have e' : l[i] = (p ++ x :: q') ++ [k] := by rw [e]; simp
        obtain ⟨r, g1, g2⟩ := good_hop (B := 4 * N + d) hs hi hx ex hx1 (m := p ++ x :: q') (k := k) (by simp) e' (last_ne hs hi e') (by omega) (fun t hr => by
          obtain ⟨ht, hti, hrm⟩ := hr
          have hpm := hopd_perm hi ht hti e'
          have hs' := st_hop hs hi ht hti hrm e'
          have hx' := next_perm hpm hx
          obtain ⟨y, hy, ey, hy1⟩ := next_is hs' (fun h0 => by have h1 := hx'.1; rw [h0] at h1; cases h1)
          have eyx := isNext_one hy hx'
          subst eyx
          exact ih (by omega) (hopd l i t (p ++ y :: q') k) i p q' y hs' (by rw [hpm.length_eq]; exact hN) hx' ey hx1 (by rw [hopd_len]; exact hi) (hopd_at hi hti) (by simpa using hq))
        exact ⟨r, g1, by omega⟩
    obtain ⟨x, hx, ex, hx1⟩ := next_is hs (fun e => by rw [e] at hN; cases hN)
    obtain ⟨i, hi, hxi⟩ := mem_lane hx.1
    obtain ⟨p, q, e⟩ := lane_split hxi
    have hq := lane_short hs hi e
    obtain ⟨r, g1, g2⟩ := inner q.length hq l i p q x hs hN hx ex hx1 hi e rfl
    exact ⟨r, g1, by omega⟩
end Go.Proofs.Ytheckjlldkkceaa.Pu
