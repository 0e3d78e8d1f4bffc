/- FnServed: the pure statement that is left of this law, about numbers and lists alone. -/
import Derived.Test.YtdmbfmfdijgdkaaStFnServed
import Derived.Test.YtdmbfmfdijgdkaaSe
namespace Go.Proofs.Ytdmbfmfdijgdkaa.Pu
open Go.RowKit Go.Proofs.Ytdmbfmfdijgdkaa.Px Go.Proofs.YtdmbfmfdijgdkaaW.PrintWords Go.Proofs.YtdmbfmfdijgdkaaW.PrintLast
set_option linter.unusedVariables false

theorem FnServed : laws_FnServed.Pure := by
  intro b ⟨h1, h2, h3⟩
  by_cases hb : b.length ≤ 1048576
  · obtain ⟨l, w, n, hd, l1, l2, w0, w1, n0, n1⟩ := draw_ev b hb
    obtain ⟨l', w', n', hd', l1'⟩ := draw_serve_ev b hb
    have hr : rt l w n = true := by
      simp only [rt, Bool.and_eq_true, decide_eq_true_eq]
      exact ⟨⟨⟨⟨l2, w0⟩, by omega⟩, n0⟩, by omega⟩
    have hse : serve l w n = sv w l (List.replicate n.toNat 0) := by unfold serve; rw [if_pos hr]
    have hlen : (serve l w n).length = l.length := by rw [hse, sv_len]
    have hin := (imgs_in l2).1
    have hsl := serve_len l' w' n'
    have last : Ev (fun k => laws_FnServed.l0 k b l w n (serve l w n) ((serve l w n).length : Int)) true := by
      refine Ev.round ((Lt.of hd').and ((Lt.of (impl_sv_ev l' (by omega) w' n')).and ((Lt.of (spec_sv_ev l' (by omega) w' n')).and ((Lt.of (same_ev (serve l' w' n') (by omega))).and ((Lt.of (impl_dr_ev l' (by omega) w' n')).and (Lt.of (spec_dr_ev l' (by omega) w' n'))))))) fun k ⟨e1, e2, e3, e4, e5, e6⟩ => ?_
      simp only [laws_FnServed.l0, e1, e2, e3, e4, e5, e6, Option.bind_some]
      rw [if_neg (by omega)]
      simp
    have count : ∀ (d i : Nat), i < l.length → ∀ (j : Nat), j + d = l.length → ∀ c : Nat, c ≤ j → (c : Int) + (busy ((serve l w n).getD i 0) (l.drop j) ((serve l w n).drop j) : Int) ≤ n →
        Ev (fun k => laws_FnServed.l0 k b l w n (serve l w n) ((i + 1 : Nat) : Int)) true → Ev (fun k => laws_FnServed.l1 k b l w n (serve l w n) (i : Int) (c : Int) (j : Int)) true := by
      intro d
      induction d with
      | zero =>
        intro i hi j hj c hc hle hk
        refine Ev.step (fun k => ?_) hk
        simp only [laws_FnServed.l1]
        rw [if_neg (by omega), if_neg (by omega), wrap_in (x := (i : Int) + 1) (by omega) (by omega)]
        rfl
      | succ d ih =>
        intro i hi j hj c hc hle hk
        have hlt : j < l.length := by omega
        have hlt2 : j < (serve l w n).length := by omega
        rw [List.drop_eq_getElem_cons hlt, List.drop_eq_getElem_cons hlt2] at hle
        simp only [busy] at hle
        have eo : (serve l w n)[j] = (serve l w n).getD j 0 := by simp [hlt2]
        have ex : l[j] = rd_T41 l (j : Int) := by rw [rd41_getD]; simp [hlt]
        rw [eo, ex] at hle
        have hx := hin l[j] (List.getElem_mem hlt)
        rw [ex] at hx
        obtain ⟨x0, x1, x2, x3⟩ := hx
        have hs := sv_in w l (List.replicate n.toNat 0) j hlt
        rw [← hse, ← rd41_getD] at hs
        have yes : (0 ≤ (serve l w n).getD j 0 ∧ (serve l w n).getD j 0 ≤ (serve l w n).getD i 0 ∧ (serve l w n).getD i 0 < (serve l w n).getD j 0 + (rd_T41 l (j : Int)).f1) → Ev (fun k => laws_FnServed.j4 k b l w n (serve l w n) (i : Int) (c : Int) (j : Int) true) true := by
          intro hy
          rw [if_pos hy] at hle
          refine Ev.step (fun k => ?_) (ih i hi (j + 1) (by omega) (c + 1) (by omega) (by omega) hk)
          simp only [laws_FnServed.j4]
          rw [if_pos trivial, wrap_in (x := (c : Int) + 1) (by omega) (by omega), wrap_in (x := (j : Int) + 1) (by omega) (by omega)]
          rfl
        have no : ¬ (0 ≤ (serve l w n).getD j 0 ∧ (serve l w n).getD j 0 ≤ (serve l w n).getD i 0 ∧ (serve l w n).getD i 0 < (serve l w n).getD j 0 + (rd_T41 l (j : Int)).f1) → Ev (fun k => laws_FnServed.j4 k b l w n (serve l w n) (i : Int) (c : Int) (j : Int) false) true := by
          intro hy
          rw [if_neg hy] at hle
          refine Ev.step (fun k => ?_) (ih i hi (j + 1) (by omega) c (by omega) (by omega) hk)
          simp only [laws_FnServed.j4]
          rw [if_neg (by simp), wrap_in (x := (j : Int) + 1) (by omega) (by omega)]
          rfl
        by_cases c1 : (serve l w n).getD j 0 ≥ 0
        · by_cases c2 : (serve l w n).getD j 0 ≤ (serve l w n).getD i 0
          · by_cases c3 : (serve l w n).getD i 0 < (serve l w n).getD j 0 + (rd_T41 l (j : Int)).f1
            · refine Ev.step (fun k => ?_) (yes ⟨c1, c2, c3⟩)
              simp only [laws_FnServed.l1, rd_getD]
              rw [if_pos (by omega), if_pos (by omega), if_pos c1, if_pos (by omega), if_pos (by omega), if_pos c2, if_pos (by omega), wrap_in (x := (serve l w n).getD j 0 + _) (by omega) (by omega), decide_eq_true c3]
            · refine Ev.step (fun k => ?_) (no (fun h => c3 h.2.2))
              simp only [laws_FnServed.l1, rd_getD]
              rw [if_pos (by omega), if_pos (by omega), if_pos c1, if_pos (by omega), if_pos (by omega), if_pos c2, if_pos (by omega), wrap_in (x := (serve l w n).getD j 0 + _) (by omega) (by omega), decide_eq_false c3]
          · refine Ev.step (fun k => ?_) (no (fun h => c2 h.2.1))
            simp only [laws_FnServed.l1, rd_getD]
            rw [if_pos (by omega), if_pos (by omega), if_pos c1, if_pos (by omega), if_pos (by omega), if_neg c2]
        · refine Ev.step (fun k => ?_) (no (fun h => c1 h.1))
          simp only [laws_FnServed.l1, rd_getD]
          rw [if_pos (by omega), if_pos (by omega), if_neg c1]
    have loop : ∀ (d i : Nat), i + d = l.length → Ev (fun k => laws_FnServed.l0 k b l w n (serve l w n) (i : Int)) true := by
      intro d
      induction d with
      | zero =>
        intro i hi
        have : i = (serve l w n).length := by omega
        subst this
        exact last
      | succ d ih =>
        intro i hi
        have hlt : i < l.length := by omega
        have hk := ih (i + 1) (by omega)
        have hs := sv_in w l (List.replicate n.toNat 0) i hlt
        rw [← hse, ← rd41_getD] at hs
        have hx := hin l[i] (List.getElem_mem hlt)
        have ex : l[i] = rd_T41 l (i : Int) := by rw [rd41_getD]; simp [hlt]
        rw [ex] at hx
        obtain ⟨x0, x1, x2, x3⟩ := hx
        have hbz := busy_le w ((serve l w n).getD i 0) l (List.replicate n.toNat 0) hin (by simp; omega)
        rw [← hse, List.length_replicate] at hbz
        by_cases hneg : (serve l w n).getD i 0 < 0
        · refine Ev.step (fun k => ?_) hk
          simp only [laws_FnServed.l0, rd_getD]
          rw [if_pos (by omega), if_pos (by omega), if_pos hneg, wrap_in (x := (i : Int) + 1) (by omega) (by omega)]
          rfl
        · have hc := count l.length i hlt 0 (by omega) 0 (by omega) (by simp only [List.drop_zero]; omega) hk
          have hj : Ev (fun k => laws_FnServed.j2 k b l w n (serve l w n) (i : Int) false) true := Ev.step (fun k => by simp only [laws_FnServed.j2]; rw [if_neg (by simp)]; rfl) hc
          refine Ev.step (fun k => ?_) hj
          simp only [laws_FnServed.l0, rd_getD]
          rw [if_pos (by omega), if_pos (by omega), if_neg hneg, if_pos (by omega), if_neg (by omega), wrap_in (x := (rd_T41 l (i : Int)).f0 + w) (by omega) (by omega), decide_eq_false (by omega)]
    have live : Ev (fun k => laws_FnServed.j0 k b l w n (serve l w n) false) true := Ev.step (fun k => by simp only [laws_FnServed.j0]; rw [if_neg (by simp)]; rfl) (loop l.length 0 (by omega))
    refine Lt.get ((Lt.of hd).and ((Lt.of (impl_sv_ev l (by omega) w n)).and ((Lt.of (spec_sv_ev l (by omega) w n)).and ((Lt.of (same_ev (serve l w n) (by omega))).and ((Lt.of (impl_img_ev l (by omega))).and (Lt.of live)))))) fun k ⟨e1, e2, e3, e4, e5, e6⟩ => ?_
    simp only [laws_FnServed.f, laws_big.f, e1, e2, e3, e4, e5, l2, Option.bind_some]
    rw [if_neg (by simp; omega), if_pos trivial, if_pos (by omega)]
    exact e6
  · exact ⟨0, by simp only [laws_FnServed.f, laws_big.f, Option.bind_some]; rw [if_pos (by simp; omega)]⟩

end Go.Proofs.Ytdmbfmfdijgdkaa.Pu
