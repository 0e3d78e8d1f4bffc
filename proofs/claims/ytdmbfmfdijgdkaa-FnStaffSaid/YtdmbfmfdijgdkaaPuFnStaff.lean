/- FnStaff: the pure statement that is left of this law, about numbers and lists alone. -/
import Derived.Test.YtdmbfmfdijgdkaaStFnStaff
import Derived.Test.YtdmbfmfdijgdkaaSt
namespace Go.Proofs.Ytdmbfmfdijgdkaa.Pu
open Go.RowKit Go.Proofs.Ytdmbfmfdijgdkaa.Px Go.Proofs.YtdmbfmfdijgdkaaW.PrintWords Go.Proofs.YtdmbfmfdijgdkaaW.PrintLast
set_option linter.unusedVariables false

theorem FnStaff : laws_FnStaff.Pure := by
  intro b ⟨h1, h2, h3⟩
  by_cases hb : b.length ≤ 1048576
  · obtain ⟨l, w, n, hd, l1, l2, w0, w1, n0, n1⟩ := draw_ev b hb
    have hr : ∀ m : Int, 1 ≤ m → m ≤ 16 → rt l w m = true := fun m m0 m1 => by
      simp only [rt, Bool.and_eq_true, decide_eq_true_eq]
      exact ⟨⟨⟨⟨l2, w0⟩, by omega⟩, m0⟩, m1⟩
    have hen : dropped l w (mx 1 (l.length : Int)) = 0 := dr_enough l w _ (hr _ (by unfold mx; split <;> omega) (by unfold mx; split <;> omega)) (by unfold mx; split <;> omega)
    have hmx : 1 ≤ mx 1 (l.length : Int) ∧ mx 1 (l.length : Int) ≤ 16 := by unfold mx; split <;> omega
    obtain ⟨q1, q2, q3⟩ := least_ok (dropped l w) (fun m m0 m1 h => dr_more l w m m0 m1 h) 16 1 (mx 1 (l.length : Int)) (by omega) (by omega) hmx.1 hmx.2 hen
    have hmost := most_ge l w n (hr n n0 (by omega)) (by omega)
    have hd0 : 0 ≤ dropped l w n ∧ dropped l w n ≤ 16 := by
      have := serve_len l w n
      have hle : negs (serve l w n) ≤ (serve l w n).length := List.countP_le_length
      unfold dropped
      rw [if_pos (hr n n0 (by omega))]
      omega
    have loop : ∀ (d : Nat) (m : Int), m + d = 17 → 1 ≤ m → Ev (fun k => laws_FnStaff.l0 k l w n (leastStaff l w) m) true := by
      intro d
      induction d with
      | zero =>
        intro m hm hm1
        refine Ev.round ((Lt.of (impl_mo_ev l (by omega) w n)).and ((Lt.of (spec_mo_ev l (by omega) w n)).and (Lt.of (impl_dr_ev l (by omega) w n)))) fun k ⟨e1, e2, e3⟩ => ?_
        simp only [laws_FnStaff.l0, e1, e2, e3, Option.bind_some]
        rw [if_neg (by omega), if_pos trivial, wrap_in (by omega) (by omega), decide_eq_true (by omega)]
      | succ d ih =>
        intro m hm hm1
        refine Ev.round ((Lt.of (impl_dr_ev l (by omega) w m)).and ((Lt.of (spec_dr_ev l (by omega) w m)).and (Lt.of (ih (m + 1) (by omega) (by omega))))) fun k ⟨e1, e2, e3⟩ => ?_
        simp only [laws_FnStaff.l0, e1, e2, Option.bind_some]
        rw [if_pos (by omega), if_pos trivial, wrap_in (x := m + 1) (by omega) (by omega)]
        have := q3 m hm1 (by omega)
        have e : ((dropped l w m == 0) != decide (m ≥ leastStaff l w)) = false := by
          by_cases hz : dropped l w m = 0
          · rw [decide_eq_true (show m ≥ leastStaff l w from this.1 hz)]
            simp [hz]
          · rw [decide_eq_false (show ¬ m ≥ leastStaff l w from fun h => hz (this.2 h))]
            simp [hz]
        rw [e, if_neg (by simp)]
        exact e3
    have live : Ev (fun k => laws_FnStaff.j0 k l w n (leastStaff l w) false) true := Ev.step (fun k => by simp only [laws_FnStaff.j0]; rw [if_neg (by simp)]) (loop 16 1 (by omega) (by omega))
    refine Lt.get ((Lt.of hd).and ((Lt.of (impl_ls_ev l (by omega) w)).and ((Lt.of (spec_ls_ev l (by omega) w)).and (Lt.of live)))) fun k ⟨e1, e2, e3, e4⟩ => ?_
    have hle : leastStaff l w = least (dropped l w) 16 1 := rfl
    simp only [laws_FnStaff.f, laws_big.f, e1, e2, e3, Option.bind_some]
    rw [if_neg (by simp; omega), if_pos trivial, if_neg (by omega), decide_eq_false (by omega)]
    exact e4
  · exact ⟨0, by simp only [laws_FnStaff.f, laws_big.f, Option.bind_some]; rw [if_pos (by simp; omega)]⟩

end Go.Proofs.Ytdmbfmfdijgdkaa.Pu
