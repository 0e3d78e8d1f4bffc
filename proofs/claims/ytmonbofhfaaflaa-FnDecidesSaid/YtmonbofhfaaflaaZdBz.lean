import Derived.Test.YtmonbofhfaaflaaZdBx
import Derived.Test.YtmonbofhfaaflaaZdBd
import Derived.Test.YtmonbofhfaaflaaZdPx26
namespace Go.Proofs.Ytmonbofhfaaflaa.Pu
open Go.RowKit Go.Proofs.Ytmonbofhfaaflaa.Px Go.Proofs.YtmonbofhfaaflaaW.PrintWords Go.Proofs.YtmonbofhfaaflaaW.PrintLast
set_option linter.unusedVariables false

theorem elap_since0 (p : List Int) (hp : polOk p = true) (a v : Int) : ∀ (d : Nat) (lv si : Int), lv + d = 4 → 1 ≤ lv → si ≤ (elap p a v d lv si).2.1
  | 0, lv, si, h, h1 => by simp [elap]
  | d + 1, lv, si, h, h1 => by
    obtain ⟨w1, w2⟩ := pol_rd p hp (lv - 1) (by omega) (by omega)
    have ih := elap_since0 p hp a v d (lv + 1) (si + rd p (lv - 1)) (by omega) (by omega)
    simp only [elap]
    split
    · omega
    · simp
theorem anyPolicy_ok (b : List Int) (i h : Int) (c : Cur b i) : ∃ p i' h', spec_l04AnyPolicy.f b i h = some (p, i', h') ∧ Cur b i' := by
  obtain ⟨p, i1, h1, e1, _, hl, c1⟩ := policy_ok b i h c
  obtain ⟨x, i2, h2, e2, _, _, _, c2⟩ := below_ok b i1 h1 c1 18
  obtain ⟨y, i3, h3, e3, p3, q3, _, c3⟩ := below_ok b i2 h2 c2 3
  obtain ⟨z, i4, h4, e4, _, c4⟩ := pick_ok b i3 h3 c3 [0, 5000, 5001, (-1)] (by simp) (by simp)
  have r3 := q3 (by omega)
  unfold spec_l04AnyPolicy.f
  simp only [e1, e2, e3, e4, Option.bind_some]
  by_cases g0 : x = 0
  · rw [if_pos g0, if_pos p3, if_pos (by omega)]
    exact ⟨_, _, _, rfl, c4⟩
  · rw [if_neg g0]
    by_cases g1 : x = 1
    · rw [if_pos g1, if_pos (by omega)]
      exact ⟨_, _, _, rfl, c2⟩
    · rw [if_neg g1]
      by_cases g2 : x = 2
      · rw [if_pos g2, if_pos (by omega)]
        exact ⟨_, _, _, rfl, c2⟩
      · rw [if_neg g2]
        exact ⟨_, _, _, rfl, c2⟩
theorem anyScreen_ok (b : List Int) (i h : Int) (c : Cur b i) : ∃ lv si v i' h', spec_l04AnyScreen.f b i h = some (lv, si, v, i', h') ∧ Cur b i' := by
  obtain ⟨lv, si, v, i1, h1, e1, _, _, c1⟩ := screen_ok b i h c
  obtain ⟨x, i2, h2, e2, _, _, _, c2⟩ := below_ok b i1 h1 c1 16
  obtain ⟨y, i3, h3, e3, _, c3⟩ := pick_ok b i2 h2 c2 [0, 5, (-1), 4] (by simp) (by simp)
  obtain ⟨y2, i4, h4, e4, _, c4⟩ := pick_ok b i2 h2 c2 [(-1), 100000, 100001, 99990] (by simp) (by simp)
  obtain ⟨y3, i5, h5, e5, _, c5⟩ := pick_ok b i2 h2 c2 [(-1), 2, 3] (by simp) (by simp)
  unfold spec_l04AnyScreen.f
  simp only [e1, e2, e3, e4, e5, Option.bind_some]
  by_cases g0 : x = 0
  · rw [if_pos g0]; exact ⟨_, _, _, _, _, rfl, c3⟩
  · rw [if_neg g0]
    by_cases g1 : x = 1
    · rw [if_pos g1]; exact ⟨_, _, _, _, _, rfl, c4⟩
    · rw [if_neg g1]
      by_cases g2 : x = 2
      · rw [if_pos g2]; exact ⟨_, _, _, _, _, rfl, c5⟩
      · rw [if_neg g2]; exact ⟨_, _, _, _, _, rfl, c2⟩
theorem now_ok (b : List Int) (i h : Int) (c : Cur b i) (a1 a2 a3 : Int) : ∃ t i' h', spec_l04Now.f b i h a1 a2 a3 = some (t, i', h') ∧ Cur b i' := by
  obtain ⟨x, i2, h2, e2, c2⟩ := once_ok b i h c 12
  obtain ⟨y, i3, h3, e3, _, c3⟩ := pick_ok b i2 h2 c2 [(-1), 0, 100000, 100001, (-9223372036854775808)] (by simp) (by simp)
  obtain ⟨y2, i4, h4, e4, _, c4⟩ := pick_ok b i2 h2 c2 [0, 0, 1, 2, 5, 7, 12, 25, 60, (-1)] (by simp) (by simp)
  unfold spec_l04Now.f
  simp only [e2, e3, e4, Option.bind_some]
  cases x with
  | true => exact ⟨_, _, _, rfl, c3⟩
  | false => exact ⟨_, _, _, rfl, c4⟩
theorem drawDecide_ev (b : List Int) (hb : b.length ≤ 1048576) : ∃ p lv si v now vd, Ev (fun k => spec_DrawDecide.f k b) (p, lv, si, v, now, vd) := by
  obtain ⟨h0, e0, c0⟩ := new_ev b hb
  obtain ⟨p, i1, h1, e1, c1⟩ := anyPolicy_ok b 0 h0 c0
  obtain ⟨lv, si, v, i2, h2, e2, c2⟩ := anyScreen_ok b i1 h1 c1
  obtain ⟨t, i3, h3, e3, c3⟩ := now_ok b i2 h2 c2 lv si v
  obtain ⟨vd, i4, h4, e4, _, c4⟩ := pick_ok b i3 h3 c3 [0, 1, 1, 2, 2, 3, (-1)] (by simp) (by simp)
  refine ⟨p, lv, si, v, t, vd, Lt.ev (Lt.of e0) (fun n e => ?_)⟩
  simp only [spec_DrawDecide.f, e, e1, e2, e3, e4, Option.bind_some]
end Go.Proofs.Ytmonbofhfaaflaa.Pu
