/- Dropped and LeastStaff: both versions alike. -/
import Derived.Test.YtdmbfmfdijgdkaaSv
import Derived.Test.YtdmbfmfdijgdkaaPx3
namespace Go.Proofs.Ytdmbfmfdijgdkaa.Pu
open Go.RowKit Go.Proofs.Ytdmbfmfdijgdkaa.Px Go.Proofs.YtdmbfmfdijgdkaaW.PrintWords Go.Proofs.YtdmbfmfdijgdkaaW.PrintLast Go.Proofs.YtdmbfmfdijgdkaaW.PrintMore
set_option linter.unusedVariables false

theorem sv_len (w : Int) : ∀ (l : List S41) (f : List Int), (sv w l f).length = l.length
  | [], _ => rfl
  | x :: r, f => by
    simp only [sv]
    split <;> simp [sv_len w r]
theorem serve_len (l : List S41) (w n : Int) : (serve l w n).length ≤ 16 := by
  unfold serve
  split
  · rename_i h
    rw [sv_len]
    exact (imgs_in (rt_in h).1).2
  · simp
def negs (out : List Int) : Nat := out.countP (fun x => decide (x < 0))
theorem spec_dr_l (out : List Int) (hl : out.length ≤ 1000) : ∀ (d i : Nat), i + d = out.length → ∀ c : Int, 0 ≤ c → c ≤ i → Ev (fun k => spec_Dropped.l0 k c out (i : Int)) (c + (negs (out.drop i) : Int)) := by
  intro d
  induction d with
  | zero =>
    intro i hi c h0 h1
    rw [List.drop_of_length_le (by omega)]
    refine Ev.step (f := fun _ => some c) (fun k => ?_) (by simpa [negs] using Ev.now _)
    simp only [spec_Dropped.l0]
    rw [if_neg (by omega)]
  | succ d ih =>
    intro i hi c h0 h1
    have hlt : i < out.length := by omega
    have er : rd out (i : Int) = out[i] := rd_nat out i hlt
    rw [List.drop_eq_getElem_cons hlt]
    simp only [negs, List.countP_cons]
    by_cases h : out[i] < 0
    · have := ih (i + 1) (by omega) (c + 1) (by omega) (by omega)
      have e : c + 1 + (negs (out.drop (i + 1)) : Int) = c + ((List.countP (fun x => decide (x < 0)) (out.drop (i + 1)) + if decide (out[i] < 0) = true then 1 else 0 : Nat) : Int) := by
        rw [decide_eq_true h]
        simp [negs]
        omega
      rw [e] at this
      refine Ev.step (fun k => ?_) this
      simp only [spec_Dropped.l0]
      rw [if_pos (by omega), if_pos (by omega), er, if_pos h, wrap_in (x := c + 1) (by omega) (by omega), wrap_in (x := (i : Int) + 1) (by omega) (by omega)]
      rfl
    · have := ih (i + 1) (by omega) c (by omega) (by omega)
      rw [decide_eq_false h]
      refine Ev.step (fun k => ?_) (by simpa [negs] using this)
      simp only [spec_Dropped.l0]
      rw [if_pos (by omega), if_pos (by omega), er, if_neg h, wrap_in (x := (i : Int) + 1) (by omega) (by omega)]
theorem impl_dr_eq (out : List Int) : ∀ (k : Nat) (c i : Int), 0 ≤ i → impl_Dropped.l0 k c out (out.length : Int) i = spec_Dropped.l0 k c out i
  | 0, c, i, _ => by simp only [impl_Dropped.l0, spec_Dropped.l0]
  | k + 1, c, i, hi => by
    simp only [impl_Dropped.l0, spec_Dropped.l0]
    by_cases h : i < (out.length : Int)
    · have hw : 0 ≤ wrap64 (i + 1) ∨ wrap64 (i + 1) < 0 := by omega
      rw [if_pos h, if_pos h, if_pos hi, if_pos hi, if_pos h]
      rcases hw with hw | hw
      · rw [impl_dr_eq out k _ _ hw, impl_dr_eq out k _ _ hw]
      · have dead1 : ∀ k c, impl_Dropped.l0 k c out (out.length : Int) (wrap64 (i + 1)) = none := by
          intro k c
          cases k with
          | zero => simp only [impl_Dropped.l0]
          | succ k => simp only [impl_Dropped.l0]; rw [if_pos (by omega), if_neg (by omega)]
        have dead2 : ∀ k c, spec_Dropped.l0 k c out (wrap64 (i + 1)) = none := by
          intro k c
          cases k with
          | zero => simp only [spec_Dropped.l0]
          | succ k => simp only [spec_Dropped.l0]; rw [if_pos (by omega), if_neg (by omega)]
        simp only [dead1, dead2]
    · rw [if_neg h, if_neg h]
def dropped (l : List S41) (w n : Int) : Int := if rt l w n = true then (negs (serve l w n) : Int) else -1
theorem spec_dr_ev (l : List S41) (hn : l.length ≤ 4611686018427387904) (w n : Int) : Ev (fun k => spec_Dropped.f k l w n) (dropped l w n) := by
  have hs := spec_dr_l (serve l w n) (by have := serve_len l w n; omega) (serve l w n).length 0 (by omega) 0 (by omega) (by omega)
  refine Lt.ev ((Lt.of (right_ev l hn w n)).and ((Lt.of (spec_sv_ev l hn w n)).and (Lt.of hs))) fun k ⟨e1, e2, e3⟩ => ?_
  simp only [spec_Dropped.f, e1, e2, Option.bind_some, dropped]
  split
  · simpa using e3
  · rfl
theorem impl_dr_ev (l : List S41) (hn : l.length ≤ 4611686018427387904) (w n : Int) : Ev (fun k => impl_Dropped.f k l w n) (dropped l w n) := by
  have hs := spec_dr_l (serve l w n) (by have := serve_len l w n; omega) (serve l w n).length 0 (by omega) 0 (by omega) (by omega)
  have dead : Ev (fun k => impl_Dropped.j0 k l w n true) (-1) := Ev.step (f := fun _ => some (-1)) (fun k => by simp [impl_Dropped.j0]) (Ev.now _)
  have live : Ev (fun k => impl_Dropped.j0 k l w n false) ((negs (serve l w n) : Int)) := by
    refine Ev.round ((Lt.of (impl_sv_ev l hn w n)).and (Lt.of hs)) fun k ⟨e1, e2⟩ => ?_
    simp only [impl_Dropped.j0]
    rw [if_neg (by simp), e1]
    simp only [Option.bind_some]
    rw [impl_dr_eq _ _ _ _ (by omega)]
    simpa using e2
  unfold dropped
  by_cases h : rt l w n = true
  · rw [if_pos h]
    obtain ⟨h1, h2, h3, h4, h5⟩ := rt_in h
    refine Lt.ev ((Lt.of (impl_img_ev l hn)).and (Lt.of live)) fun k ⟨e1, e2⟩ => ?_
    simp only [impl_Dropped.f, e1, h1, Option.bind_some, impl_isWait.f]
    simp [h2, h3, show ¬ n < 1 by omega, show ¬ n > 16 by omega, e2]
  · rw [if_neg h]
    refine Lt.ev ((Lt.of (impl_img_ev l hn)).and (Lt.of dead)) fun k ⟨e1, e2⟩ => ?_
    simp only [impl_Dropped.f, e1, Option.bind_some, impl_isWait.f]
    cases hi : imgsOk l with
    | false => simp [e2]
    | true =>
      by_cases h1 : w ≥ 0
      · by_cases h2 : w ≤ 5000
        · by_cases h3 : n < 1
          · simp [h1, h2, h3, e2]
          · have h4 : n > 16 := by
              have : ¬ (n ≤ 16) := fun h4 => h (by simp only [rt, hi, Bool.and_eq_true, decide_eq_true_eq]; exact ⟨⟨⟨⟨trivial, by omega⟩, h2⟩, by omega⟩, h4⟩)
              omega
            simp [h1, h2, h3, h4, e2]
        · simp [h1, h2, e2]
      · simp [h1, e2]
/-- The first number from n on, of d, that is answered by zero. -/
def least (D : Int → Int) : Nat → Int → Int
  | 0, _ => -1
  | d + 1, n => if D n = 0 then n else least D d (n + 1)
end Go.Proofs.Ytdmbfmfdijgdkaa.Pu
