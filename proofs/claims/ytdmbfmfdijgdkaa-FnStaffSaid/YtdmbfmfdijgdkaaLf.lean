/- LeastStaff: both versions alike. -/
import Derived.Test.YtdmbfmfdijgdkaaLs
import Derived.Test.YtdmbfmfdijgdkaaPx5
namespace Go.Proofs.Ytdmbfmfdijgdkaa.Pu
open Go.RowKit Go.Proofs.Ytdmbfmfdijgdkaa.Px Go.Proofs.YtdmbfmfdijgdkaaW.PrintWords Go.Proofs.YtdmbfmfdijgdkaaW.PrintLast Go.Proofs.YtdmbfmfdijgdkaaW.PrintMore
set_option linter.unusedVariables false

def leastStaff (l : List S41) (w : Int) : Int := least (dropped l w) 16 1
theorem spec_ls_l (l : List S41) (hn : l.length ≤ 4611686018427387904) (w : Int) : ∀ (d : Nat) (n : Int), n + d = 17 → 1 ≤ n → Ev (fun k => spec_LeastStaff.l0 k l w n) (least (dropped l w) d n) := by
  intro d
  induction d with
  | zero =>
    intro n h h1
    refine Ev.step (f := fun _ => some (-1)) (fun k => ?_) (Ev.now _)
    simp only [spec_LeastStaff.l0]
    rw [if_neg (by omega)]
  | succ d ih =>
    intro n h h1
    refine Ev.round ((Lt.of (spec_dr_ev l hn w n)).and (Lt.of (ih (n + 1) (by omega) (by omega)))) fun k ⟨e1, e2⟩ => ?_
    simp only [spec_LeastStaff.l0, e1, Option.bind_some, least]
    rw [if_pos (by omega), wrap_in (x := n + 1) (by omega) (by omega)]
    split
    · rfl
    · exact e2
theorem impl_ls_l (l : List S41) (hn : l.length ≤ 4611686018427387904) (w : Int) : ∀ (d : Nat) (n : Int), n + d = 17 → 1 ≤ n → Ev (fun k => impl_LeastStaff.l0 k l w n) (least (dropped l w) d n) := by
  intro d
  induction d with
  | zero =>
    intro n h h1
    refine Ev.step (f := fun _ => some (-1)) (fun k => ?_) (Ev.now _)
    simp only [impl_LeastStaff.l0]
    rw [if_neg (by omega)]
  | succ d ih =>
    intro n h h1
    refine Ev.round ((Lt.of (impl_dr_ev l hn w n)).and (Lt.of (ih (n + 1) (by omega) (by omega)))) fun k ⟨e1, e2⟩ => ?_
    simp only [impl_LeastStaff.l0, e1, Option.bind_some, least]
    rw [if_pos (by omega), wrap_in (x := n + 1) (by omega) (by omega)]
    split
    · rfl
    · exact e2
theorem spec_ls_ev (l : List S41) (hn : l.length ≤ 4611686018427387904) (w : Int) : Ev (fun k => spec_LeastStaff.f k l w) (leastStaff l w) :=
  Ev.congr (fun k => by simp only [spec_LeastStaff.f]) (spec_ls_l l hn w 16 1 (by omega) (by omega))
theorem impl_ls_ev (l : List S41) (hn : l.length ≤ 4611686018427387904) (w : Int) : Ev (fun k => impl_LeastStaff.f k l w) (leastStaff l w) :=
  Ev.congr (fun k => by simp only [impl_LeastStaff.f]) (impl_ls_l l hn w 16 1 (by omega) (by omega))
end Go.Proofs.Ytdmbfmfdijgdkaa.Pu
